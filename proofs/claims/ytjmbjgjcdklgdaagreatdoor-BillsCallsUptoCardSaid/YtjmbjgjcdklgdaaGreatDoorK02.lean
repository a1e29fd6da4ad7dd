/-
  Part 2 of the road: a checked reading of bodies, and what the functions on it do (XM X11 X12 X13 X14 X15 X16 X17 X18 X19 X20 XL XG XS XC X21 X22).
-/
import Derived.Test.YtjmbjgjcdklgdaaGreatDoorK01
import Derived.Orders
import Derived.Tactics
import Derived.Control
import Derived.Deep.LoopGhost
import Derived.Scope
namespace Go.X
open Go.RowKit (Below)
section
variable {P:Program} {B:wY} {C:Ctx} {σ:St} {ρ:Env} {w:World} {o:Oper} {ev:Operand->Value} {out:Out}
theorem yW (w:World) (y:Obj):(w.alloc y).heap[w.heap.size]? =some y:=by
 show(w.heap.push y)[w.heap.size]? =some y;simp
theorem In {U dst:Nat} (n:C.ok P) (d:o.op= .makeMap U none) (h:kO C σ dst (.makeMap U none)=some out) (g:Sat P B ρ σ.obj w)
 (s:σ.obj dst=none) (u:qY σ.obj dst):kS P o ev w (kM P B ρ σ out):=by
 simp only[kO,n.lit] at h
 split at h
 case h_2=>rename_i e _;cases e
 case h_3=>cases h
 rename_i ti tk te _ t;simp at h;subst h;obtain⟨a,k,l,m,_,_⟩:=F7 g s u (.map #[] 0) 0 0 (.map false tk.ty te.ty []) (fun a q _ _=>by
  simp only[wH,fzM];refine⟨w.heap.size,0,#[],0,rfl,yW w _,⟨rfl,jk _,fun i e b=>by simp at b,fun i j e z b=>by simp at b,fun i x y=>by simp at y⟩,?_⟩;rw[q];cases r:ρ.H w.heap.size with
  |none=>rfl
  |some c=>have:=g.good.lt r;omega)
 refine wB (v:= .map (some w.heap.size)) (w':=w.alloc (.map #[] 0)) (by simp[execOp,d,Instr.makeMap]) ⟨a,?_,l,?_,trivial⟩
 .simpa[gg,<-vw] using k
 .simp only[SV.den];intro p f;rw[m] at f;simp at f;subst f;exact⟨_,_,rfl,rfl⟩
def fO {α β:Type}:List (α×β)->List α
 |[]=>[]
 |x::r=>x.1::fO r
theorem Io {H:Imm} {kt vt:Ty}:∀(es:List MapEntry) (l:List (kt.Data×vt.Data)),es.length=l.length->(∀(i:Nat) (x:kt.Data×vt.Data),l[i]? =some x->∃e:MapEntry,es[i]? =some e/\kt.rv H e.key x.1/\vt.rv H e.val x.2)->EL H kt es (fO l)
 |[],[],_,_=>trivial
 |[],_::_,h,_=>by simp at h
 |_::_,[],h,_=>by simp at h
 |e::es,x::l,h,hx=>by
  refine⟨?_,Io es l (by simpa using h) (fun i y c=>by simpa using hx (i+1) y (by simpa using c))⟩
  obtain⟨d,a,b,_⟩:=hx 0 x rfl
  simp at a;subst a
  exact b
theorem gV {H:Imm} {kt vt:Ty} (a:kt.Data):∀(es:List MapEntry) (l:List (kt.Data×vt.Data)) (i:Nat),es.length=l.length->(∀(i:Nat) (x:kt.Data×vt.Data),l[i]? =some x->∃e:MapEntry,es[i]? =some e/\kt.rv H e.key x.1/\vt.rv H e.val x.2)->
 (aA kt a (fO l) es i=none/\kJ kt a l=none/\(∀v:vt.Data,d9 kt a v l=l++[(a,v)]))\/
 ∃(j:Nat) (e:MapEntry) (x:kt.Data×vt.Data),aA kt a (fO l) es i=some (i+j,e.val)/\kJ kt a l=some x.2/\es[j]? =some e/\l[j]? =some x/\x.1=a/\kt.rv H e.key x.1/\vt.rv H e.val x.2/\∀v:vt.Data,d9 kt a v l=l.set j (a,v)
 |[],[],i,_,_=> .inl ⟨rfl,rfl,fun _=>rfl⟩
 |[],_::_,_,h,_=>by simp at h
 |_::_,[],_,h,_=>by simp at h
 |e::es,x::l,i,h,hx=>by
  obtain⟨f,g,q,r⟩:=hx 0 x rfl
  simp at g;subst g
  by_cases hk: @decide (a=x.1) (kt.decEq a x.1)=true
  refine .inr ⟨0,e,x,by simp only[fO,aA,hk,if_true];rfl,by simp only[kJ,hk,if_true],rfl,rfl,(@jb _ (_) hk).symm,q,r,fun v=>by simp only[d9,hk,if_true];rfl⟩
  rcases gV (H:=H) a es l (i+1) (by simpa using h) (fun i y s=>by simpa using hx (i+1) y (by simpa using s)) with⟨b,c,d⟩|⟨j,f,t,b,c,d,k,m,n,o,p⟩
  exact .inl ⟨by simp only[fO,aA,hk];exact b,by simp only[kJ,hk];exact c,fun v=>by simp only[d9,hk];rw[show d9 kt a v l=_ from d v];rfl⟩
  refine .inr ⟨j+1,f,t,by simp only[fO,aA,hk];rw[show aA kt a (fO l) es (i+1)=_ from b];simp;omega,by simp only[kJ,hk];exact c,by simpa using d,by simpa using k,m,n,o,fun v=>by simp only[d9,hk];rw[show d9 kt a v l=_ from p v];rfl⟩
theorem Sb {ti:TI} (h:ti.ok P) (hk:qB ti.ty=true) (H:Imm):∃z,(∀w,(zeroValue ti.id).run P w= .ok z w)/\ti.ty.rv H z ti.ty.dflt:=by
 obtain⟨i,z,_,_,_,_,c,a,b⟩:=yU h;obtain⟨d,e⟩:=h.known hk;refine⟨z,c,by rw[b,d],?_,?_⟩;rw[<-jZ,a,h.zlen,e];refine Ty.rd_congr _ _ _ _ (fun j _=> ?_) (h.zd hk H);rw[<-a];simp
theorem Lh {U dst:Nat} {x m:Operand} {ok:Bool} (R:C.ok P) (n:o.op= .lookup U x m ok) (h:kO C σ dst (.lookup U x m ok)=some out) (r:Sat P B ρ σ.obj w)
 (E:SV.den P ρ (wc σ x) (ev x)) (t:SV.den P ρ (wc σ m) (ev m)):kS P o ev w (kM P B ρ σ out):=by
 simp only[kO] at h
 split at h
 case h_2=>cases h
 rename_i ti tk te y;obtain⟨_,F,G,a,u,D⟩:=db R y;obtain⟨L,M,_⟩:=F.keyq u
 split at h
 case h_2=>cases h
 rename_i l k S hk;have c:=kP r (fz:=[]) (fun o=>⟨.inl rfl,fun A=>by simp at A⟩) hk (fun o A=>A) t;obtain⟨z,K,q⟩:=Sb G D ρ.H;have key:∃v:Value,te.ty.rv ρ.H v (kW te.ty.dflt (kJ tk.ty k l))/\(execOp ev o).run P w= .ok (.value (if ok then .tuple #[v,.bool (XK (kJ tk.ty k l))] else v)) w:=by
  rcases AP r S E with⟨e,rfl⟩|⟨b,es,clock,e,O,e2⟩
  .refine⟨z,q,?_⟩;have c1:=L ρ.H (ev m) k w true c;have c2:=M ρ.H [] [] (ev m) k w c trivial;simp[execOp,n,Instr.lookup,jB a,e,c1,c2,aA,K,kJ,XK]
  .have I:(getObj b).run P w= .ok (.map es clock) w:=(by simp[getObj,Sem.run,O]);have c1:=L ρ.H (ev m) k w es.isEmpty c;have f:es.toList.length=l.length:=(by simpa using e2.1);have d:∀(i:Nat) (x:tk.ty.Data×te.ty.Data),l[i]? =some x->∃e:MapEntry,es.toList[i]? =some e/\tk.ty.rv ρ.H e.key x.1/\te.ty.rv ρ.H e.val x.2:=fun i x E=>by simpa using e2.2.2.2.2 i x E
   have c2:=M ρ.H es.toList (fO l) (ev m) k w c (Io _ _ f d);rcases gV (H:=ρ.H) k es.toList l 0 f d with⟨s,p,_⟩|⟨j,N,Y,s,p,T,V,W,X,Q,_⟩
   .refine⟨z,by rw[p];exact q,?_⟩;rw[s] at c2;simp[execOp,n,Instr.lookup,jB a,e,I,c1,c2,K,p,XK]
   .refine⟨N.val,by rw[p];exact Q,?_⟩;rw[s] at c2;simp[execOp,n,Instr.lookup,jB a,e,I,c1,c2,p,XK]
 obtain⟨v,J,g⟩:=key
 split at h
 .simp only[Out.pure,jv] at h;subst h;refine ky r (v:=_) (by simpa using g) ?_ trivial;simp only[SV.den,SV.denL];exact⟨_,rfl,_,_,rfl,J,_,_,rfl,yu _,rfl⟩
 .simp only[Out.pure,jv] at h;subst h;exact ky r (v:=v) (by simpa using g) (by simpa only[SV.den] using J) trivial
theorem nq {U:Nat} {m f x:Operand} (hC:C.ok P) (g:o.op= .mapUpdate U m f x\/o.op= .insert U m f x) (h:VF C σ U m f x=some out) (hS:Sat P B ρ σ.obj w)
 (hm:SV.den P ρ (wc σ m) (ev m)) (hix:SV.den P ρ (wc σ f) (ev f)) (hx:SV.den P ρ (wc σ x) (ev x)):kS P o ev w (kM P B ρ σ out):=by
 unfold VF at h
 split at h
 case h_2=>cases h
 rename_i ti tk te hmp;obtain⟨_,ok2,ok3,J,hkq,hte⟩:=db hC hmp;obtain⟨q1,q2,q3⟩:=ok2.keyq hkq
 split at h
 case h_2=>cases h
 rename_i ob hob;rw[hob] at hm
 split at h
 case h_2=>cases h
 rename_i kt vt l R
 split at h
 case h_2=>cases h
 rename_i l' k v fz hc hk hv
 split at h
 case h_2=>cases h
 rename_i D;have D:=vJ D;simp at h;subst h;obtain⟨e,rfl⟩:=kz hc;obtain⟨e1,e2⟩:kt=tk.ty/\vt=te.ty:=by injection e with a b;exact⟨a,b⟩
 subst e1;subst e2;have M:yT e l=l:=rfl;rw[M];obtain⟨ρ1,K,A,hb1,hn1⟩:=wg (σ:=σ) fz hS;have X:=kP hS (fz:=[]) (fun o=>⟨.inl rfl,fun R=>by simp at R⟩) hk (fun o R=>R) hix;have s:=Ty.rv_mono A.H X;have Z:=kP K (vo σ fz) hv (fun o R=>R) (SV.den_mono A _ _ (fun r hr=>by simp at hr) hx);have ho1:(σ.frz fz).obj ob=some (.map false tk.ty te.ty l):=(by rw[qC,jc D];exact R);obtain⟨p,hp,hs⟩:=K.obs ob _ ho1;simp only[wH,fzM] at hs;obtain⟨b,Cp,es,clock,rfl,k1,k2,k3⟩:=hs;simp only[SV.den] at hm;obtain⟨b',C',f1,f2⟩:=hm _ (by rw[<-hb1];exact hp);simp at f1;obtain⟨rfl,rfl⟩:=f1;have hg:(getObj b).run P w= .ok (.map es clock) w:=(by simp[getObj,Sem.run,k1]);have I:∀y:Obj,(setObj b y).run P w= .ok () {w with heap:=w.heap.setIfInBounds b y}:=fun y=>by simp[setObj,Sem.run,k1]
 have W:b<w.heap.size:=(jt.1 k1).1;have c1:=q1 ρ.H (ev f) k w false X;obtain⟨m1,m2,m3,m4,m5⟩:=k2;have G:es.toList.length=l.length:=(by simpa using m1);have F:∀(i:Nat) (x:tk.ty.Data×te.ty.Data),l[i]? =some x->∃e:MapEntry,es.toList[i]? =some e/\tk.ty.rv ρ1.H e.key x.1/\te.ty.rv ρ1.H e.val x.2:=fun i x hx=>by simpa using m5 i x hx
 have c2:=q2 ρ1.H es.toList (fO l) (ev f) k w s (Io _ _ G F);have S:∀(z:Array MapEntry) (c:Nat),iO ρ1.H tk.ty te.ty z c (d9 tk.ty k v l)->(execOp ev o).run P w= .ok .skip {w with heap:=w.heap.setIfInBounds b (.map z c)}->kS P o ev w (kM P B ρ σ ⟨[],[],.any,fz,[(ob,some (.map false tk.ty te.ty (d9 tk.ty k v l)))],[]⟩):=by
  intro z c hrd Y;refine pB Y ⟨ρ1,?_,A,vz _,trivial⟩;have:=iS K hp k3 (.map false tk.ty te.ty (d9 tk.ty k v l)) (w':={w with heap:=w.heap.setIfInBounds b (.map z c)}) ⟨rfl,rfl,rfl,jk _,by simp,fun j hj=>(by show(w.heap.setIfInBounds b _)[j]? =_;rw[jG,jc (fun h=>hj h.symm)])⟩ (by
   simp only[wH,fzM];exact⟨b,Cp,z,c,rfl,by simp[W],hrd,k3⟩)
  rw[jV,jW];show Sat P B ρ1 ({(σ.frz fz) with ob:=(ob,_)::(σ.frz fz).ob}:St).obj _;rw[vw];exact this
 rcases gV (H:=ρ1.H) k es.toList l 0 G F with⟨g1,g2,g3⟩|⟨j,u,x',g1,g2,g3,g4,g5,g6,g7,g8⟩
 .rw[g1] at c2;refine S (es.push {key:=ev f,val:=ev x,born:=clock}) (clock+1) ?_ ?_
  .rw[g3];have Q:∀(i:Nat) (e:MapEntry),(es.push {key:=ev f,val:=ev x,born:=clock})[i]? =some e->(i<es.size/\es[i]? =some e)\/(i=es.size/\e={key:=ev f,val:=ev x,born:=clock}):=by
    intro i e d;rw[zX] at d
    split at d
    .rename_i hi;simp at d;exact .inr ⟨hi,d.symm⟩
    .exact .inl ⟨(jt.1 d).1,d⟩
   refine⟨by simp[m1],by simp;omega,fun i e d=> ?_,fun i j e u d N L=> ?_,fun i y n=> ?_⟩
   .rcases Q i e d with⟨_,h⟩|⟨_,rfl⟩
    .have:=m3 i e h;omega
    .simp
   .rcases Q i e d with⟨h0,h⟩|⟨h0,rfl⟩<;>rcases Q j u N with⟨V,T⟩|⟨V,rfl⟩
    .exact m4 i j e u h T L
    .have:=m3 i e h;simp at L;omega
    .have:=m3 j u T;simp at L;omega
    .omega
   .by_cases hi:i<l.length
    .rw[jz hi] at n;obtain⟨e,h1,h2,h3⟩:=m5 i y n;exact⟨e,by rw[zX,jc (by omega)];exact h1,h2,h3⟩
    .rw[jx (by omega)] at n;have:i-l.length=0:=by
      by_cases e:i-l.length=0
      .exact e
      .obtain⟨q,hq⟩:∃q,i-l.length=q+1:=⟨i-l.length-1,by omega⟩;rw[hq] at n;simp at n
     rw[this] at n;simp at n;subst n;exact⟨{key:=ev f,val:=ev x,born:=clock},by rw[zX,jg (by omega)],s,Z⟩
  .rcases g with g|g<;>simp[execOp,g,Instr.mapUpdate,jB J,f2,hg,c1,c2,I]
 .rw[g1] at c2;have hsb:=q3 ρ1.H u.key (ev f) k (g5▸g6) s;have t:es[j]? =some u:=(by simpa using g3);refine S (es.modify j fun e=>{e with key:=ev f,val:=ev x}) clock ?_ ?_
  .rw[g8];have E:∀(i:Nat) (e:MapEntry),(es.modify j fun e=>{e with key:=ev f,val:=ev x})[i]? =some e->(i≠j/\es[i]? =some e)\/(i=j/\e={u with key:=ev f,val:=ev x}):=by
    intro i e d;rw[zv] at d
    split at d
    .rename_i hi;subst hi;rw[t] at d;simp at d;exact .inr ⟨rfl,d.symm⟩
    .rename_i hi;exact .inl ⟨fun h=>hi h.symm,d⟩
   refine⟨by simp[m1],by simpa using m2,fun i e d=> ?_,fun i i' e e2 d N L=> ?_,fun i y n=> ?_⟩
   .rcases E i e d with⟨_,h⟩|⟨rfl,rfl⟩
    .exact m3 i e h
    .exact m3 i u t
   .rcases E i e d with⟨h0,h⟩|⟨rfl,rfl⟩<;>rcases E i' e2 N with⟨V,T⟩|⟨rfl,rfl⟩
    .exact m4 i i' e e2 h T L
    .exact m4 i i' e u h t L
    .exact m4 i i' u e2 t T L
    .rfl
   .rw[List.getElem?_set] at n;by_cases O:j=i
    .subst O;rw[jg rfl] at n;have hjl:j<l.length:=(by have:=(jl.1 g4).1;exact this);rw[jg hjl] at n;simp at n;subst n;exact⟨{u with key:=ev f,val:=ev x},by rw[zv,jg rfl,t];rfl,s,Z⟩
    .rw[jc O] at n;obtain⟨e,h1,h2,h3⟩:=m5 i y n;exact⟨e,by rw[zv,jc O];exact h1,h2,h3⟩
  .have hks:(Instr.keyThatStays u.key (ev f)).run P w= .ok (ev f) w:=(by simp[Instr.keyThatStays,hsb]);rcases g with g|g<;>simp[execOp,g,Instr.mapUpdate,jB J,f2,hg,c1,c2,I,t,hks]
theorem Sc {H:Imm} {kt vt:Ty} {es:Array MapEntry} {clock:Nat} {l:List (kt.Data×vt.Data)} (h:iO H kt vt es clock l) {d f:Value} {k:kt.Data} {v:vt.Data} (hk:kt.rv H d k) (z:vt.rv H f v):
 iO H kt vt (es.push {key:=d,val:=f,born:=clock}) (clock+1) (l++[(k,v)]):=by
 obtain⟨A,D,p,B,C⟩:=h;have c:∀(i:Nat) (e:MapEntry),(es.push {key:=d,val:=f,born:=clock})[i]? =some e->(i<es.size/\es[i]? =some e)\/(i=es.size/\e={key:=d,val:=f,born:=clock}):=by
  intro i e a;rw[zX] at a
  split at a
  rename_i hi;simp at a;exact .inr ⟨hi,a.symm⟩;exact .inl ⟨(jt.1 a).1,a⟩
 refine⟨by simp[A],by simp;omega,fun i e a=> ?_,fun i j e g a o n=> ?_,fun i y b=> ?_⟩;rcases c i e a with⟨_,h⟩|⟨_,rfl⟩;have:=p i e h;omega;simp;rcases c i e a with⟨s,h⟩|⟨s,rfl⟩<;>rcases c j g o with⟨m,r⟩|⟨m,rfl⟩
 exact B i j e g h r n;have:=p i e h;simp at n;omega;have:=p j g r;simp at n;omega;omega;by_cases hi:i<l.length;rw[jz hi] at b;obtain⟨e,t,u,w⟩:=C i y b;exact⟨e,by rw[zX,jc (by omega)];exact t,u,w⟩;rw[jx (by omega)] at b;have:i-l.length=0:=by
  by_cases e:i-l.length=0;exact e;obtain⟨q,x⟩:∃q,i-l.length=q+1:=⟨i-l.length-1,by omega⟩;rw[x] at b;simp at b
 rw[this] at b;simp at b;subst b;exact⟨{key:=d,val:=f,born:=clock},by rw[zX,jg (by omega)],hk,z⟩
theorem XS {H:Imm} {kt vt:Ty} {es:Array MapEntry} {clock:Nat} {l:List (kt.Data×vt.Data)} (h:iO H kt vt es clock l) {j:Nat} {b:MapEntry} (m:es[j]? =some b) {f:MapEntry->MapEntry} (p:(f b).born=b.born)
 {k:kt.Data} {v:vt.Data} (hk:kt.rv H (f b).key k) (B:vt.rv H (f b).val v):iO H kt vt (es.modify j f) clock (l.set j (k,v)):=by
 obtain⟨C,D,u,s,E⟩:=h;have a:∀(i:Nat) (e:MapEntry),(es.modify j f)[i]? =some e->(i≠j/\es[i]? =some e)\/(i=j/\e=f b):=by
  intro i e c;rw[zv] at c
  split at c
  rename_i hi;subst hi;rw[m] at c;simp at c;exact .inr ⟨rfl,c.symm⟩;rename_i hi;exact .inl ⟨fun h=>hi h.symm,c⟩
 refine⟨by simp[C],by simpa using D,fun i e c=> ?_,fun i o e e2 c q d=> ?_,fun i y n=> ?_⟩;rcases a i e c with⟨_,h⟩|⟨rfl,rfl⟩;exact u i e h;rw[p];exact u i b m;rcases a i e c with⟨F,h⟩|⟨rfl,rfl⟩<;>rcases a o e2 q with⟨w,t⟩|⟨rfl,rfl⟩
 exact s i o e e2 h t d;exact s i o e b h m (d.trans p);exact s i o b e2 m t (p.symm.trans d);rfl;rw[List.getElem?_set] at n;by_cases g:j=i;subst g;have r:j<l.length:=(by have:=(jt.1 m).1;omega);rw[jg rfl,jg r] at n;simp at n;subst n;exact⟨f b,by rw[zv,jg rfl,m];rfl,hk,B⟩;rw[jc g] at n;obtain⟨e,x,z,A⟩:=E i y n;exact⟨e,by rw[zv,jc g];exact x,z,A⟩
theorem Sd {U:Nat} {ti tk te:TI} (R:C.ok P) (E:C.mapT U=some (ti,tk,te)) {H:Imm} {b:Nat} {es:Array MapEntry} {clock:Nat} {l:List (tk.ty.Data×te.ty.Data)} (N:w.heap[b]? =some (.map es clock))
 (c:iO H tk.ty te.ty es clock l) {d:Value} {k:tk.ty.Data} (hk:tk.ty.rv H d k):
 ∃(v:Value) (s:Int) (n:Array MapEntry) (a:Nat),(Instr.mapEntry U (.map (some b)) d).run P w= .ok (.tuple #[v,.int .i64 s]) {w with heap:=w.heap.setIfInBounds b (.map n a)}/\
  iO H tk.ty te.ty n a (cT tk.ty te.ty.dflt k l)/\te.ty.rv H v (kW te.ty.dflt (kJ tk.ty k l))/\
  ∃(j:Nat) (e:MapEntry),n[j]? =some e/\(e.born:Int)=s/\∀v,d9 tk.ty k v l=(cT tk.ty te.ty.dflt k l).set j (k,v):=by
 obtain⟨_,I,J,m,B,G⟩:=db R E;obtain⟨V,W,X⟩:=I.keyq B;have M:(getObj b).run P w= .ok (.map es clock) w:=(by simp[getObj,Sem.run,N]);have h:∀y:Obj,(setObj b y).run P w= .ok () {w with heap:=w.heap.setIfInBounds b y}:=fun y=>by simp[setObj,Sem.run,N]
 have c1:=V H d k w false hk;have g:es.toList.length=l.length:=(by simpa using c.1);have f:∀(i:Nat) (x:tk.ty.Data×te.ty.Data),l[i]? =some x->∃e:MapEntry,es.toList[i]? =some e/\tk.ty.rv H e.key x.1/\te.ty.rv H e.val x.2:=fun i x S=>by simpa using c.2.2.2.2 i x S
 have c2:=W H es.toList (fO l) d k w hk (Io _ _ g f);rcases gV (H:=H) k es.toList l 0 g f with⟨A,q,u⟩|⟨j,p,Y,A,q,u,Z,O,Q,K,L⟩;rw[A] at c2;obtain⟨z,T,t⟩:=Sb J G H;have r:cT tk.ty te.ty.dflt k l=l++[(k,te.ty.dflt)]:=(by unfold cT;rw[q,u];rfl);refine⟨z,clock,es.push {key:=d,val:=z,born:=clock},clock+1,?_,?_,by rw[q];exact t,l.length,{key:=d,val:=z,born:=clock},?_,rfl,fun v=> ?_⟩;simp[Instr.mapEntry,jB m,M,c1,c2,h,T,goInt];rw[r];exact Sc c hk t;rw[zX,jg c.1.symm];rw[r,u,List.set_append_right _ _ (jk _)];simp;rw[A] at c2;have o:es[j]? =some p:=(by simpa using u);have F:=X H p.key d k (O▸Q) hk;have r:cT tk.ty te.ty.dflt k l=l.set j (k,Y.2):=(by unfold cT;rw[q,L];rfl);have D:(Instr.keyThatStays p.key d).run P w= .ok d w:=(by simp[Instr.keyThatStays,F]);refine⟨p.val,p.born,es.modify j fun e=>{e with key:=d},clock,?_,?_,by rw[q];exact K,j,{p with key:=d},?_,rfl,fun v=> ?_⟩;simp[Instr.mapEntry,jB m,M,c1,c2,h,o,D,goInt];rw[r];exact XS c o rfl hk K;rw[zv,jg rfl,o];rfl;rw[r,L,List.set_set]
theorem AT {U dst:Nat} {m st x:Operand} (_:C.ok P) (X:o.op= .entryStore U m st x) (h:kO C σ dst (.entryStore U m st x)=some out) (hS:Sat P B ρ σ.obj w)
 (S:SV.den P ρ (wc σ m) (ev m)) (Y:SV.den P ρ (wc σ st) (ev st)) (hx:SV.den P ρ (wc σ x) (ev x)) (K:qX out.vc):kS P o ev w (kM P B ρ σ out):=by
 simp only[kO] at h
 split at h
 case h_2=>cases h
 rename_i ti tk te hmp
 split at h
 case h_2=>cases h
 rename_i ob s W hs;rw[W] at S
 split at h
 case h_2=>cases h
 rename_i kt vt l k s' T
 split at h
 case h_2=>cases h
 rename_i l' k' v fz hc hk hv
 split at h
 case h_2=>cases h
 rename_i d;have d:=vJ d;simp at h;subst h;obtain⟨e,rfl⟩:=kz hc;obtain⟨e1,e2⟩:kt=tk.ty/\vt=te.ty:=by injection e with a b;exact⟨a,b⟩
 subst e1;subst e2;obtain⟨ek,f⟩:=kz hk;have f:k=k':=(by first|exact f|exact f.symm);subst f;have q:yT e l=l:=rfl;rw[q];simp only[qX] at K;obtain⟨J,_⟩:=K;have Z:ev st= .int .i64 s:=vF (i:=s) (by rw[hs];rfl) Y;obtain⟨ρ1,n,g,O,hn1⟩:=wg (σ:=σ) fz hS;have hvr:=kP n (vo σ fz) hv (fun o T=>T) (SV.den_mono g _ _ (fun r hr=>by simp at hr) hx);have V:(σ.frz fz).obj ob=some (.mape tk.ty te.ty l k s'):=(by rw[qC,jc d];exact T);obtain⟨p,hp,G⟩:=n.obs ob _ V;simp only[wH] at G;obtain⟨b,Cp,es,clock,rfl,k1,M,k3,j,N,L,j2,j3⟩:=G;simp only[SV.den] at S;obtain⟨b',C',f1,f2⟩:=S _ (by rw[<-O];exact hp);simp at f1;obtain⟨rfl,rfl⟩:=f1;have hg:(getObj b).run P w= .ok (.map es clock) w:=(by simp[getObj,Sem.run,k1]);have I:∀y:Obj,(setObj b y).run P w= .ok () {w with heap:=w.heap.setIfInBounds b y}:=fun y=>by simp[setObj,Sem.run,k1]
 have A:b<w.heap.size:=(jt.1 k1).1;obtain⟨D,R⟩:=jt.1 L;have t:es.findIdx? (fun e=>(e.born:Int)==s)=some j:=by
  rw[Array.findIdx?_eq_some_iff_getElem];refine⟨D,by rw[R];simp[j2,J],fun i hi=> ?_⟩;have Q:i<es.size:=(by omega);intro c;have c:((es[i]).born:Int)=s:=(by simpa using c);have:=M.2.2.2.1 i j es[i] N (jR Q) L (by
   have z:((es[i]).born:Int)=(N.born:Int):=by rw[c,j2,J]
   exact_mod_cast z)
  omega
 have u:j<(cT tk.ty te.ty.dflt k l).length:=(by have:=M.1;omega);have E:tk.ty.rv ρ1.H N.key k:=by
  obtain⟨e2,z,h2,_⟩:=M.2.2.2.2 j _ (jp u);rw[L] at z;simp at z;subst z;have h3:=j3 (kW te.ty.dflt (kJ tk.ty k l));have h4:((cT tk.ty te.ty.dflt k l)[j]).1=k:=by
   have:(cT tk.ty te.ty.dflt k l)[j]? =some (k,kW te.ty.dflt (kJ tk.ty k l)):=by
    conv=>lhs;rw[show cT tk.ty te.ty.dflt k l=_ from h3]
    rw[List.getElem?_set,jg rfl,jg u]
   rw[jp u] at this;simp at this;rw[this]
  rw[h4] at h2;exact h2
 have F:(execOp ev o).run P w= .ok .skip {w with heap:=w.heap.setIfInBounds b (.map (es.modify j fun e=>{e with val:=ev x}) clock)}:=by
  simp[execOp,X,Instr.entryStore,f2,hg,Z,Go.asInt,asIntOf,t,I]
 refine pB F ⟨ρ1,?_,g,vz _,trivial⟩;have:=iS n hp k3 (.map false tk.ty te.ty (d9 tk.ty k v l)) (w':={w with heap:=w.heap.setIfInBounds b (.map (es.modify j fun e=>{e with val:=ev x}) clock)}) ⟨rfl,rfl,rfl,jk _,by simp,fun j hj=>(by show(w.heap.setIfInBounds b _)[j]? =_;rw[jG,jc (fun h=>hj h.symm)])⟩ (by
  simp only[wH,fzM];refine⟨b,Cp,es.modify j fun e=>{e with val:=ev x},clock,rfl,by simp[A],?_,k3⟩;rw[j3];exact XS M L rfl E hvr)
 rw[jV,jW];show Sat P B ρ1 ({(σ.frz fz) with ob:=(ob,_)::(σ.frz fz).ob}:St).obj _;rw[vw];exact this
theorem Pp {U dst:Nat} {x:Operand} (S:C.ok P) (s:o.op= .range U x) (h:kO C σ dst (.range U x)=some out) (V:Sat P B ρ σ.obj w)
 (Y:σ.obj dst=none) (I:qY σ.obj dst) (k:SV.den P ρ (wc σ x) (ev x)):kS P o ev w (kM P B ρ σ out):=by
 simp only[kO] at h
 split at h
 case h_2=>cases h
 rename_i ti tk te A;obtain⟨_,_,_,j,_,_⟩:=db S A
 split at h
 case h_2=>cases h
 rename_i l fz hl;simp at h;subst h;obtain⟨ρ1,d,g,W,q⟩:=wg (σ:=σ) fz V;have a:=kP d (vo σ fz) hl (fun o D=>D) (SV.den_mono g _ _ (fun r a=>by simp at a) k);obtain⟨p,v,Q,R⟩:=wE (t:= .map tk.ty te.ty) rfl a;simp at v;have z:(σ.frz fz).obj dst=none:=(by rw[qC,Y];simp);have q:qY (σ.frz fz).obj dst:=by
  intro r T f cs a;rw[qC] at a
  split at a
  .cases k:σ.obj r with
   |none=>rw[k] at a;cases a
   |some y=>
    rw[k] at a;cases y<;>simp[qI] at a
    obtain⟨rfl,_,rfl⟩:=a;exact I r _ _ _ k
  .exact I r T f cs a
 have n:∀(y:Obj),nf ρ1.H tk.ty te.ty l none y->(execOp ev o).run P w= .ok (.value (.pointer (some ⟨w.heap.size,0,none⟩))) (w.alloc y)->kS P o ev w (kM P B ρ σ ⟨[],[],.ip dst,fz,[(dst,some (.iter tk.ty te.ty l none))],[dst]⟩):=by
  intro y hy u;obtain⟨m,M,N,O,_,_⟩:=F7 d z q y 0 0 (.iter tk.ty te.ty l none) (fun m G _ _=>by
   simp only[wH];refine⟨w.heap.size,0,y,rfl,yW w _,by rw[G];exact hy,?_⟩;rw[G];cases X:ρ1.H w.heap.size with
   |none=>rfl
   |some c=>have:=d.good.lt X;omega)
  refine wB u ⟨m,?_,(g.weaken (fun o D=>by simp at D)).trans N,?_,trivial⟩
  .rw[jV,jW];show Sat P B m ({(σ.frz fz) with ob:=(dst,_)::(σ.frz fz).ob}:St).obj _;rw[vw];exact M
  .simp only[SV.den];intro p E;rw[O] at E;simp at E;subst E;exact⟨_,_,rfl,rfl⟩
 cases p with
 |none=>
  have:=Q rfl;subst this;refine n (.mapIter none 0 #[] 0) ⟨rfl,rfl⟩ ?_;simp[execOp,s,Instr.range,jB j,v]
 |some b=>
  obtain⟨es,clock,F,e2,e3,J,K,L⟩:=R b rfl;have hw:=d.good.1 b _ F;have Z:(getObj b).run P w= .ok (.map es clock) w:=by
   have:w.heap[b]? =some (.map es clock):=hw;simp[getObj,Sem.run,this]
  refine n (.mapIter (some b) clock #[] clock) ⟨es,clock,F,rfl,J,K,.inl rfl,⟨es.toList,?_,by simpa using e2,fun i x k=> ?_⟩,trivial⟩ ?_
  .rw[List.filter_eq_self.2];intro e _;simp
  .obtain⟨e,q1,q2,q3⟩:=L i x k;exact⟨e,by simpa using q1,q2,q3⟩
  .simp[execOp,s,Instr.range,jB j,v,Z]
theorem Pq {dst:Nat} {it:Operand} (z:o.op= .entry it) (h:kO C σ dst (.entry it)=some out) (n:Sat P B ρ σ.obj w)
 (d:SV.den P ρ (wc σ it) (ev it)):kS P o ev w (kM P B ρ σ out):=by
 simp only[kO] at h
 split at h
 case h_2=>cases h
 rename_i ob u;rw[u] at d
 split at h
 case h_2=>cases h
 rename_i kt vt left x O;simp only[Out.pure,jv] at h;subst h;obtain⟨p,Q,F⟩:=n.obs ob _ O;simp only[wH] at F;obtain⟨b,S,y,rfl,R,k,Y⟩:=F;simp only[SV.den] at d;obtain⟨T,C',A,e2⟩:=d _ Q;simp at A;obtain⟨rfl,rfl⟩:=A;unfold nf at k
 split at k
 .exact absurd k.2 (by simp)
 .rename_i m f l a;obtain⟨es,clock,K,V,W,L,X,_,M,e,D,H,I,J⟩:=k;have N:w.heap[m]? =some (.map es clock):=n.good.1 m _ K;have r:(getObj b).run P w= .ok (.mapIter (some m) f l a) w:=(by simp[getObj,Sem.run,R]);have s:(getObj m).run P w= .ok (.map es clock) w:=(by simp[getObj,Sem.run,N]);have c:es.find? (·.born==e.born)=some e:=by
   cases q:es.find? (·.born==e.born) with
   |none=>
    have:=Array.find?_eq_none.1 q e (by simpa using D);simp at this
   |some G=>
    have E:=Array.find?_some q;simp at E;have g:=Array.mem_of_find?_eq_some q;obtain⟨i,hi⟩:=Array.getElem?_of_mem g;obtain⟨j,t⟩:=Array.getElem?_of_mem (show e∈es by simpa using D);have:=L i j G e hi t E;subst this;rw[hi] at t;exact t
  refine ky n (v:= .tuple #[e.key,e.val]) ?_ ?_ trivial
  .simp[execOp,z,Instr.entry,e2,r,s,H,M,c]
  .simp only[SV.den,SV.denL];exact⟨_,rfl,_,_,rfl,I,_,_,rfl,J,rfl⟩
 .exact k.elim
theorem DG {U dst:Nat} {l c:Operand} (hC:C.ok P) (S:o.op= .makeSlice U l c) (h:VE C σ dst U l c=some out) (hS:Sat P B ρ σ.obj w) (hd:σ.obj dst=none) (hn:qY σ.obj dst)
 (t:∀x,SV.den P ρ (wc σ x) (ev x)) (I:qX out.vc):kS P o ev w (kM P B ρ σ out):=by
 unfold VE at h
 split at h
 case h_2=>cases h
 rename_i ti te n m F hl L;simp at h;subst h;simp only[qX] at I;obtain⟨h0,R,e,_⟩:=I;subst R;obtain⟨_,W,_,a,G,hka,y,hpos⟩:=wR hC F;obtain⟨i,z,Z,g1,g2,g3,g4,g5⟩:=a.info;rw[W] at Z;have O:=vF hl (t l);have M:=vF L (t c);obtain⟨k,Q⟩:∃k:Nat,n=(k:Int):=Int.eq_ofNat_of_zero_le h0;subst Q;rw[ju] at e⊢;have v:=nU F;have f:0<te.bytes:=(a.pos v).2;have hk2:k<=140737488355328:=by
  have:k*1<=k*te.bytes:=zW _ f;omega
 have J:z.cells.size=te.ty.size:=(by rw[<-jZ,g4,a.zlen,y]);have V:i.size=te.ty.size:=(by rw[g1,y]);have K:(i.bytes:Int)*(k:Int)<=281474976710656:=by
  have:i.bytes*k<=281474976710656:=(by rw[g2,Nat.mul_comm];omega);have h2:((i.bytes*k:Nat):Int)<=281474976710656:=by omega
  rwa [Int.natCast_mul] at h2
 have d:=run_make (P:=P) w U ti.elem i z G Z g3 .i64 .i64 (k:Int) (k:Int) (by omega) (zI _) K (by omega);rw[ju] at d;have E:(execOp ev o).run P w= .ok (.value (.slice (some ⟨w.heap.size,0,none⟩) k k)) (w.alloc (.cells (madeCells z.cells (k*i.size)) ti.elem)):=by
  simp only[execOp,S,O,M,jA,d,jq,jO]
 have A:(madeCells z.cells (k*i.size)).size=k*te.ty.size:=(by rw[size_madeCells,V]);obtain⟨r,q1,q2,q3,q4,q5⟩:=AR hS (own:=none) hd hn (World.grownBy_alloc w (.cells (madeCells z.cells (k*i.size)) ti.elem) none) (jk _) (by simp) (some (w.heap.size,k)) (fun b C s=>by simp at s;exact .inr s.1.symm) k
  (.row ti.elem te.ty false .no (List.replicate k te.ty.dflt)) (fun r hH g _=>by
   refine⟨by rw[g];simp,by simp;omega,fun _=> ?_,_,yW w _,A,by simp,by simp only[maxLen];omega,fun j x X=> ?_,?_⟩
   .rename_i hh;cases hh
   .rw[hH];have hi:j<k:=(by have:=(jl.1 X).1;simpa using this);have Y:x=te.ty.dflt:=by
     rw[List.getElem?_replicate,jg hi] at X;simpa using X.symm
    subst Y;refine te.ty.rd_congr _ _ _ (fun q hq=> ?_) (a.zd v ρ.H);have N:j*te.ty.size+q<k*te.ty.size:=by
     have:(j+1)*te.ty.size<=k*te.ty.size:=jH _ hi;rw[zj] at this;omega
    have u:q<z.cells.size:=(by rw[J];exact hq);have D:(j*te.ty.size+q)%z.cells.size=q:=(by rw[J,Nat.mul_comm,Nat.mul_add_mod,Nat.mod_eq_of_lt hq]);rw[jR (by rw[A];exact N)];simp only[madeCells,Array.getElem_map,Array.getElem_range,D];rw[getElem!_pos z.cells q u,<-g4,zk,jR u]
   .rw[hH];simp only[fzH];cases L:ρ.H w.heap.size with
    |none=>rfl
    |some c=>have:=hS.good.lt L;omega)
 refine wB E ⟨r,?_,q2,?_,trivial⟩
 .show Sat P B r ({σ with ob:=[(dst,_)]++(gg σ []++σ.ob)}:St).obj _;simp only[gg,jW];rw[de];exact q1
 .simp only[SV.den];intro p T;rw[q3] at T;simp at T;subst T;exact⟨by rw[q4],by rw[q4];exact jk _⟩
theorem Se {t:Ty} {v:Value} {l:List t.Data} {k:Nat} (h:Src ρ.H w t v l) (hk:k<=l.length) {size:Nat} (n:size=t.size):
 ∃cs:List Value,(Builtin.firstCells size k v).run P w= .ok cs.toArray w/\cs.length=k*t.size/\(∀u∈cs,u.oneCell'=true)/\∀(i:Nat) x,i<k->l[i]? =some x->t.rd ρ.H (fun j=>cs[i*t.size+j]?) x:=by
 subst n;obtain⟨_,⟨rfl,rfl⟩|⟨ad,c,us,rfl,d,e,f,g⟩⟩:=h;have b:k=0:=(by simpa using hk);subst b;exact⟨[],by simp[run_firstCells_none],by simp,by simp,fun i x hi=>by omega⟩;have m:k*t.size<=us.length:=(by rw[d];exact jH _ hk);refine⟨us.take (k*t.size),run_firstCells_some w t.size k ad l.length c _ (by rw[j6];omega) (fun j v a=>e j v ?_),by rw[j6];omega,fun u o=>f u (kf o),fun i x hi p=> ?_⟩;rw[zQ] at a
 split at a
 exact a;cases a;refine t.rd_congr _ _ _ (fun j a=> ?_) (g i x p);have:(i+1)*t.size<=k*t.size:=jH _ hi;rw[zj] at this;rw[jP (by omega)]
theorem Li {α:Type} (l:List α) (lo n:Nat) (a:List α) (h:lo+n<=l.length):(Ry l lo n a).length=l.length:=by
 simp only[Ry,jJ,j6,zY];omega
theorem Sf {c:Call} (hC:C.ok P) (X:o.op= .call c) (hc:c.callee= .builtin .copy) (h:Yy C σ c.args.toList c.argTypes.toList=some out) (Z:Sat P B ρ σ.obj w)
 (hev:∀x,SV.den P ρ (wc σ x) (ev x)) (hvc:qX out.vc):kS P o ev w (kM P B ρ σ out):=by
 unfold Yy at h
 split at h
 case h_2=>cases h
 rename_i x y U U' i z;have i:c.args= #[x,y]:=(by rw[<-jF];exact i);have z:c.argTypes= #[U,U']:=by rw[<-jF];exact z
 split at h
 case h_2=>cases h
 rename_i ti te O hsl;have O:=ja O;subst O
 split at h
 case h_2=>cases h
 rename_i f ob lo n hel s het
 split at h
 case h_2=>cases h
 rename_i E t nl l W
 split at h
 case h_2=>cases h
 rename_i l' hl';simp only[jv] at h;subst h;obtain⟨e,rfl⟩:=kz hl';have e':t=te.ty:=(by injection e);subst e';have Q:yT e l=l:=rfl;rw[Q] at hvc⊢;have hlen:lo+n<=l.length:=hvc.1;obtain⟨p,hp,k1,k0,k2⟩:=Z.obs ob _ W;have g:=hev x;have H:=pD Z hel (hev y);obtain⟨_,hte,_,hokE,I,hka,hks,hpos⟩:=wR hC hsl;obtain⟨_,_,_,_,_,M,_⟩:=yU hokE;rw[hte] at M;have hn2:=H.1;have J:match p with
  |none=>ev x= .slice none 0 0/\n=0
  |some (b,Cp)=>∃a L,ev x= .slice (some a) n L/\(0<n->a=⟨b,lo*te.ty.size,none⟩):=by
  unfold XL at s
  split at s
  .rename_i o' u hx;rw[hx] at g
   split at s
   .rename_i E' t' fz' nl' l2 V;simp at s;obtain⟨rfl,rfl,rfl⟩:=s;rw[W] at V;simp at V;obtain⟨_,rfl,_,_,T⟩:=V;have T:=eq_of_heq T;subst T;simp only[SV.den] at g;have g:=g p hp;cases p with
    |none=>
     obtain⟨A,e2⟩:=g;exact⟨A,by rw[<-k1];exact e2⟩
    |some q=>
     obtain⟨b,Cp⟩:=q;obtain⟨A,e2⟩:=g;rw[k1] at A;exact⟨_,_,A,fun _=>by simp⟩
   .cases s
  .rename_i o' u lo2 n2 hx;simp at s;obtain⟨rfl,rfl,rfl⟩:=s;rw[hx] at g het;have hu:u=te.ty:=aP het;subst hu;simp only[SV.den] at g;have g:=g p hp;cases p with
   |none=>exact g
   |some q=>
    obtain⟨b,Cp⟩:=q;obtain⟨a,L,A,e2,e3,e4,e5⟩:=g;exact⟨a,L,A,fun h0=>e5 (.inr (by omega))⟩
  .cases s
 have hkk:(f.take n).length<=f.length:=(by rw[j6];omega);obtain⟨cs,c1,c2,c3,c4⟩:=Se (P:=P) (k:=(f.take n).length) (size:=te.size) H hkk hks.symm;have D:Nat.min f.length n=(f.take n).length:=by
  rw[j6];exact Nat.min_comm _ _
 have r:∀w,(Builtin.lenOf (ev y)).run P w= .ok f.length w:=by
  intro w;obtain⟨_,⟨A,e2⟩|⟨ad,c,us,A,_⟩⟩:=H
  .rw[A,e2];simp[Builtin.lenOf]
  .rw[A];simp[Builtin.lenOf]
 have G:∀(w':World) (row:List te.ty.Data),row=l->({σ with ob:=(ob,some (.row E te.ty false nl row))::(gg σ []++σ.ob)}:St).obj=σ.obj:=by
  intro w' row hr;subst hr;simp only[gg,jW];rw[vw];exact funext fun k=>by
   unfold sC
   split
   .rename_i hk;rw[hk];exact W.symm
   .rfl
 cases p with
 |none=>
  obtain⟨A,e2⟩:=J;subst e2;have R:cs=[]:=zf (by rw[c2];simp);subst R;refine wB (v:= .int .i64 ((f.take 0).length:Int)) (w':=w) ?_ ⟨ρ,?_,Env.le.refl _ _,?_,trivial⟩
  .simp only[execOp,X,jA,resolve,hc,i,z,jO,jq,invoke,builtin];have hm0:Nat.min f.length 0=0:=Nat.min_zero _;simp only[List.take_zero,zo] at c1;simp[Builtin.copy_,A,jB I,r,M,c1,goInt]
  .show Sat P B ρ ({σ with ob:=(ob,_)::(gg σ []++σ.ob)}:St).obj _;rw[G w _ (by simp[Ry])];exact Z
  .simp only[SV.den];exact yr _
 |some q=>
  obtain⟨b,Cp⟩:=q;obtain⟨a,L,A,e2⟩:=J;obtain⟨k3,vs,hw,hvs,hlC,hCm,hr,hH⟩:=k2;simp only[fzH] at hH;obtain⟨m,Y⟩:∃m,m=(f.take n).length:=⟨_,rfl⟩;have hmn:m<=n:=(by rw[Y,j6];omega);rw[<-Y] at c1 c2 c4 D;rcases zP m with h0|h0
  .have R:cs=[]:=zf (by rw[c2,h0];simp);subst R;refine wB (v:= .int .i64 ((f.take n).length:Int)) (w':=w) ?_ ⟨ρ,?_,Env.le.refl _ _,?_,trivial⟩
   .simp only[execOp,X,jA,resolve,hc,i,z,jO,jq,invoke,builtin];simp[Builtin.copy_,A,jB I,r,M,D,c1,goInt,storeCells,<-Y]
   .show Sat P B ρ ({σ with ob:=(ob,_)::(gg σ []++σ.ob)}:St).obj _;rw[G w _ (by
     have:f.take n=[]:=zf (by omega);simp[Ry,this])]
    exact Z
   .simp only[SV.den];exact yr _
  .have e2:=e2 (by omega);subst e2;have hmul:(lo+m)*te.ty.size<=Cp*te.ty.size:=jH _ (by omega);rw[zn] at hmul;have N:=run_storeCells_at P b (lo*te.ty.size) E cs 0 vs w hw (by rw[c2,hvs];omega) c3;simp only[zK,c2] at N;obtain⟨f1,f2⟩:=gU w hw (vs.toList.take (lo*te.ty.size)++cs++vs.toList.drop (lo*te.ty.size+m*te.ty.size)).toArray;refine wB (v:= .int .i64 ((f.take n).length:Int)) (w':=w.setRow b (vs.toList.take (lo*te.ty.size)++cs++vs.toList.drop (lo*te.ty.size+m*te.ty.size)).toArray) ?_ ⟨ρ,?_,Env.le.refl _ _,?_,trivial⟩
   .simp only[execOp,X,jA,resolve,hc,i,z,jO,jq,invoke,builtin];simp[Builtin.copy_,A,jB I,r,M,D,c1,goInt,N,<-Y]
   .show Sat P B ρ ({σ with ob:=(ob,_)::(gg σ []++σ.ob)}:St).obj _;simp only[gg,jW];rw[vw];refine iS Z hp hH _ f1 ?_;have F:(Ry l lo n f).length=l.length:=Li l lo n f hlen;have S:(vs.toList.take (lo*te.ty.size)).length=lo*te.ty.size:=(by simp;omega);refine⟨by rw[F];exact k1,by rw[F];exact k0,fun K hn=> ?_,_,f2,?_,by rw[F];exact hlC,hCm,?_,by simpa[fzH] using hH⟩
    .rw[hn] at F;simp at F;omega
    .simp only[List.size_toArray,jJ,S,c2,zY,jZ];omega
    .intro k y K;have htl:(l.take lo).length=lo:=(by simp;omega);simp only[zO,jL];unfold Ry at K;rw[<-Y,jL] at K;by_cases hk:k<lo
     .rw[jz (by omega),jP hk] at K;refine te.ty.rd_congr _ _ _ (fun j hj=> ?_) (hr k y K);have:(k+1)*te.ty.size<=lo*te.ty.size:=jH _ hk;rw[zj] at this;rw[jz (by omega),jP (by omega)];simp
     .obtain⟨d,rfl⟩:∃d,k=lo+d:=⟨k-lo,by omega⟩;rw[jx (by omega),htl,Nat.add_sub_cancel_left] at K;by_cases hd:d<m
      .rw[jz (by omega),jP (by omega)] at K;refine te.ty.rd_congr _ _ _ (fun j hj=> ?_) (c4 d y hd K);have h1:(d+1)*te.ty.size<=m*te.ty.size:=jH _ hd;rw[zj] at h1;rw[zn,jx (by omega),S,jz (by omega)];congr 1;omega
      .rw[jx (by omega),<-Y,zc] at K;have hke:lo+m+(d-m)=lo+d:=(by omega);rw[hke] at K;refine te.ty.rd_congr _ _ _ (fun j hj=> ?_) (hr (lo+d) y K);have h1:m*te.ty.size<=d*te.ty.size:=jH _ (by omega);rw[zn,jx (by omega),S,jx (by omega),c2,zc,zk];congr 1;omega
   .simp only[SV.den];exact yr _
end
end Go.X
namespace Go.X
open Go.RowKit (Below)
section
variable {P:Program} {B:wY} {C:Ctx} {σ:St} {ρ:Env} {w:World} {o:Oper} {ev:Operand->Value} {out:Out}
def jb8 (P:Program) (ρ:Env) (fz:List Nat) (b:(ps rs:List Ty)->SV->Option (FnD ps rs×List Nat)):Prop:=
 ∀(ps rs:List Ty) (sv:SV) (d:FnD ps rs) (a:List Nat),b ps rs sv=some (d,a)->(∀o,o∈a->o∈fz)->∀v,SV.den P ρ sv v->FnV P ρ.H ps rs d.pre d.F v
theorem AU {τ:St} (y:Sat P B ρ τ.obj w) {fz:List Nat} (s:Frz σ τ fz) {n:(ps rs:List Ty)->SV->Option (FnD ps rs×List Nat)} (D:jb8 P ρ fz n) {ps rs:List Ty} {sv:SV} {d:FnD ps rs} {g:List Nat} (h:VC n σ ps rs sv=some (d,g))
 (m:∀o,o∈g->o∈fz) {v:Value} (k:SV.den P ρ sv v):YJ P ρ.H (.rfn ps rs) v d:=by
 unfold VC at h
 split at h
 split at h
 rename_i e;obtain⟨q,e2⟩:=e;subst q e2;simp at h;obtain⟨rfl,rfl⟩:=h;simpa[SV.den,YJ] using k;cases h;rename_i o
 split at h
 rename_i T f c E
 split at h
 rename_i x I z;simp at h;obtain⟨rfl,rfl⟩:=h;have l:τ.obj o=some (.box T true [c]):=(by rw[(s o).2 (m o (by simp)),E];rfl);obtain⟨p,C,b,C',vs,rfl,J,i,_,t⟩:=y.obs o _ l;simp only[SV.den] at k;obtain⟨G,F,e,rfl⟩:=k _ C;simp at e;obtain⟨rfl,rfl⟩:=e;simp only[SV.denL] at i;obtain⟨u,r,a,j,rfl⟩:=i;have a:vs= #[u]:=jF.1 (by simpa using a);subst a;exact⟨b,u,rfl,by simpa[fzH] using t,D _ _ _ _ _ z (fun o A=>m o (jo _ A)) _ j⟩;cases h;cases h;cases h
theorem eG {τ:St} (g:Sat P B ρ τ.obj w) {fz:List Nat} (e:Frz σ τ fz) {p:(ps rs:List Ty)->SV->Option (FnD ps rs×List Nat)} (m:jb8 P ρ fz p):
 ∀{ps:List Par} {svs:List SV} {d:PD ps} {a:List Nat},pn p σ ps svs=some (d,a)->(∀o,o∈a->o∈fz)->∀{vs:List Value},SV.denL P ρ svs vs->pvs P ρ.H ps vs d
 |[],[],d,a,h,_,vs,b=>by simpa[SV.denL,pvs] using b
 |[],_::_,d,a,h,_,vs,b=>by simp[pn] at h
 | .val _::_,[],d,a,h,_,vs,b=>by simp[pn] at h
 | .ref _::_,[],d,a,h,_,vs,b=>by simp[pn] at h
 | .fn _ _::_,[],d,a,h,_,vs,b=>by simp[pn] at h
 | .fn _ _::_,_::_,d,a,h,_,vs,b=>by simp[pn] at h
 | .rfn _ _::_,[],d,a,h,_,vs,b=>by simp[pn] at h
 | .val t::ps,sv::svs,d,a,h,hs,vs,b=>by
  simp only[pn] at h
  split at h
  rename_i x f l
  split at h
  rename_i xs n k
  simp at h
  obtain⟨rfl,rfl⟩:=h
  simp only[SV.denL] at b
  obtain⟨v,r,rfl,i,j⟩:=b
  exact⟨kP g e l (fun o c=>hs o (jh _ c)) i,eG g e m k (fun o c=>hs o (je _ c)) j⟩
  cases h
  cases h
 | .ref t::ps,sv::svs,d,a,h,hs,vs,b=>by
  simp only[pn] at h
  split at h
  rename_i x f l
  split at h
  rename_i xs n k
  simp at h
  obtain⟨rfl,rfl⟩:=h
  simp only[SV.denL] at b
  obtain⟨v,r,rfl,i,j⟩:=b
  exact⟨eB g e l (fun o c=>hs o (jh _ c)) i,eG g e m k (fun o c=>hs o (je _ c)) j⟩
  cases h
  cases h
 | .rfn aZ rs::ps,sv::svs,d,a,h,hs,vs,b=>by
  simp only[pn] at h
  split at h
  rename_i x f l
  split at h
  rename_i xs n k
  simp at h
  obtain⟨rfl,rfl⟩:=h
  simp only[SV.denL] at b
  obtain⟨v,r,rfl,i,j⟩:=b
  exact⟨AU g e m l (fun o c=>hs o (jh _ c)) i,eG g e m k (fun o c=>hs o (je _ c)) j⟩
  cases h
  cases h
theorem nV (m:C.ok P) {τ:St} (p:Sat P B ρ τ.obj w) {fz:List Nat} (o:Frz σ τ fz):∀n,jb8 P ρ fz (H8 C σ n)
 |0=>fun ps rs sv d i h=>by simp[H8] at h
 |n+1=>by
  intro ps rs sv d i h A v l
  unfold H8 at h
  split at h
  rename_i E G pre F
  split at h
  rename_i e
  obtain⟨g,e2⟩:=e
  subst g e2
  simp at h
  obtain⟨rfl,rfl⟩:=h
  simpa[SV.den] using l
  cases h
  rename_i f caps
  split at h
  rename_i s j
  split at h
  rename_i e
  obtain⟨g,e2⟩:=e
  subst g
  split at h
  rename_i rest k hk
  split at h
  rename_i y q D
  simp at h
  obtain⟨rfl,rfl⟩:=h
  simp only[SV.den] at l
  obtain⟨vs,rfl,u⟩:=l
  have b:=m.fs f s j e2
  refine⟨f,vs,rfl,b.enters,fun H' w' vals x t r a c=> ?_⟩
  have z:=eG p o (nV m p o n) D A u
  have:=b.calls H' w' (vals++vs.toList) (k x y) r (ng hk a (pvs.mono t z)) c
  rwa [show(vals++vs.toList).toArray=vals.toArray++vs from by apply jF.1;simp] at this
  cases h
  cases h
  cases h
  cases h
  cases h
theorem EP (b:C.ok P) {τ:St} (e:Sat P B ρ τ.obj w) {fz:List Nat} (c:Frz σ τ fz) {ps rs:List Ty} {sv:SV} {d:FnD ps rs} {a:List Nat} (h:Yq C σ ps rs sv=some (d,a)) (f:∀o,o∈a->o∈fz)
 {v:Value} (g:SV.den P ρ sv v):FnV P ρ.H ps rs d.pre d.F v:=nV b e c 4 ps rs sv d a h f v g
theorem yh (m:C.ok P) {τ:St} (g:Sat P B ρ τ.obj w) {fz:List Nat} (e:Frz σ τ fz):
 ∀{ps:List Par} {svs:List SV} {d:PD ps} {a:List Nat},vu C σ ps svs=some (d,a)->(∀o,o∈a->o∈fz)->∀{vs:List Value},SV.denL P ρ svs vs->pvs P ρ.H ps vs d
 |[],[],d,a,h,_,vs,b=>by simpa[SV.denL,pvs] using b
 |[],_::_,d,a,h,_,vs,b=>by simp[vu] at h
 | .val _::_,[],d,a,h,_,vs,b=>by simp[vu] at h
 | .ref _::_,[],d,a,h,_,vs,b=>by simp[vu] at h
 | .fn _ _::_,[],d,a,h,_,vs,b=>by simp[vu] at h
 | .rfn _ _::_,[],d,a,h,_,vs,b=>by simp[vu] at h
 | .val t::ps,sv::svs,d,a,h,hs,vs,b=>by
  simp only[vu] at h
  split at h
  rename_i x f l
  split at h
  rename_i xs n k
  simp at h
  obtain⟨rfl,rfl⟩:=h
  simp only[SV.denL] at b
  obtain⟨v,r,rfl,i,j⟩:=b
  exact⟨kP g e l (fun o c=>hs o (jh _ c)) i,yh m g e k (fun o c=>hs o (je _ c)) j⟩
  cases h
  cases h
 | .ref t::ps,sv::svs,d,a,h,hs,vs,b=>by
  simp only[vu] at h
  split at h
  rename_i x f l
  split at h
  rename_i xs n k
  simp at h
  obtain⟨rfl,rfl⟩:=h
  simp only[SV.denL] at b
  obtain⟨v,r,rfl,i,j⟩:=b
  exact⟨eB g e l (fun o c=>hs o (jh _ c)) i,yh m g e k (fun o c=>hs o (je _ c)) j⟩
  cases h
  cases h
 | .fn aZ rs::ps,sv::svs,d,a,h,hs,vs,b=>by
  simp only[vu] at h
  split at h
  rename_i x f l
  split at h
  rename_i xs n k
  simp at h
  obtain⟨rfl,rfl⟩:=h
  simp only[SV.denL] at b
  obtain⟨v,r,rfl,i,j⟩:=b
  exact⟨EP m g e l (fun o c=>hs o (jh _ c)) i,yh m g e k (fun o c=>hs o (je _ c)) j⟩
  cases h
  cases h
 | .rfn aZ rs::ps,sv::svs,d,a,h,hs,vs,b=>by
  simp only[vu] at h
  split at h
  rename_i x f l
  split at h
  rename_i xs n k
  simp at h
  obtain⟨rfl,rfl⟩:=h
  simp only[SV.denL] at b
  obtain⟨v,r,rfl,i,j⟩:=b
  exact⟨AU g e (nV m g e 4) l (fun o c=>hs o (jh _ c)) i,yh m g e k (fun o c=>hs o (je _ c)) j⟩
  cases h
  cases h
theorem Gd {obj:Nat->Option Ob} (a:Sat P B ρ obj w) (g:∀o b l,ρ.blk o=some (some (b,l))->b<w.heap.size) {H':Imm} {w':World} (c:XP ρ.H w H' w'):
 Sat P B {ρ with H:=H'} obj w'/\ρ.le {ρ with H:=H'} []:=by
 have e:ρ.le {ρ with H:=H'} []:=⟨c.mono a.good,fun _ _ _ h=>h,fun _ _=>rfl⟩;refine⟨⟨c.below.os.trans a.os,c.below.tape.trans a.tape,c.below.output.trans a.output,jE a.drawn c.drawn,jE a.size c.below.size,c.good,?_,?_,?_,a.dead,a.inj,a.own⟩,e⟩;intro b f d;have:=a.size;show H' b=_;rw[c.old b (by omega)];exact a.oldH b f d;intro b f d;have:=a.size;rw[c.below.block b (by omega)];exact a.old b f d;intro o x n;obtain⟨p,k,m⟩:=a.obs o x n;refine⟨p,k,we e (by simp) (fun _ _ _ _ o' i=>by simp at i) (fun b C' j=> ?_) m⟩;subst j;have:=g o b C' k;exact⟨c.old b this,c.below.block b this⟩
theorem AV {H:Imm} {t:Ty} (c:t.agg=false) {v:Value} {d:t.Data} (h:t.rv H v d):v.oneCell'=true:=by
 have b:0<t.size:=by cases t<;>simp_all [Ty.agg,Ty.size]
 obtain⟨u,e,a⟩:=ba t _ d (wE c h) 0 b;simp at e;subst e;exact a
theorem Ip {obj:Nat->Option Ob} (f:Sat P B ρ obj w) (y:∀o b q,ρ.blk o=some (some (b,q))->b<w.heap.size) {o b q T:Nat} {cs:List SV} (K:obj o=some (.box T false cs)) (r:ρ.blk o=some (some (b,q)))
 {H':Imm} {w':World} {u:Value} {sv:SV} (g:YH [b] ρ.H w H' w') (F:H' b=none) (J:w'.heap[b]? =some (.cells #[u] T (0,0))) (G:SV.den P {ρ with H:=H'} sv u) (E:u.oneCell'=true):
 Sat P B {ρ with H:=H'} (sC obj o (some (.box T false [sv]))) w'/\ρ.le {ρ with H:=H'} []:=by
 have v:ρ.H b=none:=by
  obtain⟨p,l,M,L,vs,e,_,_,_,k⟩:=f.obs o _ K;rw[r] at l;simp at l;subst l;simp at e;obtain⟨rfl,rfl⟩:=e;exact k
 have n:ρ.le {ρ with H:=H'} []:=⟨fun a c s=>by
  have t:=f.good.lt s;show H' a=_;rw[g.old a t (by intro i;simp at i;subst i;rw[v] at s;cases s)];exact s,fun _ _ _ h=>h,fun _ _=>rfl⟩
 have out:∀a,a<B.w.heap.size->a∉B.bor->a∉[b]:=by
  intro a m j i;simp at i;subst i;rcases f.own o _ _ r with h|h;omega;exact j h
 refine⟨⟨g.os.trans f.os,g.tape.trans f.tape,g.output.trans f.output,jE f.drawn g.drawn,jE f.size g.size,g.good,?_,?_,?_,?_,f.inj,f.own⟩,n⟩;intro a m j;have:=f.size;show H' a=_;rw[g.old a (by omega) (out a m j)];exact f.oldH a m j;intro a m j;have:=f.size;rw[g.block a (by omega) (out a m j)];exact f.old a m j;intro o' x d;unfold sC at d
 split at d
 rename_i e;subst e;simp at d;subst d;refine⟨_,r,b,q,#[u],rfl,J,?_,by simpa using E,F⟩;simp only[SV.denL];exact⟨u,[],rfl,G,rfl⟩;rename_i z;obtain⟨p,l,I⟩:=f.obs o' x d;refine⟨p,l,we n (by simp) (fun _ _ _ _ o2 A=>by simp at A) (fun a C' C=> ?_) I⟩;subst C;have t:=y o' a C' l;have D:a∉[b]:=by
  intro i;simp at i;subst i;exact z (f.inj o' o _ _ _ l r)
 exact⟨g.old a t D,g.block a t D⟩;intro o' d;unfold sC at d
 split at d
 cases d;exact f.dead o' d
theorem eH {H:Imm} (a:ρ.H=H):∀(rs:List Ty) (vs:List Value) (d:(Ty.st rs).Data),rvs H rs vs d->SV.denL P ρ (results rs d) vs
 |[],vs,d,h=>by simpa[results,SV.denL,rvs] using h
 |t::ts,[],d,h=>h.elim
 |t::ts,v::vs,d,h=>by
  simp only[results,SV.denL]
  exact⟨v,vs,rfl,by simp only[SV.den];rw[a];exact h.1,eH a ts vs d.2 h.2⟩
theorem pF {H:Imm} (a:ρ.H=H):∀{rs:List Ty} {v:Value} {d:(Ty.st rs).Data},jau H rs v d->SV.den P ρ (uM rs d) v
 |[t],v,d,h=>by
  simp only[uM,results,SV.den]
  rw[a];exact h
 |[],v,d,h=>by
  obtain⟨vs,rfl,h⟩:=h
  simp only[uM,results,SV.den]
  exact⟨vs,rfl,eH a [] _ d h⟩
 |t::u::ts,v,d,h=>by
  obtain⟨vs,rfl,h⟩:=h
  have:=eH (P:=P) a (t::u::ts) _ d h
  simp only[uM,results,SV.den] at this⊢
  exact⟨vs,rfl,this⟩
theorem Sg {obj:Nat->Option Ob} (a:Sat P B ρ obj w) {w':World} (d:Below w.heap.size w w') (h:w.drawn<=w'.drawn):Sat P B ρ obj w':=by
 have i:∀o x,obj o=some x->∀b m,ρ.blk o=some (some (b,m))->b<w.heap.size:=by
  intro o x g b m f;obtain⟨p,e,l⟩:=a.obs o x g;rw[f] at e;simp at e;subst e;exact Ac l
 refine⟨d.os.trans a.os,d.tape.trans a.tape,d.output.trans a.output,jE a.drawn h,jE a.size d.size,?_,a.oldH,?_,?_,a.dead,a.inj,a.own⟩;refine⟨fun b c n=> ?_,a.good.2⟩;rw[d.block b (a.good.lt n)];exact a.good.1 b c n;intro b q r;have:=a.size;rw[d.block b (by omega)];exact a.old b q r;intro o x g;obtain⟨p,f,l⟩:=a.obs o x g;refine⟨p,f,we (Env.le.refl ρ []) (by simp) (fun _ _ _ _ o' j=>by simp at j) (fun b C' k=>⟨rfl,?_⟩) l⟩;subst k;exact d.block b (i o x g b C' f)
theorem Ge {H H':Imm}:∀(t:Ty) (f:Nat->Option Value) (d:t.Data),H9 t=true->t.rd H f d->t.rd H' f d
 | .int,_,_,_,h=>h
 | .bool,_,_,_,h=>h
 | .uint _,_,_,_,h=>h
 | .unit,_,_,_,_=>trivial
 | .slice _,_,_,c,_=>by cases c
 | .map _ _,_,_,c,_=>by cases c
 | .ptr _,_,_,c,_=>by cases c
 | .pair a b,f,d,c,h=>by
  simp only[H9] at c
  split at c
  rename_i e;exact⟨Ge a _ _ e h.1,Ge b _ _ c h.2⟩
  cases c
theorem NW {H H':Imm}:∀(rs:List Ty) (vs:List Value) (d:(Ty.st rs).Data),Pa rs=true->rvs H rs vs d->rvs H' rs vs d
 |[],vs,d,_,h=>h
 |t::ts,[],d,_,h=>h.elim
 |t::ts,v::vs,d,hf,h=>by
  simp only[Pa] at hf
  split at hf
  rename_i a;exact⟨⟨h.1.1,h.1.2.1,Ge t _ _ a h.1.2.2⟩,NW ts vs d.2 hf h.2⟩
  cases hf
theorem Si {H H':Imm}:∀{rs:List Ty} {v:Value} {d:(Ty.st rs).Data},Pa rs=true->jau H rs v d->jau H' rs v d
 |[t],v,d,a,h=>by
  simp only[Pa] at a
  split at a
  rename_i b;exact⟨h.1,h.2.1,Ge t _ _ b h.2.2⟩
  cases a
 |[],v,d,a,h=>h
 |t::u::ts,v,d,a,h=>by
  obtain⟨vs,e,h⟩:=h
  exact⟨vs,e,NW (t::u::ts) _ d a h⟩
theorem AW (l:Sat P B ρ σ.obj w) (fz:List Nat) {rs:List Ty} {r:(Ty.st rs).Data} {vc:List Prop} {k:FuncId} {args:Array Value}
 (h:∀d,Sat P B d (σ.frz fz).obj w->ρ.le d []->Calls P k args w (XQ d.H w rs r)):
 Calls P k args w (fun e w'=>∃v,e= .returned v/\kM P B ρ σ ⟨vc,[],uM rs r,jbO rs fz,[],[]⟩ v w'):=by
 unfold jbO;obtain⟨ρ1,c,a,_,_⟩:=wg fz l;refine(h ρ1 c a).mono fun e w' p=> ?_
 obtain⟨v,H',rfl,g,m⟩:=p
 split
 rename_i j;refine⟨v,rfl,ρ,?_,Env.le.refl _ _,pF rfl (Si j m),trivial⟩;exact Sg l g.below g.drawn;obtain⟨i,f⟩:=Gd c (fun o b q n=>(gT (σ:=σ.frz fz) c n).1) g;refine⟨v,rfl,_,?_,a.trans f,pF rfl m,trivial⟩;show Sat P B _ (σ.frz fz).obj w';exact i
theorem Sj {dst:Nat} {c:Call} {f:Operand} (hC:C.ok P) (hop:o.op= .call c) (hc:c.callee= .value f) (h:EG C σ dst (wc σ f) (c.args.toList.map (wc σ))=some out) (hS:Sat P B ρ σ.obj w)
 (Q:∀x,SV.den P ρ (wc σ x) (ev x)) (A:qX out.vc) (hd:σ.obj dst=none) (hn:qY σ.obj dst):kS P o ev w (kM P B ρ σ out):=by
 have i:=cd (P:=P) (ρ:=ρ) (σ:=σ) Q c.args.toList;have g:=Q f;have l:∀(k:Nat) (caps:Array Value),ev f= .func (.func k) #[] caps->enters P k->(execOp ev o).run P w= .ok (.enter k (c.args.map ev++caps)) w:=by
  intro k caps e j;simp only[execOp,hop,jA,resolve,hc,Deferred.ofValue,e,jO,jq,invoke];rw[<-j (c.args.map ev++caps) w];simp
 unfold EG at h
 split at h
 rename_i k caps R;rw[R] at g;simp only[SV.den] at g;obtain⟨vs,D,M⟩:=g;have E:=vZ _ _ _ _ i M
 split at h
 rename_i s hs
 split at h
 rename_i d fz Z
 split at h
 rename_i W;simp at h;subst h;have S:=hC.fs k s hs W;unfold kS;rw[l k vs D S.enters];simp only;refine AW hS fz fun y q z=> ?_
 have a:SV.denL P y (c.args.toList.map (wc σ)++caps) (c.args.toList.map ev++vs.toList):=SV.denL_mono z _ _ (fun o n=>by simp at n) E;have:=S.calls y.H w _ d q.good (yh hC q (vo σ fz) Z (fun o n=>n) a) A
 rwa [show(c.args.toList.map ev++vs.toList).toArray=c.args.map ev++vs from by apply jF.1;simp] at this
 cases h;cases h;rename_i hs;obtain⟨j,L⟩:=hC.eff k dst σ _ out h;unfold kS;rw[l k vs D j];simp only;have:=L B ρ w _ hS E A hd hn
 rwa [show(c.args.toList.map ev++vs.toList).toArray=c.args.map ev++vs from by apply jF.1;simp] at this
 rename_i ps rs pre F R;rw[R] at g;simp only[SV.den] at g
 split at h
 rename_i d fz Z;simp at h;subst h;obtain⟨k,caps,D,j,hk⟩:=g;unfold kS;rw[l k caps D j];simp only;refine AW hS fz fun y q z=> ?_
 have a:SV.denL P y (c.args.toList.map (wc σ)) (c.args.toList.map ev):=SV.denL_mono z _ _ (fun o n=>by simp at n) i;have:=hk y.H w _ d z.H q.good (eC q (vo σ fz) Z (fun o n=>n) a) A
 rwa [show(c.args.toList.map ev).toArray++caps=c.args.map ev++caps from by apply jF.1;simp] at this
 cases h;rename_i ob T st ps rs pre K R;rw[R] at g;simp only[SV.den] at g
 split at h
 rename_i d fz T' sc Z hx
 split at h
 rename_i s hT hm hst hs;simp at h;subst h;have:=ja hT;subst this;obtain⟨ρ1,m,t,J,_⟩:=wg fz hS;have Y:(σ.frz fz).obj ob=some (.box T false [sc]):=(by rw[qC,jc (vJ hm)];exact hx);obtain⟨p,hp,b,Cp,vs,rfl,hw,O,h1,I⟩:=m.obs ob _ Y;have I:ρ1.H b=none:=I;simp only[SV.denL] at O;obtain⟨u,r,G,hdu,rfl⟩:=O;have G:vs= #[u]:=jF.1 (by simpa using G);subst G;obtain⟨b2,C2,e2,u2,hF,hv2⟩:=g _ (by rw[<-J];exact hp);simp at e2;obtain⟨rfl,rfl⟩:=e2;obtain⟨k,caps,D,j,hk⟩:=hF;have D:ev f= .func (.func k) #[] caps:=hv2.trans D;unfold kS;rw[l k caps D j];simp only;have a:SV.denL P ρ1 (c.args.toList.map (wc σ)) (c.args.toList.map ev):=SV.denL_mono t _ _ (fun o n=>by simp at n) i;have hsu:=kP m (vo σ fz) hs (fun o n=>by simp at n) hdu;have N:=hk ρ1.H w _ d s u t.H m.good I hw hsu (eC m (vo σ fz) Z (fun o n=>n) a) A;rw[show(c.args.toList.map ev).toArray++caps=c.args.map ev++caps from by apply jF.1;simp] at N;refine N.mono fun e w' he=> ?_
 obtain⟨v,H',u',rfl,hE,hH',hw',X,hr⟩:=he;obtain⟨hS2,V⟩:=Ip m (fun o b Cp hb=>(gT (σ:=σ.frz fz) m hb).1) Y hp hE hH' hw' (sv:= .dat st (K d s).2) (by simp only[SV.den];exact X) (AV hst X);refine⟨v,rfl,{ρ1 with H:=H'},?_,t.trans V,pF rfl hr,trivial⟩;show Sat P B _ ({(σ.frz fz) with ob:=(ob,some (.box T false [.dat st (K d s).2]))::(σ.frz fz).ob}:St).obj w';rw[vw];exact hS2;cases h;cases h;cases h
theorem jaN (a b:Int):(if b<a then b else a)=min a b:=by rw[Int.min_def];split<;>split<;>omega
theorem jaO (a b:Int):(if b>a then b else a)=max a b:=by rw[Int.max_def];split<;>split<;>omega
theorem pG:∀(l:List SV) (vs:List Value) (a m:Int),AA l a=some m->SV.denL P ρ l vs->(vs.foldlM Builtin.min2 (.int .i64 a)).run P w= .ok (.int .i64 m) w
 |[],vs,a,m,h,c=>by
  simp[AA] at h;simp[SV.denL] at c;subst h c;simp
 |x::l,vs,a,m,h,c=>by
  unfold AA at h
  split at h
  rename_i e;cases e
  rename_i a _ _ b r d
  cases d
  simp only[SV.denL] at c
  obtain⟨v,j,rfl,f,g⟩:=c
  have i:=wF (by simpa[SV.den] using f)
  subst i
  have:=pG l j (min a b) m h g
  rw[List.foldlM_cons]
  simp only[Builtin.min2,jA,jO,jq]
  have e:=jaN a b
  exact Eq.trans (by rw[<-e]) this
  cases h
theorem pH:∀(l:List SV) (vs:List Value) (a m:Int),AB l a=some m->SV.denL P ρ l vs->(vs.foldlM Builtin.max2 (.int .i64 a)).run P w= .ok (.int .i64 m) w
 |[],vs,a,m,h,c=>by
  simp[AB] at h;simp[SV.denL] at c;subst h c;simp
 |x::l,vs,a,m,h,c=>by
  unfold AB at h
  split at h
  rename_i e;cases e
  rename_i a _ _ b r d
  cases d
  simp only[SV.denL] at c
  obtain⟨v,j,rfl,f,g⟩:=c
  have i:=wF (by simpa[SV.den] using f)
  subst i
  have:=pH l j (max a b) m h g
  rw[List.foldlM_cons]
  simp only[Builtin.max2,jA,jO,jq]
  have e:=jaO a b
  exact Eq.trans (by rw[<-e]) this
  cases h
theorem pI {T:Nat} {x:Operand} {ti:TI} (i:C.ok P) (b:o.op= .makeInterface T x) (c:C.info T=some ti) (j:Sat P B ρ σ.obj w):kS P o ev w (kM P B ρ σ (.pure .any)):=by
 obtain⟨rfl,a⟩:=i.ti _ _ c;have m:∃d,P.underlying ti.id=some d/\∀ms,d≠.interface ms:=by
  cases f:ti.agg with
  |true=>
   cases g:ti.arr with
   |false=>obtain⟨fs,e,_⟩:=a.str f g;exact⟨_,e,by simp⟩
   |true=>obtain⟨_,n,ie,e,_⟩:=a.arrk g;exact⟨_,e,by simp⟩
  |false=>obtain⟨d,e,_,_,h,_⟩:=a.flat f;exact⟨_,e,h⟩
 obtain⟨d,k,l⟩:=m;refine ky j (v:= .iface ti.id (ev x)) ?_ (vz _) trivial;simp only[execOp,b,Instr.makeInterface,jA,jB k,jq];cases d<;>simp_all
theorem Lj {U n:Nat} {a:Array (Nat×Operand)} (hC:C.ok P) (T:o.op= .buildSlice U n a) (h:RM C σ U n a.toList=some out) (hS:Sat P B ρ σ.obj w)
 (Q:∀x,SV.den P ρ (wc σ x) (ev x)):kS P o ev w (kM P B ρ σ out):=by
 unfold RM at h
 split at h
 case h_2=>cases h
 rename_i ti te W
 split at h
 case h_2=>cases h
 rename_i l fz hl
 split at h
 case h_2=>cases h
 rename_i r G;simp at h;subst h;have r:=ja r;subst r;have G:=jy G;obtain⟨_,X,_,g,m,hka,R,E⟩:=wR hC W;obtain⟨i,z,N,g1,g2,g3,g4,_⟩:=g.info;rw[X] at N;obtain⟨ρ1,d,f,hb1,hl1⟩:=wg fz hS;have u:∀x,SV.den P ρ1 (wc σ x) (ev x):=fun x=>SV.den_mono f _ _ (fun o S=>by simp at S) (Q x)
 obtain⟨vs,L,e2,M,e4⟩:=cG d (vo σ fz) u a.toList 0 l fz hl (fun o S=>S);have hzs:z.cells.size=te.size:=(by rw[<-g.zlen,<-g4];simp);have s:0<te.size:=E;have q:Instr.fill (fun i=>some (i*te.size,te.size)) ((Array.range (l.length*te.size)).map (z.cells[·%z.cells.size]!)) (a.map fun(i,x)=>(i,ev x)).toList=
  some (vs.flatMap fun v=>v.cells.toList).toArray:=by
  have:=Great.fill_whole s vs ((Array.range (l.length*te.size)).map (z.cells[·%z.cells.size]!)) (fun v Y=>by rw[M v Y,R]) (by simp[e2]);rw[<-this];congr 1;simpa using L
 have J:=Ga vs M;have F:(execOp ev o).run P w= .ok (.value (.slice (some ⟨w.heap.size,0,none⟩) l.length l.length)) (w.alloc (.cells (vs.flatMap fun v=>v.cells.toList).toArray ti.elem)):=by
  have:(Instr.buildSlice U l.length (a.map fun(i,x)=>(i,ev x))).run P w= .ok (.slice (some ⟨w.heap.size,0,none⟩) l.length l.length) (w.alloc (.cells (vs.flatMap fun v=>v.cells.toList).toArray ti.elem)):=by
   have p:i.size=te.size:=g1;by_cases Z:l.length=0
   .have I:vs=[]:=zf (by omega);have V:a= #[]:=by
     subst I;simp at L;exact L
    subst V I;simp[Instr.buildSlice,jB m,sizeOf,typeInfo,N,Z,newRow,Instr.fill,show Array.range 0= #[] from rfl]
   .exact run_buildSlice w U ti.elem l.length _ _ i z m N g3 (by rw[p];omega) (by rw[p];have:=Nat.mul_pos (Nat.pos_of_ne_zero Z) s;omega) (by rw[p];exact q)
  simp only[execOp,T,jA];rw[this];simp
 refine wB F ?_;have K:l.length<=16777216:=by
  have:l.length*1<=l.length*te.size:=zW _ s;omega
 have D:=heap_alloc_new w (.cells (vs.flatMap fun v=>v.cells.toList).toArray ti.elem);have t:=w.grownBy_alloc (.cells (vs.flatMap fun v=>v.cells.toList).toArray ti.elem) none;have hHn:ρ1.H w.heap.size=none:=by
  cases hc:ρ1.H w.heap.size with
  |none=>rfl
  |some c=>have:=d.good.lt hc;omega
 have hE:XP ρ1.H w (fun b=>if b=w.heap.size then some (.cells (vs.flatMap fun v=>v.cells.toList).toArray) else ρ1.H b) (w.alloc (.cells (vs.flatMap fun v=>v.cells.toList).toArray ti.elem)):=by
  refine⟨⟨t.os,t.tape,t.output,t.size,fun k hk=>t.block k (by omega) (by simp)⟩,⟨fun b c e=> ?_,d.good.2.mono (fun b c e=>by
   have A:=d.good.lt e;show(if b=w.heap.size then _ else _)=_;rw[jc (by omega)];exact e)⟩,fun b e=>jc (by omega),jk _⟩
  dsimp only at e
  by_cases he:b=w.heap.size
  .subst he;rw[jg rfl] at e;simp at e;subst e;exact⟨_,_,D⟩
  .rw[jc he] at e;have A:=d.good.lt e;have:=d.good.1 b c e;rw[t.block b A (by simp)];exact this
 obtain⟨O,y⟩:=Gd d (fun o b Cp e=>(gT (σ:=σ.frz fz) d e).1) hE;refine⟨_,?_,f.trans y,?_,trivial⟩
 .show Sat P B _ (σ.frz fz).obj _;exact O
 .simp only[SV.den];refine⟨rfl,rfl,_,_,_,rfl,rfl,jk _,by omega,by simp,fun _=>⟨_,0,_,rfl,jg rfl,fun k x hx=> ?_⟩⟩;have hi:k<vs.length:=(by have:=(jl.1 hx).1;omega);have Y:=e4 k _ x (jp hi) hx;refine te.ty.rd_mono (hE.mono d.good) _ _ (te.ty.rd_congr _ _ _ (fun j hj=> ?_) Y.2.2);have:=AQ vs M k j _ (jp hi) hj;simpa using this.symm
theorem Pr {c:Call} (hC:C.ok P) (W:o.op= .call c) (hc:c.callee= .builtin .clear) (h:Yx C σ c.args.toList c.argTypes.toList=some out) (hS:Sat P B ρ σ.obj w)
 (hev:∀x,SV.den P ρ (wc σ x) (ev x)) (hvc:qX out.vc):kS P o ev w (kM P B ρ σ out):=by
 unfold Yx at h
 split at h
 case h_2=>cases h
 rename_i x U i s;have i:c.args= #[x]:=(by rw[<-jF];exact i);have s:c.argTypes= #[U]:=by rw[<-jF];exact s
 split at h
 case h_2=>cases h
 rename_i ti te ob u lo n g hx
 split at h
 case h_2=>cases h
 rename_i E t nl l T
 split at h
 case h_2=>cases h
 rename_i l' hl' X;simp at h;subst h;obtain⟨e,rfl⟩:=kz hl';have e':t=te.ty:=(by injection e);subst e';have X:u=te.ty:=by
  unfold au at X
  split at X
  .assumption
  .cases X
 subst X;obtain⟨p,hp,k1,k0,k2⟩:=hS.obs ob _ T;have f:=hev x;rw[hx] at f;simp only[SV.den] at f;have f:=f p hp;have hlen:lo+n=l.length:=hvc.1;obtain⟨_,hte,_,r,I,hka,hks,hpos⟩:=wR hC g;obtain⟨_,z,_,_,_,_,hz,L,_⟩:=yU r;rw[hte] at hz;have Y:z.cells.size=te.ty.size:=(by rw[hks,<-r.zlen,<-L];simp);have J:yT e l=l:=rfl;rw[J];rcases zP n with h0|h0
 .subst h0;have D:∃a F,ev x= .slice a 0 F:=by
   cases p with
   |none=>obtain⟨e,_⟩:=f;exact⟨_,_,e⟩
   |some q=>obtain⟨b,Cp⟩:=q;obtain⟨a,F,e,_⟩:=f;exact⟨_,_,e⟩
  obtain⟨a,F,D⟩:=D;have hl:l.take lo++List.replicate 0 te.ty.dflt=l:=by
   rw[List.replicate_zero,j7,zy (by omega)]
  refine wB (v:= .tuple #[]) (w':=w) ?_ ⟨ρ,?_,Env.le.refl _ _,vz _,trivial⟩
  .simp only[execOp,W,jA,resolve,hc,i,s,jO,jq,invoke,builtin];cases a<;>simp[Builtin.clear_,D,jB I]
  .show Sat P B ρ ({σ with ob:=(ob,_)::(gg σ []++σ.ob)}:St).obj _;simp only[gg,jW];rw[vw,hl];have:sC σ.obj ob (some (.row E te.ty false nl l))=σ.obj:=funext fun k=>by
    unfold sC
    split
    .rename_i hk;rw[hk];exact T.symm
    .rfl
   rw[this];exact hS
 .cases p with
  |none=>obtain⟨_,e⟩:=f;omega
  |some q=>
   obtain⟨b,Cp⟩:=q;obtain⟨a,F,hv,v2,v3,v4,v5⟩:=f;have v5:=v5 (.inr (by omega));subst v5;obtain⟨k3,vs,hw,hvs,hlC,Z,hr,hH⟩:=k2;simp only[fzH] at hH;have M:(Builtin.zeroCells z.cells n).toList.length=n*te.ty.size:=(by rw[jZ,gL,Y]);have S:(lo+n)*te.ty.size<=Cp*te.ty.size:=jH _ (by omega);rw[zn] at S;have V:∀v∈(Builtin.zeroCells z.cells n).toList,v.oneCell'=true:=by
    intro v hv;obtain⟨m,N⟩:=List.mem_iff_getElem?.1 hv;rw[zk,iV] at N
    split at N
    .simp at N;have K:m%z.cells.size<z.cells.size:=Nat.mod_lt _ (by omega);rw[getElem!_pos z.cells _ K] at N;refine r.one v ?_;rw[<-L,<-N];simp
    .cases N
   have G:=run_storeCells_at P b (lo*te.ty.size) E (Builtin.zeroCells z.cells n).toList 0 vs w hw (by rw[M,hvs];omega) V;simp only[zK,M] at G;obtain⟨f1,f2⟩:=gU w hw (vs.toList.take (lo*te.ty.size)++(Builtin.zeroCells z.cells n).toList++vs.toList.drop (lo*te.ty.size+n*te.ty.size)).toArray;refine wB (v:= .tuple #[]) (w':=w.setRow b (vs.toList.take (lo*te.ty.size)++(Builtin.zeroCells z.cells n).toList++vs.toList.drop (lo*te.ty.size+n*te.ty.size)).toArray) ?_ ⟨ρ,?_,Env.le.refl _ _,vz _,trivial⟩
   .simp only[execOp,W,jA,resolve,hc,i,s,jO,jq,invoke,builtin];obtain⟨n',rfl⟩:∃n',n=n'+1:=⟨n-1,by omega⟩;simp[Builtin.clear_,hv,jB I,hz,G]
   .show Sat P B ρ ({σ with ob:=(ob,_)::(gg σ []++σ.ob)}:St).obj _;simp only[gg,jW];rw[vw];refine iS hS hp hH _ f1 ?_;have A:(l.take lo++List.replicate n te.ty.dflt).length=l.length:=(by simp;omega);have Q:(vs.toList.take (lo*te.ty.size)).length=lo*te.ty.size:=(by simp;omega);refine⟨by rw[A];exact k1,by rw[A];exact k0,fun _ hn=> ?_,_,f2,?_,by rw[A];exact hlC,Z,?_,by simpa[fzH] using hH⟩
    .rw[hn] at A;simp at A;omega
    .simp only[List.size_toArray,jJ,Q,M,zY,jZ];omega
    .intro k y O;by_cases hk:k<lo
     .rw[jz (by simp;omega),jP hk] at O;refine te.ty.rd_congr _ _ _ (fun j hj=> ?_) (hr k y O);have:(k+1)*te.ty.size<=lo*te.ty.size:=jH _ hk;rw[zj] at this;simp only[zO,jL];rw[jz (by omega),jP (by omega)];simp
     .have K:k<(l.take lo++List.replicate n te.ty.dflt).length:=(jl.1 O).1;rw[A] at K;have htl:(l.take lo).length=lo:=(by simp;omega);rw[jx (by omega),htl,List.getElem?_replicate,jg (by omega)] at O;simp at O;subst O;have hkn:qB te.ty=true:=by
       unfold Ctx.slice at g
       split at g
       .split at g
        .split at g
         .split at g
          .rename_i hk;simp at g;rw[<-g.2];exact hk
          .cases g
         .cases g
        .cases g
       .cases g
      refine te.ty.rd_congr _ _ _ (fun j hj=> ?_) (r.zd hkn ρ.H);obtain⟨d,rfl⟩:∃d,k=lo+d:=⟨k-lo,by omega⟩;have h1:(d+1)*te.ty.size<=n*te.ty.size:=jH _ (by omega);rw[zj] at h1;simp only[zO,jL];rw[zn,jx (by omega),Q,jz (by omega),zk,iV,Y,jg (by omega)];have R:(lo*te.ty.size+d*te.ty.size+j-lo*te.ty.size)%te.ty.size=j:=by
       rw[show lo*te.ty.size+d*te.ty.size+j-lo*te.ty.size=j+d*te.ty.size by omega,Nat.add_mul_mod_self_right,Nat.mod_eq_of_lt hj]
      rw[R,getElem!_pos z.cells j (by omega),<-L];rw[zk,jR (by omega)]
theorem Iq {dst:Nat} (k:C.ok P) (h:kO C σ dst o.op=some out) (g:Sat P B ρ σ.obj w) (d:∀x,SV.den P ρ (wc σ x) (ev x)) (j:qX out.vc)
 (p:out.nw≠[]->σ.obj dst=none/\qY σ.obj dst/\∀x cs,cells σ (wc σ x)=some cs->SV.refs.refsL dst cs=false) (u:∀c,o.op= .call c->c.callee≠.builtin .clear->σ.obj dst=none/\qY σ.obj dst):kS P o ev w (kM P B ρ σ out):=by
 cases b:o.op with
 |move x=>rw[b] at h;simp[kO] at h;subst h;exact Im (.inl b) g (d x)
 |assign x=>rw[b] at h;simp[kO] at h;subst h;exact Im (.inr b) g (d x)
 |alloc E=>
  rw[b] at h;have q:out.nw≠[]:=by
   simp only[kO] at h
   split at h
   simp at h;subst h;simp;cases h
  exact Pe k b h g (p q).1 (p q).2.1
 |box E x=>
  rw[b] at h;have q:out.nw≠[]:=by
   simp only[kO] at h
   split at h
   split at h
   simp at h;subst h;simp;cases h;cases h
  exact VN k b h g (d x) (p q).1 (p q).2.1 (fun cs=>(p q).2.2 x cs)
 |build U D=>rw[b] at h;exact Pn k b h g d
 |buildSlice U n D=>
  rw[b] at h;have q:out.nw≠[]:=by
   simp only[kO] at h
   split at h
   split at h
   split at h
   simp at h;subst h;simp;cases h;cases h;cases h
  exact AS k b h g d (p q).1 (p q).2.1
 |load U a=>rw[b] at h;exact R6 k b h g (d a) j
 |store U a x=>rw[b] at h;exact Pi k b h g (d a) (d x)
 |nilCheck x=>rw[b] at h;exact F8 b h g (d x) j
 |fieldAddr U x f=>rw[b] at h;exact DD k b h g (d x) j
 |field U x f=>rw[b] at h;exact Pl k b h g (d x)
 |indexAddr U x A=>rw[b] at h;exact DE k b h g (d x) (d A) j
 |binOp op U x y t=>
  rw[b] at h;simp only[kO] at h
  split at h
  exact R8 b h g (d x) (d y);exact VR k b h g (d x) (d y) j
 |index U x A=>rw[b] at h;exact Pj k b h g (d x) (d A) j
 |unOp op T x=>rw[b] at h;exact R7 b h g (d x) j
 |convert V U x=>rw[b] at h;exact Ik k b h g (d x) j
 |makeFunc f fs cs=>rw[b] at h;exact F9 b h g d
 |slice U x lo hi O=>
  rw[b] at h;cases O with
  |none=>exact Ph k b h g d j
  |some m=>
   cases lo with
   |some l=>simp[kO] at h
   |none=>
    cases hi with
    |none=>simp[kO] at h
    |some hi=>exact Ld k b h g d j
 |extract x i=>rw[b] at h;exact Il b h g (d x)
 |panic x=>rw[b] at h;simp[kO] at h;subst h;exact Pk j
 |makeMap U r=>
  rw[b] at h;cases r with
  |some r=>simp[kO] at h
  |none=>
   have q:out.nw≠[]:=by
    simp only[kO,k.lit] at h
    split at h
    simp at h;subst h;simp;rename_i e _;cases e;cases h
   exact In k b h g (p q).1 (p q).2.1
 |lookup U x A ok=>rw[b] at h;exact Lh k b h g (d x) (d A)
 |mapUpdate U m A x=>rw[b] at h;exact nq k (.inl b) h g (d m) (d A) (d x)
 |insert U m A x=>rw[b] at h;simp only[kO,k.lit] at h;exact nq k (.inr b) h g (d m) (d A) (d x)
 |makeSlice U l c=>
  rw[b] at h;have q:out.nw≠[]:=by
   simp only[kO,VE] at h
   split at h
   simp at h;subst h;simp;cases h
  exact DG k b h g (p q).1 (p q).2.1 d j
 |entryStore U m st x=>rw[b] at h;exact AT k b h g (d m) (d st) (d x) j
 |range U x=>
  rw[b] at h;have q:out.nw≠[]:=by
   simp only[kO] at h
   split at h
   split at h
   simp at h;subst h;simp;cases h;cases h
  exact Pp k b h g (p q).1 (p q).2.1 (d x)
 |entry it=>rw[b] at h;exact Pq b h g (d it)
 |makeInterface T x=>
  rw[b] at h;simp only[kO] at h
  split at h
  rename_i ti L;simp at h;subst h;exact pI k b L g;cases h
 |call c=>
  rw[b] at h;simp only[kO] at h
  split at h
  rename_i f N;have z:=u c b (by rw[N];simp);exact Sj k b N h g d j z.1 z.2;rename_i s;exact VQ k b s h g d;rename_i s;have z:=u c b (by rw[s];simp);exact Lg k b s h g d j z.1 z.2;rename_i s;exact Pr k b s h g d j;rename_i s;exact Sf k b s h g d j;rename_i s;exact VV k b s h g d;rename_i s
  split at h
  rename_i a r J
  split at h
  rename_i m K;simp at h;subst h;have p:=cd (P:=P) (ρ:=ρ) (σ:=σ) d c.args.toList;rw[J] at p;simp only[SV.denL] at p;obtain⟨v,F,e,H,I⟩:=p;have M:=wF (by simpa[SV.den] using H);subst M;refine ky g (v:= .int .i64 m) ?_ (yr m) trivial;have G:(c.args.map ev).toList= .int .i64 a::F:=(by simpa using e);simp only[execOp,b,jA,resolve,s,jO,jq,invoke,builtin,Builtin.min_,G,pG r F a m K I];cases h;cases h;rename_i s
  split at h
  rename_i a r J
  split at h
  rename_i m K;simp at h;subst h;have p:=cd (P:=P) (ρ:=ρ) (σ:=σ) d c.args.toList;rw[J] at p;simp only[SV.denL] at p;obtain⟨v,F,e,H,I⟩:=p;have M:=wF (by simpa[SV.den] using H);subst M;refine ky g (v:= .int .i64 m) ?_ (yr m) trivial;have G:(c.args.map ev).toList= .int .i64 a::F:=(by simpa using e);simp only[execOp,b,jA,resolve,s,jO,jq,invoke,builtin,Builtin.max_,G,pH r F a m K I];cases h;cases h;cases h
 |_=>rw[b] at h;simp[kO] at h
end
end Go.X
namespace Go.X
open Go.RowKit (Below)
theorem qJ:∀(l:List Nat) (k:Nat),gQ l k=true↔k∈l
 |[],k=>by simp[gQ]
 |j::r,k=>by
  simp only[gQ]
  cases h:Nat.beq j k with
  |true=>have:=ja h;subst this;simp
  |false=>
   have a:j≠k:=ww h
   simp only[qJ r k,jj]
   constructor
   exact .inr
   rintro(e|e)
   exact absurd e.symm a
   exact e
theorem qm:∀(l r:List Nat) (k:Nat),k∈gj l r↔k∈l\/k∈r
 |[],r,k=>by simp[gj]
 |o::l,r,k=>by
  simp only[gj]
  cases h:gQ r o with
  |true=>
   have:=(qJ r o).1 h
   rw[qm l r k]
   constructor
   rintro(e|e)
   exact .inl (jo _ e)
   exact .inr e
   rintro(e|e)
   rcases jj.1 e with rfl|e
   exact .inr this
   exact .inl e
   exact .inr e
  |false=>
   rw[qm l (o::r) k]
   simp only[jj]
   constructor
   rintro(e|e|e)
   exact .inl (.inr e)
   exact .inl (.inl e)
   exact .inr e
   rintro((e|e)|e)
   exact .inr (.inl e)
   exact .inl e
   exact .inr (.inr e)
theorem gx:∀(l r:List Nat),iK l r=true->∀k,k∈l->k∈r
 |[],r,_,k,hk=>by simp at hk
 |o::l,r,h,k,hk=>by
  simp only[iK] at h
  cases a:gQ r o with
  |false=>rw[a] at h;cases h
  |true=>
   rw[a] at h
   rcases jj.1 hk with rfl|hk
   exact(qJ r k).1 a
   exact gx l r h k hk
mutual
theorem Lk:∀(sv:SV) (o:Nat),sv.refs o=true->o∈sv.rl
 | .any,o,h=>by simp[SV.refs] at h
 | .dat _ _,o,h=>by simp[SV.refs] at h
 | .ep _ _,o,h=>by simp[SV.refs] at h
 | .bp o' _,o,h=>by simp only[SV.refs] at h;simp[SV.rl,ja h]
 | .own o' _,o,h=>by simp only[SV.refs] at h;simp[SV.rl,ja h]
 | .osl o' _ _ _,o,h=>by simp only[SV.refs] at h;simp[SV.rl,ja h]
 | .rp o' _ _ _,o,h=>by simp only[SV.refs] at h;simp[SV.rl,ja h]
 | .mp o',o,h=>by simp only[SV.refs] at h;simp[SV.rl,ja h]
 | .ip o',o,h=>by simp only[SV.refs] at h;simp[SV.rl,ja h]
 | .fe _ o' _ _ _ _ _ _,o,h=>by simp only[SV.refs] at h;simp[SV.rl,ja h]
 | .fn _ _ _ _,o,h=>by simp[SV.refs] at h
 | .fnp _ _ _ _,o,h=>by simp[SV.refs] at h
 | .fcl _ _,o,h=>by simp[SV.refs] at h
 | .clo _ caps,o,h=>by simp only[SV.refs] at h;simp only[SV.rl];exact df caps o h
 | .agg cs,o,h=>by simp only[SV.refs] at h;simp only[SV.rl];exact df cs o h
 | .tup cs,o,h=>by simp only[SV.refs] at h;simp only[SV.rl];exact df cs o h
 | .lit _,o,h=>by simp[SV.refs] at h
theorem df:∀(cs:List SV) (o:Nat),SV.refs.refsL o cs=true->o∈SV.rl.rlL cs
 |[],o,h=>by simp[SV.refs.refsL] at h
 |c::cs,o,h=>by
  simp only[SV.refs.refsL] at h
  simp only[SV.rl.rlL,jr]
  cases a:c.refs o with
  |true=>exact .inl (Lk c o a)
  |false=>rw[a] at h;exact .inr (df cs o h)
end
section
variable {P:Program} {B:wY} {σ:St} {ρ:Env} {w:World}
def Sk (os:List Nat) (obj:Nat->Option Ob):Nat->Option Ob:=fun o=>if o∈os then obj o else none
def sM (os:List Nat) (ρ:Env):Env:={ρ with blk:=fun o=>if o∈os then ρ.blk o else none}
def wC (ρ:Env):List Nat->List Nat
 |[]=>[]
 |o::r=>match ρ.blk o with|some (some (b,_))=>b::wC ρ r|_=>wC ρ r
theorem wD {b:Nat}:∀(os:List Nat),b∈wC ρ os↔∃o a,o∈os/\ρ.blk o=some (some (b,a))
 |[]=>by simp[wC]
 |o::r=>by
  simp only[wC]
  constructor
  intro h
  split at h
  rename_i f C' e
  rcases jj.1 h with rfl|h
  exact⟨o,C',zb,e⟩
  obtain⟨o',a,c,d⟩:=(wD r).1 h;exact⟨o',a,jo _ c,d⟩
  obtain⟨o',a,c,d⟩:=(wD r).1 h;exact⟨o',a,jo _ c,d⟩
  rintro⟨o',a,c,d⟩
  rcases jj.1 c with rfl|c
  rw[d];exact zb
  have:=(wD r).2 ⟨o',a,c,d⟩
  split
  exact jo _ this
  exact this
theorem Ad (os:List Nat) (ρ:Env):ρ.le (sM os ρ) []:=by
 refine⟨fun _ _ h=>h,fun o p _ a=> ?_,fun _ _=>rfl⟩;simp only[sM] at a
 split at a
 exact a;cases a
theorem NX (e:Sat P B ρ σ.obj w) (os:List Nat):Sat P ⟨w,ρ.H,wC ρ os,fun _=>none,fun _=>0⟩ (sM os ρ) (Sk os σ.obj) w:=by
 refine⟨rfl,rfl,rfl,jk _,jk _,e.good,fun _ _ _=>rfl,fun _ _ _=>rfl,?_,?_,?_,?_⟩;intro o x f;unfold Sk at f
 split at f
 rename_i c;obtain⟨p,i,j⟩:=e.obs o x f;exact⟨p,by simp[sM,c,i],we (Ad os ρ) (by simp) (fun _ _ _ _ o' g=>by simp at g) (fun _ _ _=>⟨rfl,rfl⟩) j⟩;cases f;intro o c;unfold Sk at c;by_cases a:o∈os;rw[jg a] at c;simp[sM,a,e.dead o c];simp[sM,a];intro o o' b C C' h d;simp only[sM] at h d
 split at h
 split at d
 exact e.inj o o' b C C' h d;cases d;cases h;intro o b C h;simp only[sM] at h
 split at h
 rename_i a;exact .inr ((wD os).2 ⟨o,C,a,h⟩);cases h
theorem Ir (g:Sat P B ρ σ.obj w) (os nw:List Nat) (Z:∀d,d∈nw->qY σ.obj d) {f:Env} {u:Nat->Option Ob} {w':World}
 (e:Sat P ⟨w,ρ.H,wC ρ os,fun _=>none,fun _=>0⟩ f u w') (J:(sM os ρ).le f nw) (K:∀o T fz cs,u o=some (.box T fz cs)->∀r,SV.refs.refsL r cs=true->r∈nw\/r∈os):
 ∃ρ'',Sat P B ρ'' (fun o=>if o∈nw\/o∈os then u o else σ.obj o) w'/\ρ.le ρ'' nw/\
  ∀sv v,(∀r,sv.refs r=true->r∈nw\/r∈os)->SV.den P f sv v->SV.den P ρ'' sv v:=by
 let ρ'':Env:={f with blk:=fun o=>if o∈nw\/o∈os then f.blk o else ρ.blk o}
 have A:ρ.le ρ'' nw:=by
  refine⟨fun b c h=>J.H b c h,fun o p t i=> ?_,fun o t=>J.len o t⟩;simp only[ρ''] at i;by_cases a:o∈os;rw[jg (.inr a)] at i;have:=J.blk o p t i;simpa[sM,a] using this;rw[jc (by rintro(h|h);exact t h;exact a h)] at i;exact i
 let s:List Nat:=((σ.ob.map Prod.fst).filter fun o=>decide ¬(o∈nw\/o∈os))
 have Q:∀o,ρ.blk o≠none->¬(o∈nw\/o∈os)->o∈s:=by
  intro o m q;simp only[s,jQ];refine⟨?_,by simpa using q⟩;cases l:σ.obj o with
  |none=>exact absurd (g.dead o l) m
  |some x=>
   simp only[St.obj] at l
   split at l
   rename_i y hy;exact jT.2 ⟨(o,y),wO _ _ _ hy,rfl⟩;cases l
 have D:f.le ρ'' s:=by
  refine⟨fun _ _ h=>h,fun o p t i=> ?_,fun _ _=>rfl⟩;simp only[ρ''] at i;by_cases a:o∈nw\/o∈os;rw[jg a] at i;exact i;rw[jc a] at i;exact absurd (Q o (by rw[i];simp) a) t
 have j:∀r,r∈s->¬(r∈nw\/r∈os):=fun r G=>by
  simp only[s,jQ] at G;simpa using G.2
 have k:∀b,b<w.heap.size->b∉wC ρ os->f.H b=ρ.H b/\w'.heap[b]? =w.heap[b]? :=fun b m q=>⟨e.oldH b m q,e.old b m q⟩
 have F:∀b,b<B.w.heap.size->b∉B.bor->b∉wC ρ os:=by
  intro b m q a;obtain⟨o,N,_,W⟩:=(wD os).1 a;rcases g.own o b N W with h|h;omega;exact q h
 have hsz:=g.size;have E:∀o b N,o∈nw\/o∈os->f.blk o=some (some (b,N))->∀o2 S,¬(o2∈nw\/o2∈os)->ρ.blk o2=some (some (b,S))->False:=by
  intro o b N _ W o2 S h3 h4;rcases e.own o b N W with h|h;have:=(gT g h4).1;simp only at h;omega;obtain⟨R,M,X,O⟩:=(wD os).1 h;exact h3 (.inr (by rw[g.inj o2 R b S M h4 O];exact X))
 refine⟨ρ'',⟨e.os.trans g.os,e.tape.trans g.tape,e.output.trans g.output,jE g.drawn e.drawn,jE hsz e.size,e.good,?_,?_,?_,?_,?_,?_⟩,A,?_⟩;intro b m q;show f.H b=_;rw[(k b (by omega) (F b m q)).1];exact g.oldH b m q;intro b m q;rw[(k b (by omega) (F b m q)).2];exact g.old b m q;intro o x L;by_cases a:o∈nw\/o∈os;simp only[a,if_true] at L;obtain⟨p,i,hs⟩:=e.obs o x L;refine⟨p,by simp[ρ'',a,i],we D (fun h=>j o h a) (fun T fz cs I r G=> ?_) (fun _ _ _=>⟨rfl,rfl⟩) hs⟩;cases Y:SV.refs.refsL r cs with
 |false=>rfl
 |true=>exact absurd (K o T fz cs (by rw[L,I]) r Y) (j r G)
 simp only[a,if_false] at L;obtain⟨p,i,hs⟩:=g.obs o x L;refine⟨p,by simp[ρ'',a,i],we A (fun h=>a (.inl h)) (fun T fz cs I r G=>Z r G o T fz cs (by rw[L,I])) (fun b C hpb=> ?_) hs⟩;subst hpb;refine k b (gT g i).1 fun m=> ?_
 obtain⟨R,M,X,O⟩:=(wD os).1 m;exact a (.inr (by rw[g.inj o R b C M i O];exact X));intro o t;by_cases a:o∈nw\/o∈os;simp only[a,if_true] at t;simp[ρ'',a,e.dead o t];simp only[a,if_false] at t;simp[ρ'',a,g.dead o t];intro o o' b C C' h z;simp only[ρ''] at h z;by_cases a:o∈nw\/o∈os<;>by_cases n:o'∈nw\/o'∈os
 rw[jg a] at h;rw[jg n] at z;exact e.inj o o' b C C' h z;rw[jg a] at h;rw[jc n] at z;exact(E o b C a h o' C' n z).elim;rw[jc a] at h;rw[jg n] at z;exact(E o' b C' n z o C a h).elim;rw[jc a] at h;rw[jc n] at z;exact g.inj o o' b C C' h z;intro o b C h;simp only[ρ''] at h;by_cases a:o∈nw\/o∈os;rw[jg a] at h;rcases e.own o b C h with V|V;simp only at V;exact .inl (by omega);obtain⟨R,M,_,O⟩:=(wD os).1 V;exact g.own R b M O;rw[jc a] at h;exact g.own o b C h;intro sv v G hd;refine SV.den_mono D sv v (fun r hrb=> ?_) hd;cases Y:sv.refs r with
 |false=>rfl
 |true=>exact absurd (G r Y) (j r hrb)
end
end Go.X
namespace Go.X
open Go.RowKit (Below)
section
variable {P:Program} {B:wY} {C:Ctx} {ρ:Env} {w:World} {ops:Array Oper} {a:Act}
def sD (ops:Array Oper) (a:Act) (g:Nat×Bool):Prop:=yielded ops a.tmps g.1=some g.2
def GL (P:Program) (ops:Array Oper) (ρ:Env) (gl:List (Nat×(Nat×Bool)×SV)) (a:Act):Prop:=
 ∀s g v,(s,g,v)∈gl->(sD ops a g->SV.den P ρ v (a.tmps.getD s undef))/\(¬sD ops a g->a.tmps.getD s undef=undef)
theorem AX:∀(gl:List (Nat×(Nat×Bool)×SV)) (k:Nat) g v,Pb gl k=some (g,v)->(k,g,v)∈gl
 |[],_,_,_,h=>by simp[Pb] at h
 | (j,b,x)::r,k,g,v,h=>by
  simp only[Pb] at h
  cases a:Nat.beq j k
  rw[a] at h;exact jo _ (AX r k g v h)
  rw[a] at h;simp at h;obtain⟨rfl,rfl⟩:=h;have:=ja a;subst this;exact zb
theorem Ps (j:Nat):yielded ops a.tmps j=(match cC ops.toList j with|some d=>(match a.tmps[d]? with|some (.bool b)=>some b|_=>none)|none=>none):=by
 unfold yielded cC;rw[zk];cases h:ops[j]? with
 |none=>simp
 |some o=>
  simp only[Option.bind_some];cases o.dst with
  |none=>rfl
  |some d=>rfl
theorem l9 {j:Nat} {want:Bool} {d:Nat} (h:cC ops.toList j=some d):sD ops a (j,want)↔a.tmps[d]? =some (.bool want):=by
 unfold sD;rw[Ps,h];simp only;constructor;intro h
 split at h
 rename_i b c;simp at h;subst h;exact c;cases h;intro h;rw[h]
theorem Gf {d:Nat} {b:Bool} (h:a.tmps.getD d undef= .bool b):a.tmps[d]? =some (.bool b):=by
 rw[jm] at h;cases c:a.tmps[d]? with
 |none=>rw[c] at h;simp[undef] at h
 |some v=>rw[c] at h;simp at h;rw[h]
theorem Is {d:Nat} (h:a.tmps.getD d undef=undef) (b:Bool):a.tmps[d]?≠some (.bool b):=by
 intro c;rw[jm,c] at h;simp[undef] at h
theorem ce {R:RS} (e:px P ρ R.st.sl a) (k:GL P ops ρ R.gl a):∀(b:Nat) (g:Nat×Bool) (γ:Bool),na ops.toList R b g=some γ->(sD ops a g↔γ=true)
 |0,g,γ,h=>by simp[na] at h
 |b+1,(j,want),γ,h=>by
  simp only[na] at h
  split at h
  case h_2=>cases h
  rename_i d o
  rw[l9 o]
  split at h
  .rename_i i β q
   split at h
   case h_2=>cases h
   rename_i f p
   simp at h;subst h
   have l:=ce e k b i f p
   obtain⟨m,n⟩:=k d i _ (AX _ _ _ _ q)
   cases f with
   |true=>
    have:=Gf (qe (by simpa[SV.den] using m (l.2 rfl)))
    rw[this]
    cases want<;>cases β<;>simp[sgn]
   |false=>
    have r:¬sD ops a i:=fun h=>by have:=l.1 h;cases this
    constructor
    .intro h;exact absurd h (Is (n r) want)
    .intro h;simp at h
  .cases h
  .split at h
   .rename_i β s
    simp at h;subst h
    have c:SV.den P ρ (R.st.get d) (a.tmps.getD d undef):=k8 (a:=a) e (.tmp d)
    rw[s] at c
    have:=Gf (qe (by simpa[SV.den] using c))
    rw[this]
    cases want<;>cases β<;>simp[sgn]
   .cases h
theorem nW {R:RS} (i:GL P ops ρ R.gl a):∀(b:Nat) (g:Nat×Bool),sD ops a g->∀h,h∈sH ops.toList R b g->sD ops a h
 |0,g,_,h,c=>by simp[sH] at c
 |b+1,(j,want),f,h,c=>by
  simp only[sH] at c
  rcases jj.1 c with rfl|c
  exact f
  split at c
  rename_i d m
  split at c
  rename_i e v n
  refine nW i b e ?_ h c
  obtain⟨_,l⟩:=i d e _ (AX _ _ _ _ n)
  rw[l9 m] at f
  by_cases k:sD ops a e
  exact k
  exact absurd f (Is (l k) want)
  simp at c
  simp at c
theorem NY {g h:Nat×Bool} (e:RL g h=true):g=h:=by
 obtain⟨a,x⟩:=g;obtain⟨b,y⟩:=h;unfold RL at e;simp only at e
 split at e
 rename_i c;have:=ja c;subst this;cases x<;>cases y<;>simp_all
 cases e
theorem AY:∀(a:List (Nat×Bool)) (g:Nat×Bool),sI a g=true->g∈a
 |[],_,h=>by simp[sI] at h
 |x::r,g,h=>by
  simp only[sI] at h
  split at h
  rename_i e;rw[NY e];exact zb
  exact jo _ (AY r g h)
theorem eI:∀(gl:List (Nat×(Nat×Bool)×SV)) (a:List (Nat×Bool)) (s:Nat) (v:SV),(s,v)∈ee gl a->∃g,(s,g,v)∈gl/\g∈a
 |[],_,_,_,h=>by simp[ee] at h
 | (i,g,x)::r,a,s,v,h=>by
  simp only[ee] at h
  split at h
  rename_i f
  rcases jj.1 h with e|h
  simp at e;obtain⟨rfl,rfl⟩:=e;exact⟨g,zb,AY _ _ f⟩
  obtain⟨b,c,d⟩:=eI r a s v h;exact⟨b,jo _ c,d⟩
  obtain⟨b,c,d⟩:=eI r a s v h;exact⟨b,jo _ c,d⟩
theorem aQ {R:RS} (b:px P ρ R.st.sl a) (i:GL P ops ρ R.gl a) {d:List (Nat×Bool)} (c:∀g,g∈d->sD ops a g):px P ρ (wy R d).sl a:=by
 intro s sv h;simp only[wy] at h;rw[kw] at h
 split at h
 rename_i v j;simp at h;subst h;obtain⟨g,e,f⟩:=eI _ _ _ _ (wO _ _ _ j);exact(i s g _ e).1 (c g f);exact b s sv h
theorem AZ (t:Nat):∀(l:List Oper) (j k:Nat),k∈eg t l j->∃o,l[k-j]? =some o/\o.dst=some t/\j<=k
 |[],_,_,h=>by simp[eg] at h
 |o::r,j,k,h=>by
  have a:k∈eg t r (j+1)->∃o',(o::r)[k-j]? =some o'/\o'.dst=some t/\j<=k:=by
   intro h;obtain⟨o',b,c,g⟩:=AZ t r (j+1) k h;refine⟨o',?_,c,by omega⟩;rw[show k-j=(k-(j+1))+1 by omega];simpa using b
  simp only[eg] at h
  split at h
  rename_i d f
  split at h
  rename_i e;rcases jj.1 h with rfl|h;exact⟨o,by simp,by rw[f,ja e],jk _⟩;exact a h;exact a h;exact a h
theorem Gg {c:Operand} {β:Bool} (k:a.eval c= .bool β):∀g,g∈ei ops.toList c β->sD ops a g:=by
 intro g b;unfold ei at b
 split at b
 rename_i t e;obtain⟨j,i,rfl⟩:=jT.1 b;obtain⟨o,d,f,_⟩:=AZ t _ 0 j i;have h:cC ops.toList j=some t:=(by unfold cC;simp only[Nat.sub_zero] at d;rw[d];exact f);rw[l9 h];cases c<;>simp[FW] at e
 subst e;exact Gf (by simpa[Act.eval] using k);simp at b
theorem Sl {R:RS} {o:Oper} {c x y:Operand} {n:List (Nat×Bool)} {out:Out} (z:o.op= .pick c x y) (h:K4 ops.toList R n c x y=some out) (D:Sat P B ρ R.st.obj w) (m:px P ρ R.st.sl a) (u:GL P ops ρ R.gl a)
 (s:∀g,g∈n->sD ops a g):kS P o a.eval w (kM P B ρ R.st out):=by
 unfold K4 at h
 split at h
 case h_2=>cases h
 rename_i β G;have d:=k8 (a:=a) (aQ m u s) c;rw[G] at d;have d:=qe (by simpa[SV.den] using d);have k:(execOp a.eval o).run P w= .ok (.value (if β then a.eval x else a.eval y)) w:=by
  simp[execOp,z,d,asBool]
 have j:∀b,β=b->∀g,g∈ei ops.toList c b++n->sD ops a g:=by
  rintro b rfl g t;rcases jr.1 t with t|t
  .exact Gg d g t
  .exact s g t
 have f:β=true->SV.den P ρ (wc (wy R (ei ops.toList c true++n)) x) (a.eval x):=fun e=>k8 (a:=a) (aQ m u (j true e)) x
 have i:β=false->SV.den P ρ (wc (wy R (ei ops.toList c false++n)) y) (a.eval y):=fun e=>k8 (a:=a) (aQ m u (j false e)) y
 split at h
 .rename_i p q A C;rw[A] at f;rw[C] at i;have f:β=true->a.eval x= .bool p:=fun e=>qe (by simpa[SV.den] using f e)
  have i:β=false->a.eval y= .bool q:=fun e=>qe (by simpa[SV.den] using i e)
  have l:∀r,(β=true->r=p)->(β=false->r=q)->kS P o a.eval w (kM P B ρ R.st (.pure (.dat .bool r))):=by
   intro r E F;refine ky D (v:= .bool r) ?_ (yu r) trivial;rw[k];cases β with
   |true=>simp[f rfl,E rfl]
   |false=>simp[i rfl,F rfl]
  split at h
  .simp at h;subst h;refine l _ (fun e=>by simp[e]) (fun e=> ?_);have:=i e;simp[Act.eval] at this;simp[e,this]
  .split at h
   .simp at h;subst h;refine l _ (fun e=> ?_) (fun e=>by simp[e]);have:=f e;simp[Act.eval] at this;simp[e,this]
   .simp at h;subst h;exact l _ (fun e=>by simp[e]) (fun e=>by simp[e])
 .rename_i p q A C;rw[A] at f;rw[C] at i;have f:β=true->a.eval x= .int .i64 p:=fun e=>wF (by simpa[SV.den] using f e)
  have i:β=false->a.eval y= .int .i64 q:=fun e=>wF (by simpa[SV.den] using i e)
  simp at h;subst h;refine ky D (v:= .int .i64 (cond β p q)) ?_ (yr _) trivial;rw[k];cases β with
  |true=>simp[f rfl]
  |false=>simp[i rfl]
 .cases h
end
end Go.X
namespace Go.X
open Go.RowKit (Below)
section
variable {P:Program} {B:wY} {C:Ctx} {w:World} {ops:Array Oper} {a:Act} {o:Oper}
def Inv (P:Program) (B:wY) (n:Nat) (ops:Array Oper) (rs:RS) (a:Act) (w:World):Prop:=
 a.defers=[]/\a.tmps.size=n/\∃ρ,Sat P B ρ rs.st.obj w/\px P ρ rs.st.sl a/\GL P ops ρ rs.gl a/\Pin B ρ
def VW (g:Option Bool) (l:List Prop):Prop:=match g with
 |none=>qX l
 |some γ=>γ=true->qX l
def YL (e:Eff) (v:SV):Prop:=(∃s,(s,v)∈e.sl)\/∃s g,(s,g,v)∈e.gl
structure Fit (P:Program) (B:wY) (rs R:RS) (e:Eff):Prop where
 sl:∀s v,kN R.st.sl s=some v->kN rs.st.sl s=some v
 gl:∀x,x∈R.gl->x∈rs.gl
 obj:∀o x,R.st.obj o=some x->rs.st.obj o=some x
 go:∀ρ w,Sat P B ρ rs.st.obj w->(∀d,d∈e.nw->rs.st.obj d=none/\qY rs.st.obj d)->∃B' ρR,ρ.le ρR []/\Sat P B' ρR R.st.obj w/\
  ∀ρ' w',Sat P B' ρ' ({R.st with ob:=e.ob++R.st.ob}:St).obj w'->ρR.le ρ' e.nw->
   ∃ρ'',Sat P B ρ'' (wI e rs).st.obj w'/\ρ.le ρ'' e.nw/\∀v x,YL e v->SV.den P ρ' v x->SV.den P ρ'' v x
theorem Fit.refl (P:Program) (B:wY) (rs:RS) (e:Eff):Fit P B rs rs e:=
 ⟨fun _ _ h=>h,fun _ h=>h,fun _ _ h=>h,fun ρ _ d _=>⟨B,ρ,Env.le.refl _ _,d,fun c _ a b=>⟨c,a,b,fun _ _ _ h=>h⟩⟩⟩
structure Sm (rs:RS) (d:Nat):Prop where
 obj:rs.st.obj d=none
 sl:∀s v,(s,v)∈rs.st.sl->v.refs d=false
 gl:∀s g v,(s,g,v)∈rs.gl->v.refs d=false
 ob:∀o T fz cs,(o,some (.box T fz cs))∈rs.st.ob->SV.refs.refsL d cs=false
 lt:d<1000000
theorem Sm.noRef {rs:RS} {d:Nat} (h:Sm rs d):qY rs.st.obj d:=by
 intro o T fz cs a;simp only[St.obj] at a
 split at a
 rename_i x b;subst a;exact h.ob o T fz cs (wO _ _ _ b);cases a
theorem nX:∀(sl:List (Nat×SV)) (d s:Nat) (v:SV),nM d sl=true->(s,v)∈sl->v.refs d=false
 |[],_,_,_,_,h=>by simp at h
 | (j,x)::r,d,s,v,a,h=>by
  simp only[nM] at a
  cases b:x.refs d with
  |true=>rw[b] at a;cases a
  |false=>
   rw[b] at a
   rcases jj.1 h with e|h
   simp at e;obtain⟨_,rfl⟩:=e;exact b
   exact nX r d s v a h
theorem A0:∀(gl:List (Nat×(Nat×Bool)×SV)) (d s:Nat) g v,FV d gl=true->(s,g,v)∈gl->v.refs d=false
 |[],_,_,_,_,_,h=>by simp at h
 | (j,c,x)::r,d,s,g,v,a,h=>by
  simp only[FV] at a
  cases b:x.refs d with
  |true=>rw[b] at a;cases a
  |false=>
   rw[b] at a
   rcases jj.1 h with e|h
   simp at e;obtain⟨_,_,rfl⟩:=e;exact b
   exact A0 r d s g v a h
theorem gy:∀(ob:List (Nat×Option Ob)) (d o T:Nat) fz cs,gw d ob=true->(o,some (.box T fz cs))∈ob->SV.refs.refsL d cs=false
 |[],_,_,_,_,_,_,h=>by simp at h
 | (j,y)::r,d,o,T,fz,cs,a,h=>by
  have c:gw d r=true/\∀T fz cs,y=some (.box T fz cs)->SV.refs.refsL d cs=false:=by
   unfold gw at a
   split at a
   rename_i e;cases e;rename_i e;cases e
   split at a
   cases a;rename_i f;exact⟨a,fun T fz cs e=>by simp at e;obtain⟨rfl,rfl,rfl⟩:=e;exact f⟩;rename_i e;cases e;rename_i b;exact⟨a,fun T fz cs e=>by subst e;exact(b _ _ _ _ rfl).elim⟩
  rcases jj.1 h with e|h;simp at e;obtain⟨_,e⟩:=e;exact c.2 T fz cs e.symm;exact gy r d o T fz cs c.1 h
theorem bi {rs:RS} {d:Nat} (h:K5 rs d=true):Sm rs d:=by
 unfold K5 at h
 split at h
 rename_i b c e f;exact⟨b,fun s v a=>nX _ _ s v c a,fun s g v a=>A0 _ _ s g v e a,fun o T fz cs i=>gy _ _ o T fz cs f i,jy h⟩;cases h
theorem nY (d:Nat):∀(t:Ty) (x:t.Data),SV.refs.refsL d (EE t x)=false
 | .int,_=>rfl
 | .bool,_=>rfl
 | .uint _,_=>rfl
 | .slice _,_=>rfl
 | .map _ _,_=>rfl
 | .ptr _,_=>rfl
 | .unit,_=>rfl
 | .pair a b,x=>by
  have e:∀(l r:List SV),SV.refs.refsL d l=false->SV.refs.refsL d r=false->SV.refs.refsL d (l++r)=false:=by
   intro l r c g
   induction l with
   |nil=>simpa using g
   |cons v l h=>
    simp only[jV,SV.refs.refsL] at c⊢;cases f:v.refs d with
    |true=>rw[f] at c;cases c
    |false=>rw[f] at c;exact h c
  exact e _ _ (nY d a x.1) (nY d b x.2)
theorem Pt {σ:St} {sv:SV} {cs:List SV} {d:Nat} (h:cells σ sv=some cs) (a:sv.refs d=false):SV.refs.refsL d cs=false:=by
 have one:∀v:SV,v.refs d=false->SV.refs.refsL d [v]=false:=fun v b=>by simp[SV.refs.refsL,b]
 unfold cells at h
 split at h<;>first
  | (cases h;done)
  | (simp at h;subst h;simpa[SV.refs] using a)
  | (simp at h;subst h;exact nY d _ _)
  | (split at h
     simp at h;subst h;exact one _ a
     cases h)
  | (simp at h;subst h;exact one _ a)
theorem NZ (R:RS) (a:List (Nat×Bool)):(wy R a).obj=R.st.obj:=rfl
theorem Sn {rs R:RS} {e:Eff} (i:Fit P B rs R e) {d:Nat} (b:∀s v,kN rs.st.sl s=some v->v.refs d=false) (a:∀s g v,(s,g,v)∈rs.gl->v.refs d=false) (h:List (Nat×Bool)) (x:Operand):
 (wc (wy R h) x).refs d=false:=by
 cases x with
 |tmp t=>
  simp only[wc,St.get,wy];rw[kw];cases c:kN (ee R.gl h) t with
  |some v=>
   obtain⟨g,j,_⟩:=eI _ _ _ _ (wO _ _ _ c);exact a t g v (i.gl _ j)
  |none=>
   simp only;cases c:kN R.st.sl t with
   |some v=>exact b t v (i.sl t v c)
   |none=>rfl
 |const v=>cases v<;>simp only[wc,Dy]<;>first|rfl|(split<;>rfl)
 |global g=>rfl
 |func f=>rfl
theorem It {rs R:RS} {e:Eff} {ρ:Env} {B':wY} {b:List (Nat×Bool)} {out:Out} (L:C.ok P) (F:Fit P B rs R e) (h:cD C ops.toList o R b=some out) (H:Sat P B' ρ R.st.obj w) (j:px P ρ R.st.sl a) (G:GL P ops ρ R.gl a)
 (m:∀g,g∈b->sD ops a g) (J:qX out.vc) (i:(out.nw≠[]\/iJ o.op=true)->Sm rs (Dz o)):kS P o a.eval w (kM P B' ρ R.st out):=by
 unfold cD at h
 split at h
 .rename_i c x y t;exact Sl t h H j G m
 case h_2 U n parts g t hgd=>
  have p:∀{v w'},kM P B' ρ (wy R b) out v w'->kM P B' ρ R.st out v w':=fun h=>by
   obtain⟨u,f,A,D,E⟩:=h;refine⟨u,?_,A,D,E⟩;have e:({(wy R b) with ob:=out.wr++(gg (wy R b) out.fz++(wy R b).ob)}:St).obj=({R.st with ob:=out.wr++(gg R.st out.fz++R.st.ob)}:St).obj:=by
    have:∀l,gg (wy R b) l=gg R.st l:=by
     intro l
     induction l with
     |nil=>rfl
     |cons k r K=>simp only[gg,NZ,K]
    funext k;simp only[St.obj,this];rfl
   rw[e] at f;exact f
  exact kS.mono (Lj (σ:=wy R b) L t h H (fun x=>k8 (a:=a) (aQ j G m) x)) fun v w'=>p
 .rename_i N _;have p:∀{v w'},kM P B' ρ (wy R b) out v w'->kM P B' ρ R.st out v w':=fun h=>by
   obtain⟨u,f,A,D,E⟩:=h;refine⟨u,?_,A,D,E⟩;have e:({(wy R b) with ob:=out.wr++(gg (wy R b) out.fz++(wy R b).ob)}:St).obj=({R.st with ob:=out.wr++(gg R.st out.fz++R.st.ob)}:St).obj:=by
    have:∀l,gg (wy R b) l=gg R.st l:=by
     intro l
     induction l with
     |nil=>rfl
     |cons k r K=>simp only[gg,NZ,K]
    funext k;simp only[St.obj,this];rfl
   rw[e] at f;exact f
  have d:Sm rs (Dz o)->R.st.obj (Dz o)=none/\qY R.st.obj (Dz o)/\∀x cs,cells (wy R b) (wc (wy R b) x)=some cs->SV.refs.refsL (Dz o) cs=false:=by
   intro z;have f:=z.obj;refine⟨?_,fun k T fz cs hk=>z.noRef k T fz cs (F.obj _ _ hk),fun x cs I=>Pt I (Sn F (fun s v h=>z.sl s v (wO _ _ _ h)) z.gl b x)⟩;cases O:R.st.obj (Dz o) with
   |none=>rfl
   |some x=>rw[F.obj _ _ O] at f;cases f
  refine kS.mono (Iq (σ:=wy R b) L h H (fun x=>k8 (a:=a) (aQ j G m) x) J (fun q=> ?_) (fun c M q=> ?_)) fun v w'=>p
  .exact d (i (.inl q))
  .have:=d (i (.inr (by
    rw[M];unfold iJ
    split
    .rename_i h;cases h;split
     .rename_i h;exact absurd h q
     .rfl
    .rename_i h;exact absurd rfl (h c))))
   exact⟨this.1,this.2.1⟩
theorem Iu:∀(l:List Oper) (d:Nat) (gl:List (Nat×(Nat×Bool)×SV)),VG l d gl=true->∀s j b v,(s,(j,b),v)∈gl->s≠d/\∃dj,cC l j=some dj/\dj≠d
 |_,_,[],_,s,j,b,v,a=>by simp at a
 |l,d,(m,(k,i),n)::r,h,s,j,b,v,a=>by
  simp only[VG] at h
  split at h
  rename_i dj f g
  split at h
  cases h
  rename_i c
  rcases jj.1 a with e|a
  simp at e;obtain⟨rfl,⟨rfl,rfl⟩,rfl⟩:=e
  exact⟨ww f,dj,g,ww c⟩
  exact Iu l d r h s j b v a
  cases h
theorem Gh (a:Act) (d s:Nat) (v:Value):(a.put (some d) v).tmps.getD s undef=if s=d/\d<a.tmps.size then v else a.tmps.getD s undef:=by
 simp only[Act.put,jm,jG];by_cases e:s=d;subst e;by_cases b:s<a.tmps.size;simp[b];simp[b];rw[jc (fun h=>e h.symm),jc (fun h=>e h.1)]
theorem N0 {d j:Nat} {b:Bool} {v:Value} {dj:Nat} (e:cC ops.toList j=some dj) (c:dj≠d):sD ops (a.put (some d) v) (j,b)↔sD ops a (j,b):=by
 rw[l9 e,l9 e];simp only[Act.put,jG];rw[jc (fun h=>c h.symm)]
structure Gi (C:Ctx) (ops:Array Oper) (o:Oper) (rs:RS) (e:Eff):Prop where
 frame:∀d,o.dst=some d->d<C.n
 gl:∀d,o.dst=some d->∀s j b v,(s,(j,b),v)∈rs.gl->s≠d/\∃dj,cC ops.toList j=some dj/\dj≠d
 guard:∀d,o.dst=some d->∀j b,o.guard=some (j,b)->∃dj,cC ops.toList j=some dj/\dj≠d
 nw:∀d,d∈e.nw->Sm rs d
 dst:(e.nw≠[]\/iJ o.op=true)->Sm rs (Dz o)
theorem eJ {rs:RS} (h:RO ops.toList o rs=true) {d:Nat} (g:o.dst=some d):(∀s j b v,(s,(j,b),v)∈rs.gl->s≠d/\∃dj,cC ops.toList j=some dj/\dj≠d)/\
 ∀j b,o.guard=some (j,b)->∃dj,cC ops.toList j=some dj/\dj≠d:=by
 unfold RO at h;rw[g] at h;simp only at h
 split at h
 rename_i a;refine⟨Iu _ _ _ h,fun j b e=> ?_⟩;rw[e] at a;simp only[RN] at a
 split at a
 rename_i dj c
 split at a
 cases a;rename_i f;exact⟨dj,c,ww f⟩;cases a;cases h
theorem nZ {rs:RS} {e:Eff} {ρ ρ'':Env} {w':World} {n:Nat} {v:Value} (F:a.defers=[]) (K:a.tmps.size=n) (G:px P ρ rs.st.sl a) (N:GL P ops ρ rs.gl a) (y:Pin B ρ)
 (O:Sat P B ρ'' (wI e rs).st.obj w') (u:ρ.le ρ'' e.nw) (i:Gi C ops o rs e) (I:∀d,o.dst=some d->d<n)
 {sv gv:SV} (E:e.sl=Ia o sv) (z:∀d,o.dst=some d->SV.den P ρ'' sv v) (A:∀x,x∈e.gl->∃d g,o.dst=some d/\o.guard=some g/\x=(d,g,gv))
 (S:∀d g,o.dst=some d->o.guard=some g->(sD ops a g->SV.den P ρ'' gv v)/\(¬sD ops a g->v=undef)):
 Inv P B n ops (wI e rs) (a.put o.dst v) w':=by
 have p:∀s f,kN rs.st.sl s=some f->SV.den P ρ'' f (a.tmps.getD s undef):=fun s f h=>
  SV.den_mono u _ _ (fun r L=>(i.nw r L).sl s f (wO _ _ _ h)) (G s f h)
 have q:∀s g l,(s,g,l)∈rs.gl->SV.den P ρ l (a.tmps.getD s undef)->SV.den P ρ'' l (a.tmps.getD s undef):=fun s g l h H=>
  SV.den_mono u _ _ (fun r L=>(i.nw r L).gl s g l h) H
 have m:Pin B ρ'':=y.mono u (fun d F=>(i.nw d F).lt);cases c:o.dst with
 |none=>
  refine⟨F,K,ρ'',O,?_,?_,m⟩;intro s f h;simp only[wI,E,Ia,c,jW] at h;exact p s f h;intro s g l k;simp only[wI] at k;rcases jr.1 k with k|k;obtain⟨d,_,t,_⟩:=A _ k;rw[c] at t;cases t;obtain⟨t,w⟩:=N s g l k;exact⟨fun J=>q s g l k (t J),w⟩
 |some d=>
  have D:d<a.tmps.size:=(by rw[K];exact I d c);have T:=i.gl d c;have V:=i.guard d c;refine⟨by simpa[Act.put] using F,by simpa[Act.put] using K,ρ'',O,?_,?_,m⟩;intro s f h;simp only[wI,E,Ia,c,List.singleton_append] at h;rw[Gh];by_cases e:s=d;subst e;rw[kX] at h;simp at h;subst h;rw[jg ⟨rfl,D⟩];exact z s c;rw[kL (fun h=>e h.symm)] at h;rw[jc (fun h=>e h.1)];exact p s f h;intro s g l k;simp only[wI] at k;rcases jr.1 k with k|k;obtain⟨Z,g',t,w,M⟩:=A _ k;rw[c] at t;simp at t M;obtain⟨rfl,rfl,rfl⟩:=M;subst t;obtain⟨j,b⟩:=g;obtain⟨dj,Q,R⟩:=V j b w;rw[N0 Q R,Gh,jg ⟨rfl,D⟩];exact S d (j,b) c w;obtain⟨j,b⟩:=g;obtain⟨t,w⟩:=N s (j,b) l k;obtain⟨W,dj,X,Y⟩:=T s j b l k;rw[N0 X Y,Gh,jc (fun h=>W h.1)];exact⟨fun J=>q s (j,b) l k (t J),w⟩
theorem ma {rs:RS}:∀(l:List Nat),EH rs l=true->∀d,d∈l->K5 rs d=true
 |[],_,d,h=>by simp at h
 |x::r,h,d,a=>by
  simp only[EH] at h
  split at h
  rename_i b
  rcases jj.1 a with rfl|a
  exact b
  exact ma r h d a
  cases h
theorem gz {rs:RS} {e:Eff} (h:fits C ops.toList o rs e=true):Gi C ops o rs e:=by
 unfold fits at h
 split at h
 rename_i b f j g;refine⟨fun d a=> ?_,fun d a=>(eJ f a).1,fun d a=>(eJ f a).2,fun d a=>bi (ma _ j d a),fun c=>bi ?_⟩;rw[a] at b;simp only[nN] at b;exact jy b
 split at g
 rename_i i e2;rcases c with h|h;exact absurd i h;rw[e2] at h;cases h;exact g;cases h
theorem gA (hC:C.ok P) {rs R:RS} {e:Eff} (l:cU C ops.toList o R=some e) (c:Gi C ops o rs e) (N:Fit P B rs R e) (hI:Inv P B C.n ops rs a w) (X:VW e.guard e.vc)
 {K:Act->World->Prop} {Q:Exit->Act->World->Prop} (hK:∀a' w',Inv P B C.n ops (wI e rs) a' w'->VW e.guard e.fact->K a' w'):
 if Region.wanted o (yielded ops a.tmps) then o.wp P a w K Q else K (a.put o.dst undef) w:=by
 obtain⟨O,V,ρ,hS,A,T,m⟩:=hI;have f1:=c.frame;have f4:=c.dst;obtain⟨B',ρR,F,H,J⟩:=N.go ρ w hS (fun d O=>⟨(c.nw d O).obj,(c.nw d O).noRef⟩);have p:px P ρR R.st.sl a:=fun s sv h=>SV.den_mono F _ _ (fun r hr=>by simp at hr) (A s sv (N.sl s sv h))
 have z:GL P ops ρR R.gl a:=fun s g v h=>⟨fun hh=>SV.den_mono F _ _ (fun r hr=>by simp at hr) ((T s g v (N.gl _ h)).1 hh),(T s g v (N.gl _ h)).2⟩
 have hle2:∀{ρ'':Env},ρ.le ρ'' e.nw->ρ.le ρ'' e.nw:=fun h=>h
 unfold cU at l
 split at l
 .--no guard
  rename_i k
  split at l
  .cases l
  rename_i out q;simp at l;subst l;have hw:Region.wanted o (yielded ops a.tmps)=true:=(by simp[Region.wanted,k]);rw[jg hw];have I:=It (w:=w) (a:=a) hC N q H p z (fun g hg=>by simp at hg) X f4;refine I.wp fun v w' hL=> ?_
  obtain⟨y,L,M,g3,g4⟩:=hL;obtain⟨ρ'',Y,Z,q3⟩:=J y w' (by simpa only[jL] using L) M;refine hK _ _ (nZ (gv:= .any) O V A T m Y Z c f1 rfl (fun d f=>q3 _ _ (.inl ⟨d,by simp[Ia,f]⟩) g3) (fun x S=>by simp at S) (fun d g _ hg=>by rw[k] at hg;cases hg)) g4
 .rename_i g k
  split at l
  .cases l
  rename_i γ hγ
  split at l
  .cases l
  rename_i out q
  split at l
  case h_2=>cases l
  rename_i hwr W;simp at l;subst l;have E:=ce p z _ _ _ hγ;have t:(Region.wanted o (yielded ops a.tmps)=true)↔sD ops a g:=by
   obtain⟨j,b⟩:=g;simp[Region.wanted,k,sD]
  have D:∀x,x∈(match o.dst with|some d=>[(d,g,out.sv)]|none=>[])->∃d g',o.dst=some d/\o.guard=some g'/\x=(d,g',out.sv):=by
   intro x S
   split at S
   .rename_i d f;simp at S;exact⟨d,g,f,k,S⟩
   .simp at S
  by_cases G:sD ops a g
  .rw[jg (t.2 G)];have u:=E.1 G;have I:=It (w:=w) (a:=a) hC N q H p z (nW z _ _ G) (X u) (fun hor=>f4 (hor.imp (fun h=>absurd W h) id));refine I.wp fun v w' hL=> ?_
   obtain⟨y,L,M,g3,g4⟩:=hL;rw[hwr] at L;rw[W] at M;obtain⟨ρ'',Y,Z,q3⟩:=J y w' (by simpa only[jW] using L) M;refine hK _ _ (nZ (sv:= .any) O V A T m Y Z c f1 rfl (fun d f=>vz _) D (fun d g' f i=>⟨fun _=> ?_,fun V=> ?_⟩)) (fun _=>g4)
   .exact q3 _ _ (.inr ⟨d,g,by simp[f]⟩) g3
   .rw[k] at i;simp at i;subst i;exact absurd G V
  .rw[jc (fun h=>G (t.1 h))];obtain⟨y,L,M,_,_⟩:=wg out.fz H;obtain⟨ρ'',Y,Z,q3⟩:=J y w L M;refine hK _ _ (nZ (sv:= .any) O V A T m Y Z c f1 rfl (fun d f=>vz _) D (fun d g' f i=>⟨fun hh=> ?_,fun _=>rfl⟩)) (fun u=>absurd (E.2 u) G);rw[k] at i;simp at i;subst i;exact absurd hh G
end
end Go.X
namespace Go.X
open Go.RowKit (Below)
theorem Ae:∀(l:List Prop) (k:Prop),asks l k->qX l/\k
 |[],_,h=>⟨trivial,h⟩
 |_::r,k,h=>⟨⟨h.1,(Ae r k h.2).1⟩,(Ae r k h.2).2⟩
theorem pJ (γ:Bool):∀(l:List Prop) (k:Prop),RR γ l k->(γ=true->qX l)/\k
 |[],_,h=>⟨fun _=>trivial,h⟩
 |_::r,k,h=>⟨fun e=>⟨h.1 e,(pJ γ r k h.2).1 e⟩,(pJ γ r k h.2).2⟩
theorem gW:∀(l:List Prop) (k:Prop),FX l k->qX l->k
 |[],_,h,_=>h
 |_::r,k,h,a=>gW r k (h a.1) a.2
theorem EQ (γ:Bool):∀(l:List Prop) (k:Prop),RT γ l k->(γ=true->qX l)->k
 |[],_,h,_=>h
 |_::r,k,h,a=>EQ γ r k (h fun e=>(a e).1) fun e=>(a e).2
theorem n4 {e:Eff} {es:List Eff} {k:Prop} (h:w9 false (e::es) k):VW e.guard e.vc/\(VW e.guard e.fact->w9 false es k):=by
 simp only[w9] at h;cases b:e.guard with
 |none=>rw[b] at h;have:=Ae _ _ h;exact⟨this.1,fun a=>gW _ _ this.2 a⟩
 |some γ=>rw[b] at h;have:=pJ γ _ _ h;exact⟨this.1,fun a=>EQ γ _ _ this.2 a⟩
theorem bj {k:Prop}:∀(es:List Eff),w9 true es k->(∀e,e∈es->VW e.guard e.vc)/\k
 |[],h=>⟨fun e f=>by simp at f,h⟩
 |e::es,h=>by
  simp only[w9] at h
  have:VW e.guard e.vc/\w9 true es k:=by
   cases b:e.guard with
   |none=>rw[b] at h;exact Ae _ _ h
   |some γ=>rw[b] at h;exact pJ γ _ _ h
  obtain⟨c,d⟩:=bj es this.2;refine⟨fun x a=> ?_,d⟩;rcases jj.1 a with rfl|a;exact this.1;exact c x a
section
variable {P:Program} {B:wY} {C:Ctx} {ops:Array Oper} {Q:Exit->Act->World->Prop}
theorem v6 (m:C.ok P) {k:Prop}:∀(l:List Oper) (rs b:RS) (es:List Eff) (a:Act) (w:World),az C ops.toList l rs=some (es,b)->w9 false es k->Inv P B C.n ops rs a w->
 (k->∀d w',Inv P B C.n ops b d w'->Q .normal d w')->wpList P ops Q l a w
 |[],rs,b,es,a,w,h,hk,f,i=>by
  simp[az] at h
  obtain⟨rfl,rfl⟩:=h
  exact i hk a w f
 |o::r,rs,b,es,a,w,h,hk,f,i=>by
  simp only[az] at h
  split at h
  cases h
  rename_i e t
  split at h
  cases h
  rename_i u
  split at h
  cases h
  rename_i p x v
  simp at h
  obtain⟨rfl,rfl⟩:=h
  obtain⟨q,s⟩:=n4 hk
  have:=gA (K:=wpList P ops Q r) (Q:=Q) m t (gz u) (Fit.refl P B rs e) f q (fun d w' g c=>v6 m r _ _ _ d w' v (s c) g i)
  unfold wpList
  split
  rename_i j;rw[jg j] at this;exact .inl this
  rename_i j;rw[jc j] at this;exact this
theorem gB (σ:St) (p:SV->Bool):∀(l:List (Nat×SV)) (s:Nat) (v:SV),kN (mE σ p l) s=some v->v= .any
 |[],s,v,h=>by simp[mE,kN] at h
 | (j,x)::r,s,v,h=>by
  simp only[mE] at h
  split at h
  simp only[kN] at h
  cases a:Nat.beq j s with
  |true=>rw[a] at h;simp at h;exact h.symm
  |false=>rw[a] at h;exact gB σ p r s v h
  exact gB σ p r s v h
theorem q8 (σ:St) (p:SV->Bool):∀(l:List (Nat×SV)) (s:Nat),kN (mE σ p l) s=none->kN l s≠none->p (σ.get s)=false
 |[],s,_,h=>by simp[kN] at h
 | (j,x)::r,s,h,hl=>by
  simp only[mE] at h
  simp only[kN] at hl
  cases a:Nat.beq j s with
  |true=>
   have:=ja a
   subst this
   split at h
   simp[kN] at h
   rename_i b;exact b
  |false=>
   rw[a] at hl
   split at h
   simp only[kN,a] at h;exact q8 σ p r s h hl
   exact q8 σ p r s h hl
theorem nr {n m:Nat} {σ:St} {a:Act} {w:World} (h:Rel P B n σ a w):Rel P B n (gc m σ) a w:=by
 unfold gc
 split
 exact h;obtain⟨c,d,ρ,e,f,g⟩:=h;refine⟨c,d,ρ,e,fun s v b=> ?_,g⟩;simp only at b;rw[kw] at b
 split at b
 rename_i x i;simp at b;subst b;rw[gB _ _ _ _ _ i];exact vz _;exact f s v b
theorem eK {os:List Nat} {v:SV} (h:nO os v=false):∀o,o∈os->v.refs o=false:=by
 induction os with
 |nil=>intro o a;simp at a
 |cons x r c=>
  intro o a;simp only[nO] at h
  split at h
  cases h;rename_i b;rcases jj.1 a with rfl|a;exact b;exact c h o a
theorem Pu {n s:Nat} {σ:St} {a:Act} {w:World} (h:Rel P B n σ a w):Rel P B n (Ib s σ) a w:=by
 unfold Ib
 split
 case h_2=>exact h
 rename_i o t L
 split
 .exact h
 rename_i A;have A:o≠s:=ww A
 split
 case h_2=>exact h
 rename_i x D z;simp only[ji] at z;obtain⟨z,N⟩:=z;have N:=jy N;obtain⟨Z,h2,ρ,f,J,C⟩:=h
 let c:Env:={H:=ρ.H,blk:=fun k=>if k=s then ρ.blk o else if k=o then none else ρ.blk k,len:=fun k=>if k=s then ρ.len o else ρ.len k}
 have M:ρ.le c [s]:=⟨fun _ _ h=>h,fun k p hk g=>by
  have hk:k≠s:=(by simpa using hk);simp only[c,hk,if_false] at g
  split at g
  .cases g
  .exact g,fun k hk=>by simp[c,show k≠s by simpa using hk]⟩
 have m:∀k,({σ with ob:=(s,some x)::(o,none)::σ.ob}:St).obj k=if k=s then some x else if k=o then none else σ.obj k:=by
  intro k;rw[ye,ye]
 have K:∀k T fz cs,σ.obj k=some (.box T fz cs)->SV.refs.refsL s cs=false:=by
  intro k T fz cs hk;simp only[St.obj] at hk
  split at hk
  .rename_i y X;subst hk;exact gy _ _ k T fz cs z (wO _ _ _ X)
  .cases hk
 have F:∀k (y:Ob) p,σ.obj k=some y->wH P ρ w k p y->k≠s->wH P c w k p y:=by
  intro k y p hk Q G;exact we M (by simpa using G) (fun T fz cs e r O=>by simp at O;subst O;subst e;exact K k T fz cs hk) (fun _ _ _=>⟨rfl,rfl⟩) Q
 refine⟨Z,h2,c,⟨f.os,f.tape,f.output,f.drawn,f.size,f.good,f.oldH,f.old,?_,?_,?_,?_⟩,?_,?_⟩
 rotate_right
 .refine⟨fun k p hk R=> ?_,C.2⟩;have G:k≠s:=fun e=>by omega
  simp only[c,jc G] at R⊢
  split at R
  .cases R
  .exact C.1 k p hk R
 .intro k y hk;have d:=m k;simp only[St.obj] at hk d;rw[d] at hk;by_cases e:k=s
  .subst e;rw[jg rfl] at hk;simp at hk;subst hk;obtain⟨p,g,Q⟩:=f.obs o x D;refine⟨p,by simp[c,g],?_⟩;have i:=F o x p D Q A;cases x with
   |box T fz cs=>exact i
   |row E u fz nl l=>
    simp only[wH] at i⊢;obtain⟨q1,q2⟩:=i;refine⟨?_,q2⟩;have V:c.len k=ρ.len o:=(by simp[c]);have e2:c.len o=ρ.len o:=(by simp[c,A]);rw[V,<-e2];exact q1
   |map fz kt vt l=>exact i
   |iter kt vt left cur=>exact i
   |mape kt vt l key st=>exact i
  .rw[jc e] at hk;by_cases j:k=o
   .rw[jg j] at hk;cases hk
   .rw[jc j] at hk;obtain⟨p,g,Q⟩:=f.obs k y hk;exact⟨p,by simp[c,e,j,g],F k y p hk Q e⟩
 .intro k hk;have d:=m k;simp only[St.obj] at hk d;rw[d] at hk;by_cases e:k=s
  .rw[jg e] at hk;cases hk
  .rw[jc e] at hk;by_cases j:k=o
   .simp only[c];rw[jc e,jg j]
   .rw[jc j] at hk;simp only[c];rw[jc e,jc j];exact f.dead k hk
 .intro k k' b Y C2 hk d;simp only[c] at hk d;by_cases e:k=s<;>by_cases j:k'=s
  .rw[e,j]
  .rw[jg e] at hk;rw[jc j] at d
   split at d
   .cases d
   .rename_i e2;exact absurd (f.inj _ _ _ _ _ hk d).symm e2
  .rw[jc e] at hk;rw[jg j] at d
   split at hk
   .cases hk
   .rename_i e2;exact absurd (f.inj _ _ _ _ _ hk d) e2
  .rw[jc e] at hk;rw[jc j] at d
   split at hk
   .cases hk
   .split at d
    .cases d
    .exact f.inj _ _ _ _ _ hk d
 .intro k b Y hk;simp only[c] at hk
  split at hk
  .exact f.own _ _ _ hk
  .split at hk
   .cases hk
   .exact f.own _ _ _ hk
 .intro k v q;simp only at q;by_cases e:k=s
  .subst e;rw[kX] at q;simp at q;subst q;have S:=k8 (a:=a) J (.tmp k);simp only[wc] at S;rw[L] at S;simp only[SV.den] at S⊢;intro p g;have W:ρ.blk o=some p:=(by simpa[c] using g);have V:c.len k=ρ.len o:=(by simp[c]);rw[V];exact S p W
  .rw[kL (fun h=>e h.symm),kw] at q
   split at q
   .rename_i y X;simp at q;subst q;rw[gB _ _ _ _ _ X];exact vz _
   .rename_i I;have g:=q8 _ _ _ k I (by rw[q];simp);have hg:σ.get k=v:=(by unfold St.get;rw[q]);rw[hg] at g;exact SV.den_mono M v _ (fun r O=>by simp at O;subst O;exact eK g r (by simp)) (J k v q)
theorem Ll {ρ:Env}:∀(cs:List SV) (vs:List Value) (j:Nat) (sv:SV),SV.denL P ρ cs vs->cs[j]? =some sv->∃v,vs[j]? =some v/\SV.den P ρ sv v
 |[],_,_,_,_,h=>by simp at h
 |c::cs,vs,j,sv,k,h=>by
  simp only[SV.denL] at k
  obtain⟨v,r,rfl,a,b⟩:=k
  cases j with
  |zero=>simp at h;subst h;exact⟨v,rfl,a⟩
  |succ j=>exact Ll cs r j sv b (by simpa using h)
theorem Gj {ρ:Env}:∀(cs:List SV) (vs:List Value) (j:Nat) (sv:SV),SV.denL P ρ cs vs->(∀v,vs[j]? =some v->SV.den P ρ sv v)->SV.denL P ρ (cs.set j sv) vs
 |[],_,_,_,k,_=>by simpa using k
 |c::cs,vs,j,sv,k,h=>by
  simp only[SV.denL] at k
  obtain⟨v,r,rfl,d,a⟩:=k
  cases j with
  |zero=>simp only[List.set,SV.denL];exact⟨v,r,rfl,h v rfl,a⟩
  |succ j=>simp only[List.set,SV.denL];exact⟨v,r,rfl,d,Gj cs r j sv a (fun u b=>h u (by simpa using b))⟩
theorem eQ {σ:St} {s:Nat}:∀(l:List Nat),l4 σ s l=true->∀(k T:Nat) fz cs,k∈l->σ.obj k=some (.box T fz cs)->SV.refs.refsL s cs=false
 |[],_,_,_,_,_,a,_=>by simp at a
 |j::r,h,k,T,fz,cs,a,hk=>by
  unfold l4 at h
  rcases jj.1 a with e|a
  subst e
  rw[hk] at h
  simp only at h
  split at h
  cases h
  assumption
  split at h
  split at h
  cases h
  exact eQ r h k T fz cs a hk
  exact eQ r h k T fz cs a hk
theorem A1 {n b j:Nat} {σ:St} {a:Act} {w:World} (h:Rel P B n σ a w):Rel P B n (sK b j σ) a w:=by
 unfold sK
 split
 case h_2=>exact h
 rename_i T fz cs M
 split
 case h_2=>exact h
 rename_i o F
 split
 case h_2=>exact h
 rename_i I E x;generalize b9 b j=s at*;have I:o≠s:=ww I;have E:b≠o:=ww E;have x:b≠s:=ww x
 split
 case h_2=>exact h
 rename_i fm kt vt l D z;simp only[ji] at z;obtain⟨z,O⟩:=z;have O:=jy O;obtain⟨h1,h2,ρ,f,hSl,C⟩:=h
 let d:Env:={H:=ρ.H,blk:=fun k=>if k=s then ρ.blk o else if k=o then none else ρ.blk k,len:=fun k=>if k=s then ρ.len o else ρ.len k}
 have N:ρ.le d [s]:=⟨fun _ _ h=>h,fun k p hk g=>by
  have hk:k≠s:=(by simpa using hk);simp only[d,hk,if_false] at g
  split at g
  .cases g
  .exact g,fun k hk=>by simp[d,show k≠s by simpa using hk]⟩
 have m:∀k,({σ with ob:=(b,some (.box T fz (cs.set j (.mp s))))::(s,some (.map fm kt vt l))::(o,none)::σ.ob}:St).obj k=if k=b then some (.box T fz (cs.set j (.mp s))) else if k=s then some (.map fm kt vt l) else if k=o then none else σ.obj k:=by
  intro k;rw[ye,ye,ye]
 have L:∀k T fz cs,σ.obj k=some (.box T fz cs)->SV.refs.refsL s cs=false:=by
  intro k T fz cs hk;simp only[St.obj] at hk
  split at hk
  .rename_i y V;subst hk;exact eQ _ z k T fz cs (jT.2 ⟨_,wO _ _ _ V,rfl⟩) (by simp only[St.obj,V])
  .cases hk
 have t:∀k (y:Ob) p,σ.obj k=some y->wH P ρ w k p y->k≠s->wH P d w k p y:=by
  intro k y p hk A G;exact we N (by simpa using G) (fun T fz cs e r Q=>by simp at Q;subst Q;subst e;exact L k T fz cs hk) (fun _ _ _=>⟨rfl,rfl⟩) A
 refine⟨h1,h2,d,⟨f.os,f.tape,f.output,f.drawn,f.size,f.good,f.oldH,f.old,?_,?_,?_,?_⟩,?_,?_⟩
 rotate_right
 .refine⟨fun k p hk S=> ?_,C.2⟩;have G:k≠s:=fun e=>by omega
  simp only[d,jc G] at S⊢
  split at S
  .cases S
  .exact C.1 k p hk S
 .intro k y hk;have c:=m k;simp only[St.obj] at hk c;rw[c] at hk;by_cases K:k=b
  .subst K;rw[jg rfl] at hk;simp at hk;subst hk;obtain⟨p,g,A⟩:=f.obs k _ M;refine⟨p,by simp[d,x,E,g],?_⟩;have R:=t k _ p M A x;simp only[wH] at A R⊢;obtain⟨b1,W,vs,e1,e2,e3,e4,e5⟩:=R;refine⟨b1,W,vs,e1,e2,Gj _ _ _ _ e3 (fun v u=> ?_),e4,e5⟩;obtain⟨b2,C2,vs2,X,Y,f3,_⟩:=A;have:vs2=vs:=by
    rw[e1] at X;simp at X;obtain⟨rfl,rfl⟩:=X;rw[e2] at Y;simp at Y;exact Y.symm
   subst this;obtain⟨v',Z,g2⟩:=Ll _ _ _ _ f3 F;rw[u] at Z;simp at Z;subst Z;simp only[SV.den] at g2⊢;intro q hq;exact g2 q (by simpa[d] using hq)
  .rw[jc K] at hk;by_cases e:k=s
   .subst e;rw[jg rfl] at hk;simp at hk;subst hk;obtain⟨p,g,A⟩:=f.obs o _ D;exact⟨p,by simp[d,g],t o _ p D A I⟩
   .rw[jc e] at hk;by_cases i:k=o
    .rw[jg i] at hk;cases hk
    .rw[jc i] at hk;obtain⟨p,g,A⟩:=f.obs k y hk;exact⟨p,by simp[d,e,i,g],t k y p hk A e⟩
 .intro k hk;have c:=m k;simp only[St.obj] at hk c;rw[c] at hk;by_cases K:k=b
  .rw[jg K] at hk;cases hk
  rw[jc K] at hk;by_cases e:k=s
  .rw[jg e] at hk;cases hk
  .rw[jc e] at hk;by_cases i:k=o
   .simp only[d];rw[jc e,jg i]
   .rw[jc i] at hk;simp only[d];rw[jc e,jc i];exact f.dead k hk
 .intro k k' b W C2 hk c;simp only[d] at hk c;by_cases e:k=s<;>by_cases i:k'=s
  .rw[e,i]
  .rw[jg e] at hk;rw[jc i] at c
   split at c
   .cases c
   .rename_i e2;exact absurd (f.inj _ _ _ _ _ hk c).symm e2
  .rw[jc e] at hk;rw[jg i] at c
   split at hk
   .cases hk
   .rename_i e2;exact absurd (f.inj _ _ _ _ _ hk c) e2
  .rw[jc e] at hk;rw[jc i] at c
   split at hk
   .cases hk
   .split at c
    .cases c
    .exact f.inj _ _ _ _ _ hk c
 .intro k b W hk;simp only[d] at hk
  split at hk
  .exact f.own _ _ _ hk
  .split at hk
   .cases hk
   .exact f.own _ _ _ hk
 .intro k v u;simp only at u;rw[kw] at u
  split at u
  .rename_i y V;simp at u;subst u;rw[gB _ _ _ _ _ V];exact vz _
  .rename_i J;have g:=q8 _ _ _ k J (by rw[u];simp);have hg:σ.get k=v:=(by unfold St.get;rw[u]);rw[hg] at g;exact SV.den_mono N v _ (fun r Q=>by simp at Q;subst Q;exact eK g r (by simp)) (hSl k v u)
theorem ue (kp:Bool) {n b j:Nat} {σ:St} {a:Act} {w:World} (h:Rel P B n σ a w):Rel P B n (l5 kp b j σ) a w:=by
 unfold l5
 split
 case h_2=>exact h
 rename_i T fz cs X
 split
 case h_2=>exact h
 rename_i o u M
 split
 case h_2=>exact h
 rename_i G L D;generalize ew b j=s at*;have G:o≠s:=ww G;have L:b≠o:=ww L;have D:b≠s:=ww D
 split
 case h_2=>exact h
 rename_i E t0 fr nl l K F;simp only[ji] at F;obtain⟨F,Z⟩:=F;have Z:=jy Z;obtain⟨h1,h2,ρ,f,V,J⟩:=h
 let c:Env:={H:=ρ.H,blk:=fun k=>if k=s then ρ.blk o else if k=o then none else ρ.blk k,len:=fun k=>if k=s then ρ.len o else ρ.len k}
 have Y:ρ.le c [s]:=⟨fun _ _ h=>h,fun k p hk t=>by
  have hk:k≠s:=(by simpa using hk);simp only[c,hk,if_false] at t
  split at t
  .cases t
  .exact t,fun k hk=>by simp[c,show k≠s by simpa using hk]⟩
 have A:∀k,({σ with ob:=(b,some (.box T fz (cs.set j (.own s u))))::(s,some (.row E t0 fr nl l))::(o,none)::σ.ob}:St).obj k=if k=b then some (.box T fz (cs.set j (.own s u))) else if k=s then some (.row E t0 fr nl l) else if k=o then none else σ.obj k:=by
  intro k;rw[ye,ye,ye]
 have W:∀k T fz cs,σ.obj k=some (.box T fz cs)->SV.refs.refsL s cs=false:=by
  intro k T fz cs hk;simp only[St.obj] at hk
  split at hk
  .rename_i y g;subst hk;exact eQ _ F k T fz cs (jT.2 ⟨_,wO _ _ _ g,rfl⟩) (by simp only[St.obj,g])
  .cases hk
 have C:∀k (y:Ob) p,σ.obj k=some y->wH P ρ w k p y->k≠s->wH P c w k p y:=by
  intro k y p hk I N;exact we Y (by simpa using N) (fun T fz cs e r hr=>by simp at hr;subst hr;subst e;exact W k T fz cs hk) (fun _ _ _=>⟨rfl,rfl⟩) I
 refine⟨h1,h2,c,⟨f.os,f.tape,f.output,f.drawn,f.size,f.good,f.oldH,f.old,?_,?_,?_,?_⟩,?_,?_⟩
 rotate_right
 .refine⟨fun k p hk hb=> ?_,J.2⟩;have N:k≠s:=fun e=>by omega
  simp only[c,jc N] at hb⊢
  split at hb
  .cases hb
  .exact J.1 k p hk hb
 .intro k y hk;have d:=A k;simp only[St.obj] at hk d;rw[d] at hk;by_cases R:k=b
  .subst R;rw[jg rfl] at hk;simp at hk;subst hk;obtain⟨p,t,I⟩:=f.obs k _ X;refine⟨p,by simp[c,D,L,t],?_⟩;have hs':=C k _ p X I D;simp only[wH] at I hs'⊢;obtain⟨b1,C1,vs,e1,e2,e3,e4,e5⟩:=hs';refine⟨b1,C1,vs,e1,e2,Gj _ _ _ _ e3 (fun v m=> ?_),e4,e5⟩;obtain⟨b2,C2,vs2,f1,f2,f3,_⟩:=I;have:vs2=vs:=by
    rw[e1] at f1;simp at f1;obtain⟨rfl,rfl⟩:=f1;rw[e2] at f2;simp at f2;exact f2.symm
   subst this;obtain⟨v',g1,S⟩:=Ll _ _ _ _ f3 M;rw[m] at g1;simp at g1;subst g1;simp only[SV.den] at S⊢;intro q hq;have:=S q (by simpa[c] using hq);simpa[c] using this
  .rw[jc R] at hk;by_cases e:k=s
   .subst e;rw[jg rfl] at hk;simp at hk;subst hk;obtain⟨p,t,I⟩:=f.obs o _ K;have h3:=C o _ p K I G;refine⟨p,by simp[c,t],?_⟩;simp only[wH] at h3⊢;exact⟨by have:=h3.1;simpa[c,G] using this,h3.2⟩
   .rw[jc e] at hk;by_cases z:k=o
    .rw[jg z] at hk;cases hk
    .rw[jc z] at hk;obtain⟨p,t,I⟩:=f.obs k y hk;exact⟨p,by simp[c,e,z,t],C k y p hk I e⟩
 .intro k hk;have d:=A k;simp only[St.obj] at hk d;rw[d] at hk;by_cases R:k=b
  .rw[jg R] at hk;cases hk
  rw[jc R] at hk;by_cases e:k=s
  .rw[jg e] at hk;cases hk
  .rw[jc e] at hk;by_cases z:k=o
   .simp only[c];rw[jc e,jg z]
   .rw[jc z] at hk;simp only[c];rw[jc e,jc z];exact f.dead k hk
 .intro k k' b C1 C2 hk d;simp only[c] at hk d;by_cases e:k=s<;>by_cases z:k'=s
  .rw[e,z]
  .rw[jg e] at hk;rw[jc z] at d
   split at d
   .cases d
   .rename_i e2;exact absurd (f.inj _ _ _ _ _ hk d).symm e2
  .rw[jc e] at hk;rw[jg z] at d
   split at hk
   .cases hk
   .rename_i e2;exact absurd (f.inj _ _ _ _ _ hk d) e2
  .rw[jc e] at hk;rw[jc z] at d
   split at hk
   .cases hk
   .split at d
    .cases d
    .exact f.inj _ _ _ _ _ hk d
 .intro k b C1 hk;simp only[c] at hk
  split at hk
  .exact f.own _ _ _ hk
  .split at hk
   .cases hk
   .exact f.own _ _ _ hk
 .intro k v m;simp only at m;rw[kw] at m
  split at m
  .rename_i y g;simp at m;subst m
   split at g
   case h_2=>simp[kN] at g
   unfold jaK at g
   split at g
   case h_2=>simp[kN] at g
   rename_i o' t' i
   split at g
   case h_2=>simp[kN] at g
   rename_i Q;have Q:=ja Q;subst Q;simp only[kN] at g
   split at g
   case h_2=>cases g
   rename_i hk;have hk:=ja hk;subst hk;simp at g;subst g;have hl:kN σ.sl o'=some (.own o' t'):=by
    unfold St.get at i
    split at i
    .rename_i x hx;rw[hx,i]
    .cases i
   have S:=V o' _ hl;simp only[SV.den] at S⊢;intro q hq;have:=S q (by simpa[c] using hq);simpa[c] using this
  .rename_i hnone0;rw[kw] at m
   split at m
   .rename_i y g;simp at m;subst m;rw[gB _ _ _ _ _ g];exact vz _
   .rename_i O;have t:=q8 _ _ _ k O (by rw[m];simp);have hg:σ.get k=v:=(by unfold St.get;rw[m]);rw[hg] at t;exact SV.den_mono Y v _ (fun r hr=>by simp at hr;subst hr;exact eK t r (by simp)) (V k v m)
theorem A2 {n b j:Nat} {σ:St} {a:Act} {w:World} (h:Rel P B n σ a w):Rel P B n (FY b j σ) a w:=ue false h
theorem A3 {n b:Nat}:∀(j:Nat) {σ:St} {a:Act} {w:World},Rel P B n σ a w->Rel P B n (FZ b j σ) a w
 |0,_,_,_,h=>h
 |j+1,_,_,_,h=>by
  have c:=A3 (b:=b) j h
  show Rel P B n (Ic b j _) _ _
  unfold Ic
  split
  split
  split
  exact A2 c
  exact c
  exact c
  exact c
theorem Lm {n:Nat} {σ:St} {a:Act} {w:World} (t:Nat) (x:Operand) (h:Rel P B n σ a w):Rel P B n (AG σ t x) a w:=by
 unfold AG
 split
 exact A3 _ (ue _ h);exact h
theorem uf {n b:Nat}:∀(j:Nat) {σ:St} {a:Act} {w:World},Rel P B n σ a w->Rel P B n (Aa b j σ) a w
 |0,_,_,_,h=>h
 |j+1,_,_,_,h=>A2 (uf j h)
theorem n7 {n:Nat} {σ:St} {a:Act} {w:World} (t:Nat) (h:Rel P B n σ a w):Rel P B n (nP σ t) a w:=by
 unfold nP
 split
 exact uf _ (A1 h);exact A1 h;exact h
theorem Ln {n:Nat} {σ:St} {a:Act} {w:World} (c:Callee) (h:Rel P B n σ a w):Rel P B n (AE σ c) a w:=by
 unfold AE
 split
 exact n7 _ h;exact h
theorem Lo {n:Nat} {σ:St} {a:Act} {w:World} (l:List Operand) (h:Rel P B n σ a w):Rel P B n (AF σ l) a w:=by
 unfold AF
 split
 exact n7 _ h;exact h
theorem wP {n:Nat} {a:Act} {w:World}:∀(l:List Oper) {σ:St},Rel P B n σ a w->Rel P B n (vL l σ) a w
 |[],_,h=>h
 |o::r,σ,h=>by
  simp only[vL]
  split
  exact wP r (n7 _ (Pu h))
  exact wP r (Ln _ (Lo _ h))
  exact wP r (Lm _ _ h)
  exact wP r h
end
end Go.X
namespace Go.X
open Go.RowKit (Below)
def eL {α:Type} (f:qA->List α) (D:Nat->Bool):List qA->Nat->List α
 |[],_=>[]
 |x::r,i=>eL f D r (i+1)++(match D i with|true=>f x|false=>[])
theorem N1 {α:Type} (f:qA->List α) (D:Nat->Bool):∀(aZ:List qA) (i:Nat),eL f D aZ (i+1)=eL f (fun k=>D (k+1)) aZ i
 |[],_=>rfl
 |_::r,i=>by simp only[eL];rw[N1 f D r (i+1)]
theorem pK {α:Type} (f:qA->List α) {D D':Nat->Bool}:∀(aZ:List qA) (i:Nat),(∀k,i<=k->k<i+aZ.length->D k=D' k)->eL f D aZ i=eL f D' aZ i
 |[],_,_=>rfl
 |_::r,i,h=>by
  simp only[eL]
  rw[pK f r (i+1) (fun k a b=>h k (by omega) (by simp only[jX];omega)),h i (jk _) (by simp only[jX];omega)]
theorem gX {α:Type} (f:qA->List α) (D:Nat->Bool) (y:α):∀(aZ:List qA) (i:Nat),y∈eL f D aZ i↔∃k x,aZ[k]? =some x/\D (i+k)=true/\y∈f x
 |[],i=>by simp[eL]
 |x::r,i=>by
  simp only[eL,jr]
  rw[gX f D y r (i+1)]
  constructor
  rintro(⟨k,e,a,b,c⟩|h)
  exact⟨k+1,e,by simpa using a,by rw[<-b];congr 1;omega,c⟩
  cases d:D i with
  |true=>rw[d] at h;exact⟨0,x,by simp,by simpa using d,h⟩
  |false=>rw[d] at h;simp at h
  rintro⟨k,e,a,b,c⟩
  cases k with
  |zero=>simp at a b;subst a;right;rw[b];exact c
  |succ k=>left;exact⟨k,e,by simpa using a,by rw[<-b];congr 1;omega,c⟩
theorem gC {α:Type} (ks:List Nat):∀(l r:List (Nat×α)),keep ks (l++r)=keep ks l++keep ks r
 |[],r=>rfl
 | (k,x)::l,r=>by
  simp only[jV,keep]
  cases gQ ks k<;>simp[gC ks l r]
theorem A4 {α:Type} {f:qA->List (Nat×α)} {D D':Nat->Bool} {ks:List Nat}:∀(aZ:List qA) (i:Nat),(∀k x,aZ[k]? =some x->D (i+k)≠D' (i+k)->keep ks (f x)=[])->keep ks (eL f D aZ i)=keep ks (eL f D' aZ i)
 |[],_,_=>rfl
 |x::r,i,h=>by
  simp only[eL,gC]
  rw[A4 r (i+1) (fun k y a b=>h (k+1) y (by simpa using a) (by rw[show i+(k+1)=i+1+k by omega];exact b))]
  congr 1
  by_cases e:D i=D' i
  rw[e]
  have:=h 0 x (by simp) (by simpa using e)
  cases a:D i<;>cases b:D' i<;>simp_all [keep]
theorem A5 {α:Type} {f:qA->List (Nat×α)} {D D':Nat->Bool} {s:Nat}:∀(aZ:List qA) (i:Nat),(∀k x,aZ[k]? =some x->D (i+k)≠D' (i+k)->kN (f x) s=none)->kN (eL f D aZ i) s=kN (eL f D' aZ i) s
 |[],_,_=>rfl
 |x::r,i,h=>by
  simp only[eL]
  rw[kw,kw,A5 r (i+1) (fun k y a b=>h (k+1) y (by simpa using a) (by rw[show i+(k+1)=i+1+k by omega];exact b))]
  by_cases e:D i=D' i
  rw[e]
  have:=h 0 x (by simp) (by simpa using e)
  cases a:D i<;>cases b:D' i<;>simp_all [kN]
theorem eR {α:Type} {f:qA->List (Nat×α)} {D D':Nat->Bool} {s i:Nat} {x:qA} (hi:D i=false) (a:D' i=true) (d:∀k,k≠i->D' k=D k):
 ∀(aZ:List qA) (j m:Nat),j+m=i->aZ[m]? =some x->(∀k y,m<k->aZ[k]? =some y->D (j+k)=true->kN (f x) s≠none->kN (f y) s=none)->
  kN (eL f D' aZ j) s=kN (f x++eL f D aZ j) s
 |[],_,m,_,h,_=>by simp at h
 |y::r,j,0,hj,h,hk=>by
  simp at h hj
  subst h hj
  have e:eL f D' r (j+1)=eL f D r (j+1):=pK f r (j+1) (fun k b _=>d k (by omega))
  simp only[eL,hi,a,e]
  rw[kw,kw,kw]
  by_cases g:kN (f y) s=none
  rw[g];simp[kN]
  have:kN (eL f D r (j+1)) s=none:=by
   have q:=A5 (f:=f) (D:=D) (D':=fun _=>false) (s:=s) r (j+1) (fun k z b p=>by
    have c:D (j+1+k)=true:=by cases w:D (j+1+k)<;>simp_all
    exact hk (k+1) z (by omega) (by simpa using b) (by rw[show j+(k+1)=j+1+k by omega];exact c) g)
   rw[q];have:∀(l:List qA) (n:Nat),eL f (fun _=>false) l n=[]:=by
    intro l
    induction l with
    |nil=>intro n;rfl
    |cons z l o=>intro n;simp[eL,o]
   rw[this];rfl
  rw[this];cases u:kN (f y) s with
  |none=>exact absurd u g
  |some v=>simp[]
 |y::r,j,m+1,hj,h,hk=>by
  have o:=eR hi a d r (j+1) m (by omega) (by simpa using h) (fun k z b p c t=>hk (k+1) z (by omega) (by simpa using p) (by rw[show j+(k+1)=j+1+k by omega];exact c) t);simp only[eL,d j (by omega)];rw[kw,o,kw,kw,kw];cases kN (f x) s<;>rfl
def bld (D:Nat->Bool) (aZ:List qA) (rs:RS):RS:=⟨⟨eL (·.e.sl) D aZ 0++rs.st.sl,eL (·.e.ob) D aZ 0++rs.st.ob⟩,eL (·.e.gl) D aZ 0++rs.gl⟩
theorem Gk (D:Nat->Bool) (x:qA) (aZ:List qA) (rs:RS) (h:D 0=true):bld D (x::aZ) rs=bld (fun k=>D (k+1)) aZ (wI x.e rs):=by
 unfold bld wI;simp only[eL,h,N1,jL]
theorem eU (aZ:List qA) (rs:RS) {D:Nat->Bool} (h:∀k,D k=false):bld D aZ rs=rs:=by
 have:∀{α:Type} (f:qA->List α) (l:List qA) (n:Nat),eL f D l n=[]:=by
  intro α f l
  induction l with
  |nil=>intro n;rfl
  |cons z l a=>intro n;simp[eL,a,h]
 simp[bld,this]
theorem eV (D:Nat->Bool) (aZ:List qA) (rs:RS) (o:Nat):(bld D aZ rs).st.obj o=(match kN (eL (·.e.ob) D aZ 0) o with|some x=>x|none=>rs.st.obj o):=by
 simp only[St.obj,bld];rw[kw];cases kN (eL (fun x=>x.e.ob) D aZ 0) o<;>rfl
theorem vA:∀(l r:List Nat),iL l r=false->∀k,k∈l->k∉r
 |[],r,_,k,hk=>by simp at hk
 |o::l,r,h,k,hk=>by
  simp only[iL] at h
  split at h
  cases h
  rename_i a
  rcases jj.1 hk with rfl|hk
  intro b;rw[(qJ r k).2 b] at a;cases a
  exact vA l r h k hk
structure jb9 (σ:St) (nb:List Nat) (x y:qA) (r:Nat):Prop where
 mv:y.mv=true
 nb:r∉nb
 nn:r∉x.nn
 bf:cW (σ.obj r)=false
theorem sN {σ:St} {nb mk names:List Nat}:∀(l:List Nat),RQ σ nb mk names l=true->∀r,r∈l->r∈names->r∉nb/\r∉mk/\cW (σ.obj r)=false
 |[],_,r,a,_=>by simp at a
 |z::l,h,r,a,hn=>by
  simp only[RQ] at h
  split at h
  rename_i e
  rcases jj.1 a with rfl|a
  rw[(qJ _ _).2 hn] at e;cases e
  exact sN l h r a hn
  split at h
  rename_i c d f
  rcases jj.1 a with rfl|a
  refine⟨fun b=> ?_,fun b=> ?_,f⟩
  rw[(qJ _ _).2 b] at c;cases c
  rw[(qJ _ _).2 b] at d;cases d
  exact sN l h r a hn
  cases h
theorem Iv {σ:St} {nb:List Nat} {x y:qA} (h:jbP σ nb x y=true) {r:Nat} (d:r∈x.ws) (e:r∈y.names):jb9 σ nb x y r:=by
 unfold jbP at h
 split at h
 rename_i f;obtain⟨a,b,c⟩:=sN _ h r d e;exact⟨f,a,b,c⟩;cases h
theorem ug {l r:List Nat} {s:Bool} (h:NK l r s=false):∀k,k∈l->k∈r->s=true:=by
 intro k hk b;unfold NK at h;cases a:iL l r with
 |true=>
  rw[a] at h;cases s with
  |true=>rfl
  |false=>cases h
 |false=>exact absurd b (vA _ _ a k hk)
structure NT (σ:St) (nb:List Nat) (x y:qA):Prop where
 sl:∀s,s∈qz x.e.sl->s∉qz y.e.sl
 s1:∀s,s∈qz x.e.sl->s∉y.slots
 s2:∀s,s∈qz y.e.sl->s∉x.slots
 ws:∀o,o∈x.ws->o∉y.ws
 o1:∀o,o∈x.ws->o∈y.names->jb9 σ nb x y o
 o2:∀o,o∈y.ws->o∈x.names->jb9 σ nb y x o
theorem NT.symm {σ:St} {nb:List Nat} {x y:qA} (h:NT σ nb x y):NT σ nb y x:=⟨fun s a b=>h.sl s b a,h.s2,h.s1,fun o a b=>h.ws o b a,h.o2,h.o1⟩
theorem VX {σ:St} {nb:List Nat} {x y:qA} (h:VH σ nb x y=false):NT σ nb x y:=by
 unfold VH at h
 split at h
 rename_i c e f g i;have c:=vA _ _ c;exact⟨fun s d a=>c s d (jh _ a),fun s d a=>c s d (je _ a),vA _ _ e,vA _ _ f,
  fun o b a=>Iv (ug g o b a) b a,fun o b a=>Iv (ug i o b a) b a⟩
 cases h
theorem pL {σ:St} {nb:List Nat} (x:qA) (before:List Nat):∀(l:List qA) (j:Nat),l3 σ nb x before l j=true->∀k y,l[k]? =some y->VH σ nb y x=false\/j+k∈before
 |[],_,_,k,y,h=>by simp at h
 |z::r,j,h,k,y,hk=>by
  simp only[l3] at h
  have a:l3 σ nb x before r (j+1)=true:=by
   split at h
   split at h
   exact h;cases h;exact h
  cases k with
  |zero=>
   simp at hk;subst hk
   split at h
   split at h
   rename_i c;exact .inr (by simpa using(qJ _ _).1 c);cases h;rename_i d;exact .inl d
  |succ k=>
   rcases pL x before r (j+1) a k y (by simpa using hk) with b|b;exact .inl b;exact .inr (by rw[show j+(k+1)=j+1+k by omega];exact b)
theorem gY {σ:St} {nb:List Nat} (all:List qA):∀(l:List qA) (ps:List (List Nat)) (k:Nat),cE σ nb all l ps k=true->∀m y,l[m]? =some y->∃p,ps[m]? =some p/\∀j x,j<k+m->all[j]? =some x->NT σ nb x y\/j∈p
 |[],_,_,_,m,y,h=>by simp at h
 |_::_,[],_,h,_,_,_=>by simp[cE] at h
 |z::r,p::ps,k,h,m,y,hm=>by
  simp only[cE] at h
  split at h
  rename_i d
  cases m with
  |zero=>
   simp at hm;subst hm
   refine⟨p,by simp,fun j x e b=> ?_⟩
   have:=pL _ _ _ _ d j x (by rw[jP (by omega)];exact b)
   rcases this with a|a
   exact .inl (VX a)
   exact .inr (by simpa using a)
  |succ m=>
   obtain⟨f,c,e2⟩:=gY all r ps (k+1) h m y (by simpa using hm)
   exact⟨f,by simpa using c,fun j x e b=>e2 j x (by omega) b⟩
  cases h
theorem iW (b:List (List Nat)):∀(es:List Edge) (l:List Nat),sJ b es=some l->
 (∀e,e∈es->Region.binds .any e=true->e.on<b.length)/\∀j,j∈l->∃e,e∈es/\Region.binds .any e=true/\(j=e.on\/∃p,b[e.on]? =some p/\j∈p)
 |[],l,h=>by
  simp[sJ] at h;subst h
  exact⟨fun e t=>by simp at t,fun j c=>by simp at c⟩
 |e::r,l,h=>by
  simp only[sJ] at h
  split at h
  cases h
  rename_i l' n
  obtain⟨q,s⟩:=iW b r l' n
  split at h
  rename_i g
  simp at h;subst h
  refine⟨fun f a d=> ?_,fun j c=> ?_⟩
  rcases jj.1 a with rfl|a
  rw[g] at d;cases d
  exact q f a d
  obtain⟨f,i,k,m⟩:=s j c
  exact⟨f,jo _ i,k,m⟩
  rename_i g
  split at h
  rename_i p o
  simp at h;subst h
  refine⟨fun f a d=> ?_,fun j c=> ?_⟩
  rcases jj.1 a with rfl|a
  exact(jl.1 o).1
  exact q f a d
  rcases(qm _ _ _).1 c with c|c
  exact⟨e,zb,g,.inr ⟨p,o,c⟩⟩
  have:j=e.on\/j∈l':=by
   split at c
   exact .inr c;rcases jj.1 c with h|h;exact .inl h;exact .inr h
  rcases this with rfl|c;exact⟨e,zb,g,.inl rfl⟩;obtain⟨f,i,k,m⟩:=s j c;exact⟨f,jo _ i,k,m⟩;cases h
theorem yX:∀(l:List Oper) (a ps:List (List Nat)),q6 l a=some ps->
 (∃t,ps=a++t)/\∀m o,l[m]? =some o->∃p,ps[a.length+m]? =some p/\sJ (ps.take (a.length+m)) o.after.toList=some p
 |[],a,ps,h=>by
  simp[q6] at h;subst h
  exact⟨⟨[],by simp⟩,fun m o b=>by simp at b⟩
 |x::r,a,ps,h=>by
  simp only[q6] at h
  split at h
  rename_i p c
  obtain⟨⟨t,rfl⟩,d⟩:=yX r (a++[p]) ps h
  refine⟨⟨p::t,by simp⟩,fun m o b=> ?_⟩
  cases m with
  |zero=>
   simp at b;subst b
   refine⟨p,by simp,?_⟩
   have:(a++[p]++t).take (a.length+0)=a:=by simp
   rw[this];exact c
  |succ m=>
   have:=d m o (by simpa using b)
   simp only[jJ,jX,zo] at this
   rw[show a.length+(m+1)=a.length+(0+1)+m by omega]
   exact this
  cases h
end Go.X
namespace Go.X
open Go.RowKit (Below)
theorem pM {α:Type} (ks:List Nat):∀(l:List (Nat×α)) (s:Nat) (v:α),kN (keep ks l) s=some v->kN l s=some v
 |[],s,v,h=>by simp[keep,kN] at h
 | (j,x)::r,s,v,h=>by
  simp only[keep] at h
  cases c:gQ ks j with
  |true=>
   rw[c] at h
   simp only[kN] at h⊢
   cases a:Nat.beq j s with
   |true=>rw[a] at h;exact h
   |false=>rw[a] at h;exact pM ks r s v h
  |false=>
   rw[c] at h
   have h:=pM ks r s v h
   simp only[kN]
   cases a:Nat.beq j s with
   |true=>
    have:=ja a
    subst this
    have hk:∀(l:List (Nat×α)),kN (keep ks l) j=none:=by
     intro l
     induction l with
     |nil=>rfl
     |cons y l e=>
      obtain⟨k,z⟩:=y;simp only[keep];cases hk:gQ ks k with
      |false=>exact e
      |true=>
       simp only[kN];cases b:Nat.beq k j with
       |true=>have:=ja b;subst this;rw[c] at hk;cases hk
       |false=>exact e
    rename_i d;rw[hk r] at d;cases d
   |false=>exact h
theorem Af {α:Type} (ks:List Nat):∀(l:List (Nat×α)) (y:Nat×α),y∈keep ks l->y∈l/\y.1∈ks
 |[],y,h=>by simp[keep] at h
 | (j,x)::r,y,h=>by
  simp only[keep] at h
  cases a:gQ ks j with
  |true=>
   rw[a] at h
   rcases jj.1 h with rfl|h
   exact⟨zb,(qJ _ _).1 a⟩
   have:=Af ks r y h;exact⟨jo _ this.1,this.2⟩
  |false=>
   rw[a] at h
   have:=Af ks r y h;exact⟨jo _ this.1,this.2⟩
theorem pN {α:Type} {ks:List Nat}:∀(l:List (Nat×α)),(∀y,y∈l->y.1∉ks)->keep ks l=[]
 |[],_=>rfl
 | (j,x)::r,h=>by
  simp only[keep]
  cases a:gQ ks j with
  |true=>exact absurd ((qJ _ _).1 a) (h (j,x) zb)
  |false=>exact pN r (fun y b=>h y (jo _ b))
theorem mb {α:Type}:∀(l:List (Nat×α)) (k:Nat),k∈qz l↔∃x,(k,x)∈l
 |[],k=>by simp[qz]
 | (j,y)::r,k=>by
  simp only[qz,jj,mb r k]
  constructor
  rintro(rfl|⟨x,a⟩)
  exact⟨y,.inl rfl⟩
  exact⟨x,.inr a⟩
  rintro⟨x,h|h⟩
  simp at h;exact .inl h.1
  exact .inr ⟨x,h⟩
theorem kH {α:Type}:∀(l:List (Nat×α)) (k:Nat),k∉qz l->kN l k=none
 |[],k,_=>rfl
 | (j,y)::r,k,h=>by
  simp only[qz,jj,not_or] at h
  rw[kL (fun e=>h.1 e.symm)]
  exact kH r k h.2
theorem gZ {α:Type} {l:List (Nat×α)} {k:Nat} (h:kN l k≠none):k∈qz l:=by
 by_cases a:k∈qz l;exact a;exact absurd (kH l k a) h
theorem Gl:∀(l:List (Nat×SV)) (s:Nat) (v:SV) (r:Nat),(s,v)∈l->r∈v.rl->r∈jar l
 |[],_,_,_,h,_=>by simp at h
 | (j,x)::l,s,v,r,h,hr=>by
  simp only[jar]
  rw[qm]
  rcases jj.1 h with e|h
  simp at e;obtain⟨_,rfl⟩:=e;exact .inl hr
  exact .inr (Gl l s v r h hr)
theorem Gm:∀(l:List (Nat×(Nat×Bool)×SV)) (s:Nat) g (v:SV) (r:Nat),(s,g,v)∈l->r∈v.rl->r∈jas l
 |[],_,_,_,_,h,_=>by simp at h
 | (j,a,x)::l,s,g,v,r,h,hr=>by
  simp only[jas]
  rw[qm]
  rcases jj.1 h with e|h
  simp at e;obtain⟨_,_,rfl⟩:=e;exact .inl hr
  exact .inr (Gm l s g v r h hr)
theorem A6:∀(l:List (Nat×Option Ob)) (o T:Nat) fz cs (r:Nat),(o,some (.box T fz cs))∈l->r∈SV.rl.rlL cs->r∈K6 l
 |[],_,_,_,_,_,h,_=>by simp at h
 | (j,y)::l,o,T,fz,cs,r,h,hr=>by
  rcases jj.1 h with e|h
  simp at e
  obtain⟨_,rfl⟩:=e
  simp only[K6,jr]
  exact .inl hr
  have:=A6 l o T fz cs r h hr
  unfold K6
  split
  rename_i e;cases e
  rename_i e;cases e;exact je _ this
  rename_i e;cases e;exact this
theorem N2 (σ:St):∀(os:List Nat) (o T:Nat) fz cs (r:Nat),o∈os->σ.obj o=some (.box T fz cs)->r∈SV.rl.rlL cs->r∈Dw σ os
 |[],_,_,_,_,_,h,_,_=>by simp at h
 |k::os,o,T,fz,cs,r,h,ho,hr=>by
  rcases jj.1 h with rfl|h
  simp only[Dw,ho]
  rw[qm];exact .inl hr
  have:=N2 σ os o T fz cs r h ho hr
  simp only[Dw]
  split
  rw[qm];exact .inr this
  exact this
theorem ER {σ τ:St}:∀(os:List Nat),(∀o,o∈os->σ.obj o=τ.obj o)->Dw σ os=Dw τ os
 |[],_=>rfl
 |k::os,h=>by
  simp only[Dw,h k zb,ER os (fun o a=>h o (jo _ a))]
theorem Gn {σ:St}:∀(n:Nat) (os:List Nat) (o:Nat),o∈os->o∈RP σ n os
 |0,_,_,h=>h
 |n+1,_,o,h=>Gn n _ o ((qm _ _ _).2 (.inr h))
theorem ES {σ τ:St}:∀(n:Nat) (os:List Nat),(∀o,o∈RP τ n os->σ.obj o=τ.obj o)->RP σ n os=RP τ n os
 |0,_,_=>rfl
 |n+1,os,h=>by
  simp only[RP] at h⊢
  have e:Dw σ os=Dw τ os:=ER os (fun o a=>h o (Gn n _ o ((qm _ _ _).2 (.inr a))))
  rw[e]
  exact ES n _ h
theorem Lp {slots:List Nat} {r s:RS} (b:keep slots r.st.sl=keep slots s.st.sl) (c:keep slots r.gl=keep slots s.gl) (a:∀o,o∈(share slots s).1->r.st.obj o=s.st.obj o):share slots r=share slots s:=by
 unfold share at a⊢;simp only at a⊢;rw[b,c];have e:=ES (σ:=r.st) (τ:=s.st) 3 _ a;rw[e];congr 3;exact List.map_congr_left fun o d=>by rw[a o d]
theorem N3 (f:Nat->Option Ob):∀(os:List Nat) (o:Nat),kN (os.map fun k=>(k,f k)) o=if o∈os then some (f o) else none
 |[],o=>by simp[kN]
 |k::os,o=>by
  simp only[zu,kN]
  cases c:Nat.beq k o with
  |true=>have:=ja c;subst this;simp
  |false=>
   have b:k≠o:=ww c
   simp only[N3 f os o,jj]
   by_cases a:o∈os
   simp[a]
   have:¬(o=k\/o∈os):=by rintro(h|h);exact b h.symm;exact a h
   rw[jc a,jc this]
section
variable {P:Program} {B:wY} {C:Ctx} {ops:Array Oper} {Q:Exit->Act->World->Prop}
theorem dg (slots:List Nat) (rs:RS) (o:Nat):(share slots rs).2.st.obj o=if o∈(share slots rs).1 then rs.st.obj o else none:=by
 unfold share;simp only[St.obj];rw[N3]
 split<;>rename_i h<;>split at h<;>simp_all
theorem A7 {slots:List Nat} {rs:RS} {e:Eff} (p:closed (share slots rs).1 (share slots rs).2 e=true):Fit P B rs (share slots rs).2 e:=by
 unfold closed at p
 split at p
 case h_2=>cases p
 rename_i c1 c2 k l m;have c1:=gx _ _ c1;have c2:=gx _ _ c2;have k:=gx _ _ k;have l:=gx _ _ l;have m:=gx _ _ m;have a:=dg slots rs;refine⟨fun s v h=>pM slots _ s v h,fun x z=>(Af slots _ x z).1,fun o x h=> ?_,fun ρ w A j=> ?_⟩
 .rw[a] at h
  split at h
  .exact h
  .cases h
 .have D:(share slots rs).2.st.obj=Sk (share slots rs).1 rs.st.obj:=funext fun o=>by rw[a];rfl
  refine⟨⟨w,ρ.H,wC ρ (share slots rs).1,fun _=>none,fun _=>0⟩,sM (share slots rs).1 ρ,Ad _ _,by rw[D];exact NX A _,fun L w' n q=> ?_⟩;have b:∀o,({(share slots rs).2.st with ob:=e.ob++(share slots rs).2.st.ob}:St).obj o=(match kN e.ob o with|some x=>x|none=>(share slots rs).2.st.obj o):=by
   intro o;simp only[St.obj];rw[kw];cases kN e.ob o<;>rfl
  obtain⟨ρ'',I,J,K⟩:=Ir (σ:=rs.st) A (share slots rs).1 e.nw (fun d E=>(j d E).2) n q (fun o T fz cs f r u=>by
   rw[b] at f;have c:=df cs r u
   split at f
   .rename_i x z;subst f;exact jr.1 (l r (A6 _ o T fz cs r (wO _ _ _ z) c))
   .have i:o∈(share slots rs).1:=by
     rw[a] at f
     split at f
     .assumption
     .cases f
    exact .inr (c1 r (N2 _ _ o T fz cs r i f c)))
  refine⟨ρ'',?_,J,fun v x G=>K v x (fun r u=> ?_)⟩
  .have:(wI e rs).st.obj=(fun o=>if o∈e.nw\/o∈(share slots rs).1 then({(share slots rs).2.st with ob:=e.ob++(share slots rs).2.st.ob}:St).obj o else rs.st.obj o):=funext fun o=>by
    have C:(wI e rs).st.obj o=(match kN e.ob o with|some x=>x|none=>rs.st.obj o):=by
     simp only[St.obj,wI];rw[kw];cases kN e.ob o<;>rfl
    rw[C,b];cases F:kN e.ob o with
    |some x=>
     have hk:=m o (gZ (by rw[F];simp));rw[jg (jr.1 hk)]
    |none=>
     simp only;rw[a];by_cases i:o∈(share slots rs).1
     .rw[jg (.inr i),jg i]
     .rw[jc i];by_cases t:o∈e.nw
      .rw[jg (.inl t)];exact(j o t).1
      .rw[jc (by rintro(h|h);exact t h;exact i h)]
   rw[this];exact I
  .have c:=Lk v r u;rcases G with⟨s,y⟩|⟨s,g,y⟩
   .exact jr.1 (c2 r (Gl _ s v r y c))
   .exact jr.1 (k r (Gm _ s g v r y c))
end
end Go.X
namespace Go.X
open Go.RowKit (Below)
section
variable {P:Program} {B:wY} {C:Ctx} {ops:Array Oper} {Q:Exit->Act->World->Prop}
structure yY (C:Ctx) (ops:List Oper) (aZ:List qA) (rs:RS) (i:Nat) (o:Oper) (x:qA):Prop where
 get:aZ[i]? =some x
 eff:cU C ops o (share (wA ops o) (bld (fun k=>decide (k<i)) aZ rs)).2=some x.e
 fit:fits C ops o (bld (fun k=>decide (k<i)) aZ rs) x.e=true
 cl:closed (share (wA ops o) (bld (fun k=>decide (k<i)) aZ rs)).1 (share (wA ops o) (bld (fun k=>decide (k<i)) aZ rs)).2 x.e=true
 slots:x.slots=wA ops o
 os:x.os=(share (wA ops o) (bld (fun k=>decide (k<i)) aZ rs)).1
 ws:x.ws=qz x.e.ob++x.nn
 mv:x.mv=jaJ (wy (share (wA ops o) (bld (fun k=>decide (k<i)) aZ rs)).2 []) o
 nn:x.nn=jb5 o x.e
theorem bm {d:List Oper}:∀(l:List Oper) (rs b:RS) (aZ:List qA),AC C d l rs=some (aZ,b)->
 aZ.length=l.length/\b=bld (fun _=>true) aZ rs/\∀i o,l[i]? =some o->∃x,yY C d aZ rs i o x
 |[],rs,b,aZ,h=>by
  simp[AC] at h
  obtain⟨rfl,rfl⟩:=h
  exact⟨rfl,rfl,fun i o h=>by simp at h⟩
 |o::r,rs,b,aZ,h=>by
  simp only[AC] at h
  split at h
  .cases h
  rename_i e v
  split at h
  case h_2=>cases h
  rename_i w u
  split at h
  .cases h
  rename_i a F z
  simp only[jv,Prod.mk.injEq] at h
  obtain⟨rfl,rfl⟩:=h
  obtain⟨B,D,E⟩:=bm r _ _ _ z
  refine⟨by simp[B],by rw[Gk _ _ _ _ rfl];exact D,fun i o' hi=> ?_⟩
  cases i with
  |zero=>
   simp at hi;subst hi
   have c:∀a,bld (fun k=>decide (k<0)) a rs=rs:=fun a=>eU _ _ (fun k=>by simp)
   refine⟨_,by simp;rfl,?_,?_,?_,rfl,?_,rfl,?_,rfl⟩
   .rw[c];exact v
   .rw[c];exact w
   .rw[c];exact u
   .rw[c]
   .rw[c]
  |succ i=>
   obtain⟨x,f,g,j,m,n,p,q,s,t⟩:=E i o' (by simpa using hi)
   have es:∀y:qA,y.e=e->bld (fun k=>decide (k<i+1)) (y::a) rs=bld (fun k=>decide (k<i)) a (wI e rs):=by
    intro y A;rw[Gk _ _ _ _ (by simp),A];congr 1;funext k;simp
   refine⟨x,by simpa using f,?_,?_,?_,n,?_,q,?_,t⟩
   .rw[es _ rfl];exact g
   .rw[es _ rfl];exact j
   .rw[es _ rfl];exact m
   .rw[es _ rfl];exact p
   .rw[es _ rfl];exact s
theorem dh {f:List Oper} {o:Oper} {R:RS} {e:Eff} (h:cU C f o R=some e):(∃sv,e.sl=Ia o sv)/\∀s g v,(s,g,v)∈e.gl->o.dst=some s/\o.guard=some g:=by
 unfold cU at h
 split at h
 split at h
 cases h;simp at h;subst h;exact⟨⟨_,rfl⟩,fun s g v a=>by simp at a⟩;rename_i i b
 split at h
 cases h
 split at h
 cases h
 split at h
 simp at h;subst h;refine⟨⟨_,rfl⟩,fun s g v a=> ?_⟩;simp only at a
 split at a
 rename_i d c;simp at a;obtain⟨rfl,rfl,rfl⟩:=a;exact⟨c,b⟩;simp at a;cases h
theorem iX {o:Oper} {sv:SV} {s:Nat}:s∈qz (Ia o sv)↔o.dst=some s:=by
 unfold Ia
 split
 rename_i d a;rw[a];simp[qz];exact eq_comm;rename_i a;rw[a];simp[qz]
theorem DH {l:List Oper} {j dj:Nat} {b:Bool} (h:cC l j=some dj):dj∈cV l l.length (some (j,b)):=by
 unfold cC at h;cases a:l[j]? with
 |none=>rw[a] at h;cases h
 |some o=>
  rw[a] at h;simp only at h;have:0<l.length:=(by have:=(jl.1 a).1;omega);obtain⟨n,c⟩:∃n,l.length=n+1:=⟨l.length-1,by omega⟩;rw[c];simp only[cV,a,h];exact zb
section
variable {aZ:List qA} {rs:RS} {D:Nat->Bool} {i:Nat} {o:Oper} {x:qA} {nb:List Nat}
theorem So (f:∀k y,aZ[k]? =some y->∃o',ops.toList[k]? =some o'/\yY C ops.toList aZ rs k o' y) (m:yY C ops.toList aZ rs i o x)
 (d:∀k y,aZ[k]? =some y->D k≠decide (k<i)->NT rs.st nb x y) (l:∀k y,aZ[k]? =some y->D k≠decide (k<i)->∀r,r∈y.ws->r∉x.names):
 share (wA ops.toList o) (bld D aZ rs)=share (wA ops.toList o) (bld (fun k=>decide (k<i)) aZ rs):=by
 have j:∀(k:Nat) (y:qA),aZ[k]? =some y->∀z,z∈y.e.gl->z.1∈qz y.e.sl:=by
  intro k y hk z h;obtain⟨_,_,c⟩:=f k y hk;obtain⟨⟨sv,a⟩,b⟩:=dh c.eff;obtain⟨s,g,v⟩:=z;rw[a];exact iX.2 (b s g v h).1
 refine Lp ?_ ?_ ?_;simp only[bld,gC];congr 1;refine A4 aZ 0 (fun k y a b=>pN _ (fun z h=> ?_));rw[<-m.slots];exact(d k y a (by simpa using b)).s2 z.1 ((mb _ _).2 ⟨z.2,h⟩);simp only[bld,gC];congr 1;refine A4 aZ 0 (fun k y a b=>pN _ (fun z h=> ?_));rw[<-m.slots];exact(d k y a (by simpa using b)).s2 z.1 (j k y a z h);intro r n;rw[<-m.os] at n;rw[eV,eV];rw[A5 (D:=D) (D':=fun k=>decide (k<i)) aZ 0 (fun k y a b=>kH _ _ (fun hk=> ?_))];obtain⟨_,_,c⟩:=f k y a;refine l k y a (by simpa using b) r ?_ ?_;rw[c.ws];exact jh _ hk;unfold qA.names;simp[n]
theorem Lq:∀(l:List qA) (r:Nat),r∉aX l->∀y,y∈l->∀z,(r,z)∈y.e.ob->cW z=false:=by
 have one:∀(l:List (Nat×Option Ob)) (r:Nat),r∉AD l->∀z,(r,z)∈l->cW z=false:=by
  intro l
  induction l with
  |nil=>intro r _ z h;simp at h
  |cons a l c=>
   intro r h z b;obtain⟨q,y⟩:=a;simp only[AD] at h
   split at h
   rcases jj.1 b with e|b;simp at e;obtain⟨rfl,rfl⟩:=e;simp at h;exact c r (fun i=>h (by simp[i])) z b;rename_i g;rcases jj.1 b with e|b;simp at e;obtain⟨rfl,rfl⟩:=e;exact g;exact c r h z b
 intro l
 induction l with
 |nil=>intro r _ y h;simp at h
 |cons a l c=>
  intro r h y d z f;simp only[aX,jr,not_or] at h;rcases jj.1 d with rfl|d;exact one _ r h.1 z f;exact c r h.2 y d z f
def EqB (σ τ:St) (o:Nat):Prop:=σ.obj o=τ.obj o\/(cW (σ.obj o)=false/\cW (τ.obj o)=false)
theorem N4 {σ:St} {o:Nat} {os:List Nat} (h:cW (σ.obj o)=false):Dw σ (o::os)=Dw σ os:=by
 simp only[Dw]
 split
 rename_i e;rw[e] at h;cases h;rfl
theorem n8 {σ τ:St}:∀(os:List Nat),(∀o,o∈os->EqB σ τ o)->Dw σ os=Dw τ os
 |[],_=>rfl
 |k::os,h=>by
  have a:=n8 os (fun o c=>h o (jo _ c))
  rcases h k zb with e|⟨b,e2⟩
  simp only[Dw,e,a]
  rw[N4 b,N4 e2,a]
theorem A8 {σ τ:St}:∀(n:Nat) (os:List Nat),(∀o,o∈RP τ n os->EqB σ τ o)->RP σ n os=RP τ n os
 |0,_,_=>rfl
 |n+1,os,h=>by
  simp only[RP] at h⊢
  have e:Dw σ os=Dw τ os:=n8 os (fun o a=>h o (Gn n _ o ((qm _ _ _).2 (.inr a))))
  rw[e]
  exact A8 n _ h
theorem A9:∀(l:List (Nat×(Nat×Bool)×SV)),ee l []=[]
 |[]=>rfl
 |z::l=>by simp only[ee,sI];exact A9 l
theorem VY {l:List Oper} {R i:RS} (h:jaJ (wy R []) o=true) (r:R.st.sl=i.st.sl) (n:∀b,cW (R.st.obj b)=true->i.st.obj b=R.st.obj b):cU C l o R=cU C l o i:=by
 have opE:∀z,wc (wy R []) z=wc (wy i []) z:=by
  intro z;cases z with
  |tmp t=>simp only[wc,St.get,wy,A9,jW,r]
  |const v=>rfl
  |global g=>rfl
  |func f=>rfl
 have key:o.guard=none->cD C l o R []=cD C l o i []->(∀out,cD C l o R []=some out->out.fz=[])->cU C l o R=cU C l o i:=by
  intro e p e2;unfold cU;rw[e];simp only;rw[<-p];cases d:cD C l o R [] with
  |none=>rfl
  |some out=>simp only[e2 out d,gg]
 unfold jaJ at h
 split at h
 .rename_i z j e;refine key e ?_ ?_
  .simp only[cD,j,e,kO,opE z]
  .intro out d;simp only[cD,j,e,kO,jv] at d;subst d;rfl
 .rename_i U z j e
  split at h
  case h_2=>cases h
  rename_i b k c;have m:(wy i []).obj b=(wy R []).obj b:=n b h;have a:=c;rw[opE z] at a;refine key e ?_ ?_
  .simp only[cD,j,e,kO,c,a,m]
  .intro out d;simp only[cD,j,e,kO,c] at d
   repeat' split at d
   all_goals first|cases d;rfl|cases d
 .rename_i U z f j e
  split at h
  case h_2=>cases h
  rename_i b k c;have m:(wy i []).obj b=(wy R []).obj b:=n b h;have a:=c;rw[opE z] at a;have q:Az (wy i []) b=Az (wy R []) b:=(by unfold Az;rw[m]);refine key e ?_ ?_
  .simp only[cD,j,e,kO,c,a,q]
  .intro out d;simp only[cD,j,e,kO,c] at d
   repeat' split at d
   all_goals first|cases d;rfl|cases d
 .cases h
theorem YM (m:∀k y,aZ[k]? =some y->∃o',ops.toList[k]? =some o'/\yY C ops.toList aZ rs k o' y) (j:yY C ops.toList aZ rs i o x) (E:nb=aX aZ)
 (h:∀k y,aZ[k]? =some y->D k≠decide (k<i)->NT rs.st nb x y):
 cU C ops.toList o (share (wA ops.toList o) (bld D aZ rs)).2=some x.e/\closed (share (wA ops.toList o) (bld D aZ rs)).1 (share (wA ops.toList o) (bld D aZ rs)).2 x.e=true:=by
 by_cases K:∃k y r,aZ[k]? =some y/\D k≠decide (k<i)/\r∈y.ws/\r∈x.names
 .obtain⟨S,Z,Y,T,V,W,X⟩:=K;have M:=((h S Z T V).o2 Y W X).mv;rw[j.mv] at M;have A:∀(k:Nat) (y:qA),aZ[k]? =some y->∀z,z∈y.e.gl->z.1∈qz y.e.sl:=by
   intro k y hk z p;obtain⟨_,_,n⟩:=m k y hk;obtain⟨⟨sv,a⟩,f⟩:=dh n.eff;obtain⟨s,g,v⟩:=z;rw[a];exact iX.2 (f s g v p).1
  have u:keep (wA ops.toList o) (bld D aZ rs).st.sl=keep (wA ops.toList o) (bld (fun k=>decide (k<i)) aZ rs).st.sl:=by
   simp only[bld,gC];congr 1;refine A4 aZ 0 (fun k y a f=>pN _ (fun z p=> ?_));rw[<-j.slots];exact(h k y a (by simpa using f)).s2 z.1 ((mb _ _).2 ⟨z.2,p⟩)
  have G:keep (wA ops.toList o) (bld D aZ rs).gl=keep (wA ops.toList o) (bld (fun k=>decide (k<i)) aZ rs).gl:=by
   simp only[bld,gC];congr 1;refine A4 aZ 0 (fun k y a f=>pN _ (fun z p=> ?_));rw[<-j.slots];exact(h k y a (by simpa using f)).s2 z.1 (A k y a z p)
  have l:∀r,r∈x.os->EqB (bld D aZ rs).st (bld (fun k=>decide (k<i)) aZ rs).st r:=by
   intro r d;by_cases hk:∃k y,aZ[k]? =some y/\D k≠decide (k<i)/\r∈qz y.e.ob
   .obtain⟨k,y,a,f,t⟩:=hk;obtain⟨_,_,n⟩:=m k y a;have L:=(h k y a f).o2 r (by rw[n.ws];exact jh _ t) (by unfold qA.names;simp[d]);have I:=Lq aZ r (by rw[<-E];exact L.nb);have J:∀D':Nat->Bool,cW ((bld D' aZ rs).st.obj r)=false:=by
     intro D';rw[eV]
     split
     .rename_i z p;obtain⟨k,y,a,_,t⟩:=(gX _ _ _ _ _).1 (wO _ _ _ p);exact I y (zw a) z t
     .exact L.bf
    exact .inr ⟨J _,J _⟩
   .refine .inl ?_;rw[eV,eV];rw[A5 (D:=D) (D':=fun k=>decide (k<i)) aZ 0 (fun k y a f=>kH _ _ (fun B=>hk ⟨k,y,a,by simpa using f,B⟩))]
  have c:=j.os;have H:(share (wA ops.toList o) (bld D aZ rs)).1=x.os:=by
   rw[c];unfold share;simp only;rw[u,G];refine A8 3 _ (fun r d=>l r ?_);rw[c];unfold share;exact d
  refine⟨?_,?_⟩
  .rw[<-j.eff];refine(VY M (by unfold share;exact u.symm) (fun b q=> ?_)).symm;rw[dg] at q⊢;rw[dg];rw[H,<-c];by_cases d:b∈x.os
   .rw[<-c,jg d] at q;rw[jg d,jg d];rcases l b d with e|⟨_,e⟩
    .exact e
    .rw[e] at q;cases q
   .rw[<-c,jc d] at q;cases q
  .have w:=j.cl;rw[<-c] at w;rw[H];unfold closed at w⊢
   split at w
   case h_2=>cases w
   rename_i c1 c2 O P Q;have N:Dw (share (wA ops.toList o) (bld D aZ rs)).2.st x.os=Dw (share (wA ops.toList o) (bld (fun k=>decide (k<i)) aZ rs)).2.st x.os:=n8 _ (fun r d=>by
    unfold EqB;rw[dg,dg,H,<-c,jg d,jg d];exact l r d)
   rw[N,c1,c2,O,P,Q]
 .have F:∀k y,aZ[k]? =some y->D k≠decide (k<i)->∀r,r∈y.ws->r∉x.names:=fun k y a f r t R=>K ⟨k,y,r,a,f,t,R⟩
  rw[So m j h F];exact⟨j.eff,j.cl⟩
theorem XT (p:∀k y,aZ[k]? =some y->∃o',ops.toList[k]? =some o'/\yY C ops.toList aZ rs k o' y) (w:yY C ops.toList aZ rs i o x) (e:∀k y,aZ[k]? =some y->D k≠decide (k<i)->NT rs.st nb x y) {d:Nat} (l:d∈x.nn)
 (h:Sm (bld (fun k=>decide (k<i)) aZ rs) d):Sm (bld D aZ rs) d:=by
 have fact:∀k y,aZ[k]? =some y->∃o',yY C ops.toList aZ rs k o' y:=by
  intro k y b;obtain⟨_,_,t⟩:=p k y b;exact⟨_,t⟩
 have u:d∈x.ws:=(by rw[w.ws];exact je _ l);have o1:∀{y:qA},NT rs.st nb x y->d∉y.names:=fun{y} h n=>(h.o1 d u n).nn l
 have j:∀{sv:SV},d∉sv.rl->sv.refs d=false:=fun{sv} n=>by
  cases m:sv.refs d with
  |false=>rfl
  |true=>exact absurd (Lk sv d m) n
 refine⟨?_,?_,?_,?_,h.lt⟩;have b:=h.obj;rw[eV] at b⊢;rw[A5 (D:=D) (D':=fun k=>decide (k<i)) aZ 0 (fun k y b c=>kH _ _ (fun hk=> ?_))];exact b;obtain⟨o',z⟩:=fact k y b;exact(e k y b (by simpa using c)).ws d u (by rw[z.ws];exact jh _ hk);intro s v a;simp only[bld] at a;rcases jr.1 a with a|a;obtain⟨k,y,b,c,f⟩:=(gX _ _ _ _ _).1 a;simp only[zB] at c;by_cases hk:k<i;exact h.sl s v (by simp only[bld];exact jh _ ((gX _ _ _ _ _).2 ⟨k,y,b,by simpa using hk,f⟩));refine j fun q=>o1 (e k y b (by rw[c];simp[hk])) ?_
 unfold qA.names;exact jh _ (Gl _ s v d f q);exact h.sl s v (by simp only[bld];exact je _ a);intro s g v a;simp only[bld] at a;rcases jr.1 a with a|a;obtain⟨k,y,b,c,f⟩:=(gX _ _ _ _ _).1 a;simp only[zB] at c;by_cases hk:k<i;exact h.gl s g v (by simp only[bld];exact jh _ ((gX _ _ _ _ _).2 ⟨k,y,b,by simpa using hk,f⟩));refine j fun q=>o1 (e k y b (by rw[c];simp[hk])) ?_
 unfold qA.names;exact je _ (jh _ (Gm _ s g v d f q));exact h.gl s g v (by simp only[bld];exact je _ a);intro r T fz cs a;simp only[bld] at a;rcases jr.1 a with a|a;obtain⟨k,y,b,c,f⟩:=(gX _ _ _ _ _).1 a;simp only[zB] at c;by_cases hk:k<i;exact h.ob r T fz cs (by simp only[bld];exact jh _ ((gX _ _ _ _ _).2 ⟨k,y,b,by simpa using hk,f⟩));cases m:SV.refs.refsL d cs with
 |false=>rfl
 |true=>
  refine absurd ?_ (o1 (e k y b (by rw[c];simp[hk])));unfold qA.names;exact je _ (je _ (jh _ (A6 _ r T fz cs d f (df cs d m))))
 exact h.ob r T fz cs (by simp only[bld];exact je _ a)
theorem Sp (c:∀k y,aZ[k]? =some y->∃o',ops.toList[k]? =some o'/\yY C ops.toList aZ rs k o' y) (n:yY C ops.toList aZ rs i o x)
 (a:∀k y,aZ[k]? =some y->D k≠decide (k<i)->NT rs.st nb x y):Gi C ops o (bld D aZ rs) x.e:=by
 have l:=gz (ops:=ops) n.fit;refine⟨l.frame,fun d g s j b v m=> ?_,l.guard,fun d g=> ?_,fun r=> ?_⟩;simp only[bld] at m;rcases jr.1 m with m|m;obtain⟨k,y,p,t,u⟩:=(gX _ _ _ _ _).1 m;simp only[zB] at t;by_cases hk:k<i;exact l.gl d g s j b v (by simp only[bld];exact jh _ ((gX _ _ _ _ _).2 ⟨k,y,p,by simpa using hk,u⟩));have B:=a k y p (by rw[t];simp[hk]);obtain⟨_,_,f⟩:=c k y p;obtain⟨⟨sv,E⟩,F⟩:=dh f.eff;obtain⟨w,z⟩:=F s (j,b) v u;obtain⟨⟨H,G⟩,_⟩:=dh n.eff;have q:d∈qz x.e.sl:=(by rw[G];exact iX.2 g);obtain⟨dj,A,_⟩:=(gz (ops:=ops) f.fit).guard s w j b z;refine⟨fun e=> ?_,dj,A,fun e=> ?_⟩;subst e;exact B.sl s q (by rw[E];exact iX.2 w);subst e;refine B.s1 dj q ?_;rw[f.slots];unfold wA;rw[z];exact je _ (DH A);exact l.gl d g s j b v (by simp only[bld];exact je _ m);exact XT c n a (by rw[n.nn];exact jh _ g) (l.nw d g);refine XT c n a ?_ (l.dst r);rw[n.nn];refine je _ ?_
 split
 rename_i p t;rcases r with h|h;exact absurd p h;rw[t] at h;cases h;exact zb
end
theorem iY {n:Nat} {r s:RS} {a:Act} {w:World} (h:Inv P B n ops r a w) (c:∀k,kN s.st.sl k=kN r.st.sl k) (d:∀k,s.st.obj k=r.st.obj k) (e:∀y,y∈s.gl->y∈r.gl):Inv P B n ops s a w:=by
 obtain⟨l,o,ρ,j,b,f,i⟩:=h;refine⟨l,o,ρ,by rw[show s.st.obj=r.st.obj from funext d];exact j,fun k v p=>b k v (by rw[<-c];exact p),fun k g v m=>f k g v (e _ m),i⟩
end
end Go.X
namespace Go.X
open Go.RowKit (Below)
theorem Iw {p q:Nat->Bool}:∀(l:List Nat) (x:Nat),x∈l->p x=true->q x=false->(∀y,q y=true->p y=true)->l.countP q<l.countP p
 |[],x,h,_,_,_=>by simp at h
 |y::l,x,h,hp,hq,hqp=>by
  have le:l.countP q<=l.countP p:=List.countP_mono_left fun z _ b=>hqp z b
  simp only[kh]
  rcases jj.1 h with rfl|h
  simp[hp,hq];omega
  have:=Iw l x h hp hq hqp
  have:(if q y=true then 1 else 0)<=(if p y=true then 1 else 0):=by
   cases a:q y with
   |false=>simp
   |true=>simp[hqp y a]
  omega
def cnt (n:Nat) (a:Array Bool):Nat:=(List.range n).countP fun k=> !(a.getD k false)
theorem mc {a:Array Bool} {i:Nat} (hi:i<a.size) (k:Nat):(a.setIfInBounds i true).getD k false=if k=i then true else a.getD k false:=by
 simp only[jm,jG];by_cases e:k=i;subst e;simp[hi];rw[jc (fun h=>e h.symm),jc e]
theorem Sq {n:Nat} {a:Array Bool} {i:Nat} (hi:i<a.size) (c:i<n) (d:a.getD i false=false):cnt n (a.setIfInBounds i true)<cnt n a:=by
 refine Iw _ i (by simpa using c) (by simp[d]) (by rw[mc hi];simp) (fun y b=> ?_);rw[mc hi] at b
 split at b
 simp at b;exact b
def Clo (ops:Array Oper) (D:Nat->Bool):Prop:=∀k o,ops.toList[k]? =some o->D k=true->∀e,e∈o.after.toList->Region.binds .any e=true->D e.on=true
theorem gM {ops:Array Oper} {ps:List (List Nat)} (b:q6 ops.toList []=some ps) {D:Nat->Bool} (s:Clo ops D):∀(n k:Nat),k<n->∀o p,ops.toList[k]? =some o->
 (∀e,e∈o.after.toList->Region.binds .any e=true->D e.on=true)->ps[k]? =some p->∀j,j∈p->D j=true
 |0,k,h,_,_,_,_,_,_,_=>by omega
 |n+1,k,hk,o,p,v,t,E,j,C=>by
  obtain⟨_,g⟩:=yX _ _ _ b
  obtain⟨F,c,e2⟩:=g k o v
  simp only[zo,zB] at c e2
  rw[E] at c;simp at c;subst c
  obtain⟨A,B⟩:=iW _ _ _ e2
  obtain⟨e,d,f,x⟩:=B j C
  rcases x with rfl|⟨q,r,y⟩
  exact t e d f
  have m:e.on<k:=by have:=A e d f;simp at this;omega
  have u:=(jl.1 v).1
  rw[jP m] at r
  have a:=jp (l:=ops.toList) (i:=e.on) (by omega)
  exact gM b s n e.on (by omega) _ q a (fun w z g=>s e.on _ a (t e d f) w z g) r j y
theorem aa {ops:Array Oper} {a:Array Bool} (k:a.size=ops.size) {i:Nat}:i∈Region.ready .any ops a↔∃o,ops.toList[i]? =some o/\a.getD i false=false/\∀e,e∈o.after.toList->Region.binds .any e=true->a.getD e.on false=true:=by
 unfold Region.ready;simp only[jQ,jC,ji,jI,zk];constructor;rintro⟨d,b,c⟩;have j:ops[i]? =some ops[i]:=jR d;rw[j] at c;simp only[Option.map_some,Option.getD_some,Array.all_eq_true_iff_forall_mem] at c;refine⟨ops[i],j,?_,fun e g f=> ?_⟩;rw[jm] at b⊢;have:a[i]? =some a[i]:=jR (by omega);rw[this] at b⊢;simpa using b;have:=c e (by simpa using g);simpa[f] using this;rintro⟨o,d,b,c⟩;have h:=(jt.1 d).1;refine⟨h,?_,?_⟩;rw[jm] at b⊢;have:a[i]? =some a[i]:=jR (by omega);rw[this] at b⊢;simpa using b;rw[d];simp only[Option.map_some,Option.getD_some,Array.all_eq_true_iff_forall_mem];intro e g;cases f:Region.binds .any e with
 |false=>simp
 |true=>simp[c e (by simpa using g) f]
theorem di {ops:Array Oper} {ps:List (List Nat)} (b:q6 ops.toList []=some ps) {a:Array Bool} (l:a.size=ops.size) (j:Region.ready .any ops a=[]):
 ∀n k,k<n->k<ops.size->a.getD k false=true
 |0,k,h,_=>by omega
 |n+1,k,hk,c=>by
  cases o:a.getD k false with
  |true=>rfl
  |false=>
   have i:ops.toList[k]? =some ops.toList[k]:=jp (by simpa using c)
   obtain⟨_,m⟩:=yX _ _ _ b
   obtain⟨q,p,e2⟩:=m k _ i
   obtain⟨d,_⟩:=iW _ _ _ e2
   have:k∈Region.ready .any ops a:=(aa l).2 ⟨_,i,o,fun e g f=>di b l j n e.on (by have:=d e g f;simp at this;omega) (by have:=d e g f;simp at this;omega)⟩
   rw[j] at this;simp at this
section
variable {P:Program} {B:wY} {C:Ctx} {ops:Array Oper} {Q:Exit->Act->World->Prop} {aZ:List qA} {rs:RS} {ps:List (List Nat)}
theorem Sr (hC:C.ok P) (m:∀k o',ops.toList[k]? =some o'->∃y,yY C ops.toList aZ rs k o' y) (Y:aZ.length=ops.toList.length) (J:q6 ops.toList []=some ps) {nb:List Nat} (hnb:nb=aX aZ) (hord:cE rs.st nb aZ aZ ps 0=true)
 (hvc:∀y,y∈aZ->VW y.e.guard y.e.vc) (hQ:∀a w,Inv P B C.n ops (bld (fun _=>true) aZ rs) a w->Q .normal a w):
 ∀(c:Nat) (b:Array Bool) (a:Act) (w:World),b.size=ops.size->cnt ops.size b<=c->Clo ops (fun k=>b.getD k false)->Inv P B C.n ops (bld (fun k=>b.getD k false) aZ rs) a w->
  wpAny P .any ops Q c b a w:=by
 have hf:∀k y,aZ[k]? =some y->∃o',ops.toList[k]? =some o'/\yY C ops.toList aZ rs k o' y:=by
  intro k y hk;have Z:=(jl.1 hk).1;have v:k<ops.toList.length:=(by omega);obtain⟨y',t⟩:=m k ops.toList[k] (jp v);have:=t.get;rw[hk] at this;simp at this;subst this;exact⟨_,jp v,t⟩
 have R:∀(b:Array Bool) (a:Act) (w:World),(∀k,k<ops.size->b.getD k false=true)->Inv P B C.n ops (bld (fun k=>b.getD k false) aZ rs) a w->Q .normal a w:=by
  intro b a w hl M;refine hQ a w ?_;have e:∀{α:Type} (f:qA->List α),eL f (fun k=>b.getD k false) aZ 0=eL f (fun _=>true) aZ 0:=fun f=>pK f aZ 0 (fun k _ hk=>hl k (by simp at Y;omega))
  have:bld (fun k=>b.getD k false) aZ rs=bld (fun _=>true) aZ rs:=(by unfold bld;rw[e,e,e]);rw[<-this];exact M
 intro c
 induction c with
 |zero=>
  intro b a w hs hc _ M;have hl:∀k,k<ops.size->b.getD k false=true:=by
   intro k hk;cases L:b.getD k false with
   |true=>rfl
   |false=>
    have h0:cnt ops.size b=0:=(by omega);have:=zN.1 h0 k (by simpa using hk);simp[L] at this
  refine⟨?_,R b a w hl M⟩;rw[List.eq_nil_iff_forall_not_mem];intro i hi;obtain⟨o,F,G,_⟩:=(aa hs).1 hi;have:=(jl.1 F).1;rw[hl i (by simpa using this)] at G;cases G
 |succ c ih=>
  intro b a w hs hc j M;refine⟨fun hr=>R b a w (fun k hk=>di J hs hr (k+1) k (by omega) hk) M,fun i hi=> ?_⟩;obtain⟨o,F,G,h3⟩:=(aa hs).1 hi;have Z:i<ops.size:=(by have:=(jl.1 F).1;simpa using this);obtain⟨x,A⟩:=m i o F;have q:=gY _ _ _ _ hord;have E:∀(k:Nat) (y:qA),aZ[k]? =some y->∃o',ops.toList[k]? =some o':=by
   intro k y hk;have:=(jl.1 hk).1;exact⟨_,jp (by omega)⟩
  have u:∀(k:Nat) (y:qA),aZ[k]? =some y->(fun k=>b.getD k false) k≠decide (k<i)->NT rs.st nb x y:=by
   intro k y hk hne;simp only at hne;obtain⟨o',d⟩:=E k y hk;by_cases hki:k<i
   .have L:b.getD k false=false:=by cases hh:b.getD k false<;>simp_all
    obtain⟨p,O,e2⟩:=q i x A.get;rcases e2 k y (by omega) hk with h|h
    .exact h.symm
    .have:=gM J j (i+1) i (by omega) o p F h3 O k h;rw[L] at this;cases this
   .have L:b.getD k false=true:=by cases hh:b.getD k false<;>simp_all
    have hne':k≠i:=fun e=>by subst e;rw[G] at L;cases L
    obtain⟨p,O,e2⟩:=q k y hk;rcases e2 i x (by omega) A.get with h|h
    .exact h
    .have:=gM J j (k+1) k (by omega) o' p d (fun e he hb=>j k o' d L e he hb) O i h;rw[G] at this;cases this
  obtain⟨V,hcl⟩:=YM (D:=fun k=>b.getD k false) hf A hnb u;have W:=Sp (D:=fun k=>b.getD k false) hf A u;have l:∀k,(b.setIfInBounds i true).getD k false=if k=i then true else b.getD k false:=mc (by omega);have I:Clo ops (fun k=>(b.setIfInBounds i true).getD k false):=by
   intro k o' d hk e he hb;simp only at hk⊢;rw[l] at hk⊢
   split
   .rfl
   .by_cases e':k=i
    .subst e';rw[F] at d;simp at d;subst d;exact h3 e he hb
    .rw[jc e'] at hk;exact j k o' d hk e he hb
  have g:=gA (K:=wpAny P .any ops Q c (b.setIfInBounds i true)) (Q:=Q) hC V W (A7 hcl) M (hvc x (zw A.get)) (fun a' w' hI' _=>by
   refine ih _ a' w' (by simpa using hs) (by have:=Sq (n:=ops.size) (by omega) Z G;omega) I ?_;have ins:∀{α:Type} (f:qA->List (Nat×α)) (s:Nat),(∀(k:Nat) (y:qA),i<k->aZ[k]? =some y->b.getD k false=true->kN (f x) s≠none->kN (f y) s=none)->
    kN (eL f (fun k=>(b.setIfInBounds i true).getD k false) aZ 0) s=kN (f x++eL f (fun k=>b.getD k false) aZ 0) s:=by
    intro α f s hh;refine eR (i:=i) G (by show(b.setIfInBounds i true).getD i false=true;rw[l,jg rfl]) (fun k hk=>by show(b.setIfInBounds i true).getD k false=_;rw[l,jc hk]) aZ 0 i (by omega) A.get (fun k y h4 H S T=> ?_);exact hh k y h4 H (by simpa using S) T
   refine iY hI' (fun s=> ?_) (fun r=> ?_) (fun y N=> ?_)
   .simp only[bld,wI];rw[kw,ins (fun x=>x.e.sl) s (fun k y h4 H S T=>kH _ _ (fun hk=>(u k y H (by show b.getD k false≠_;rw[S];simp;omega)).sl s (gZ T) hk)),<-kw,jL]
   .have O:(wI x.e (bld (fun k=>b.getD k false) aZ rs)).st.obj r=(match kN (x.e.ob++eL (fun x=>x.e.ob) (fun k=>b.getD k false) aZ 0) r with|some y=>y|none=>rs.st.obj r):=by
     simp only[St.obj,wI,bld];rw[<-jL,kw]
     all_goals (cases kN (x.e.ob++eL (fun x=>x.e.ob) (fun k=>b.getD k false) aZ 0) r<;>rfl)
    have X:=ins (fun x=>x.e.ob) r (fun k y h4 H S T=>kH _ _ (fun hk=>by
     obtain⟨o',d⟩:=E k y H;obtain⟨y',t⟩:=m k o' d;have:=t.get;rw[H] at this;simp at this;subst this;exact(u k y H (by show b.getD k false≠_;rw[S];simp;omega)).ws r (by rw[A.ws];exact jh _ (gZ T)) (by rw[t.ws];exact jh _ hk)))
    rw[eV,O,X]
    all_goals (cases kN (x.e.ob++eL (fun x=>x.e.ob) (fun k=>b.getD k false) aZ 0) r<;>rfl)
   .simp only[bld,wI] at N⊢;rcases jr.1 N with N|N
    .obtain⟨k,z,g1,g2,g3⟩:=(gX _ _ _ _ _).1 N;simp only[zB] at g2;rw[l] at g2;by_cases e:k=i
     .subst e;have:=A.get;rw[g1] at this;simp at this;subst this;exact jh _ g3
     .rw[jc e] at g2;exact je _ (jh _ ((gX _ _ _ _ _).2 ⟨k,z,g1,by simpa using g2,g3⟩))
    .exact je _ (je _ N))
  unfold wpOp;have hoi:ops[i]? =some o:=(by simpa using F);rw[hoi];simp only
  split
  .rename_i hw;rw[jg hw] at g;exact .inl g
  .rename_i hw;rw[jc hw] at g;exact g
end
end Go.X
namespace Go.X
open Go.RowKit (Below)
section
variable {P:Program} {B:wY} {C:Ctx} {Q:Exit->Act->World->Prop}
theorem iZ {ρ:Env} {obj:Nat->Option Ob} {w:World} (h:Sat P B ρ obj w):Sat P B ρ obj {w with drawn:=w.drawn+1}:=
 ⟨h.os,h.tape,h.output,(by exact Nat.le_succ_of_le h.drawn),h.size,h.good,h.oldH,h.old,fun o x d=>by
  obtain⟨p,a,b⟩:=h.obs o x d
  exact⟨p,a,we (new:=[]) (Env.le.refl _ _) (by simp) (fun _ _ _ _ _ c=>by simp at c) (fun _ _ _=>⟨rfl,rfl⟩) b⟩,h.dead,h.inj,h.own⟩
def Pv (P:Program) (ops:Array Oper) (b:Bool) (Q:Exit->Act->World->Prop) (a:Act) (w:World):Prop:=
 match b with
 |false=>wpList P ops Q ops.toList a w
 |true=>wpAny P .any ops Q ops.size (Array.replicate ops.size false) a {w with drawn:=w.drawn+1}
theorem YN (c:P.follows .mixedOrders=true) {id:Nat} {ops:Array Oper} {b:Bool} {a:Act} {w:World} (h:Pv P ops b Q a w):(Code.region id ops b).wp P Q a w:=by
 cases b with
 |false=>exact wp_region_list h
 |true=>exact wp_region_any c h
theorem Ix (D:C.ok P) {ops:Array Oper} {b:Bool} {σ:St} {es:List Eff} {rs:RS} {k:Prop} {a:Act} {w:World}
 (h:cX C ops.toList b σ=some (es,rs)) (hk:w9 b es k) (G:Rel P B C.n σ a w) (F:k->∀c w',Rel P B C.n rs.st c w'->Q .normal c w'):
 Pv P ops b Q a w:=by
 have E:Inv P B C.n ops ⟨σ,[]⟩ a w:=by
  obtain⟨m,p,ρ,q,r,t⟩:=G;exact⟨m,p,ρ,q,r,(fun s g v H=>by simp at H),t⟩
 have l:∀{i:RS} {c:Act} {w':World},Inv P B C.n ops i c w'->Rel P B C.n i.st c w':=fun⟨m,p,ρ,q,r,_,t⟩=>⟨m,p,ρ,q,r,t⟩
 cases b with
 |false=>
  simp only[cX] at h;exact v6 D _ _ _ _ _ _ h hk E (fun f c w' d=>F f c w' (l d))
 |true=>
  simp only[cX] at h
  split at h
  case h_2=>cases h
  rename_i aZ i ps J I
  split at h
  case h_2=>cases h
  rename_i u;simp at h;obtain⟨rfl,rfl⟩:=h;obtain⟨L,M,N⟩:=bm _ _ _ _ J;obtain⟨A,f⟩:=bj _ hk;show wpAny P .any ops Q ops.size (Array.replicate ops.size false) a {w with drawn:=w.drawn+1};have d:Inv P B C.n ops ⟨σ,[]⟩ a {w with drawn:=w.drawn+1}:=by
   obtain⟨m,p,ρ,q,r,t⟩:=E;exact⟨m,p,ρ,iZ q,r,t⟩
  refine Sr D N L I rfl u (fun y K=>A y.e (List.mem_map_of_mem K)) (fun c w' x=>F f c w' (l (by rw[M];exact x))) _ _ _ _ (by simp) ?_ ?_ ?_
  .unfold cnt;exact jE List.countP_le_length (by simp)
  .intro j o O z;simp only[jm,zH] at z
   split at z<;>simp at z
  .rw[eU aZ ⟨σ,[]⟩ (fun j=>by
    simp only[jm,zH]
    split<;>simp)]
   exact d
end
end Go.X
namespace Go.X
open Go.RowKit (Below)
structure DI (Bi B:wY):Prop where
 os:B.w.os=Bi.w.os
 tape:B.w.tape=Bi.w.tape
 output:B.w.output=Bi.w.output
 drawn:Bi.w.drawn<=B.w.drawn
 size:Bi.w.heap.size<=B.w.heap.size
 mono:∀b c,Bi.H b=some c->B.H b=some c
 old:∀b,b<Bi.w.heap.size->b∉Bi.bor->B.w.heap[b]? =Bi.w.heap[b]?/\B.H b=Bi.H b/\b∉B.bor
 own:∀b,b∈B.bor->Bi.w.heap.size<=b\/b∈Bi.bor
 blk0:B.blk0=Bi.blk0
 len0:B.len0=Bi.len0
def VZ (C:Ctx) (ops r:List Oper) (n:Nat) (rs:RS) (K:Ex->St->Prop):Prop:=
 match az C ops r rs with
 |none=>False
 |some (ss,a)=>w9 false ss (K .normal (vL ops (gc n a.st)))
theorem pO {C:Ctx} {σ:St} {fields:List (Nat×Nat)}:∀(l:List (Nat×Operand)) (cs:List SV),gR C.inLit σ fields l cs=gR C σ fields l cs
 |[],_=>rfl
 | (j,x)::r,cs=>by
  have a:=fun cs=>pO (C:=C) (σ:=σ) (fields:=fields) r cs
  have e:C.inLit.info=C.info:=rfl
  simp only[gR,a,e]
theorem Iy {C:Ctx} {σ:St}:∀n,H8 C.inLit σ n=H8 C σ n
 |0=>rfl
 |n+1=>by
  have a:=Iy (C:=C) (σ:=σ) n
  have e:C.inLit.spec=C.spec:=rfl
  funext ps rs v
  simp only[H8,a,e]
theorem V0 {C:Ctx} {σ:St}:Yq C.inLit σ=Yq C σ:=by
 funext ps rs v;unfold Yq;rw[Iy]
theorem Ba {C:Ctx} {σ:St}:∀(ps:List Par) (vs:List SV),vu C.inLit σ ps vs=vu C σ ps vs
 |[],[]=>rfl
 |[],_::_=>rfl
 |p::ps,[]=>by cases p<;>rfl
 |p::ps,v::vs=>by
  have a:=Ba (C:=C) (σ:=σ) ps vs
  cases p<;>simp only[vu,a,V0]
theorem Pw {C:Ctx} {σ:St} {dst:Nat} (f:SV) (args:List SV):EG C.inLit σ dst f args=EG C σ dst f args:=by
 have e:C.inLit.spec=C.spec:=rfl;have e2:C.inLit.eff=C.eff:=rfl;unfold EG;simp only[Ba,e,e2]
theorem Px {C:Ctx} {σ:St} {dst:Nat}:∀{op:Op},nR op=false->EK op=false->kO C.inLit σ dst op=kO C σ dst op:=by
 intro op a b;cases op<;>first|rfl|(simp[nR] at a;done)|skip
 case makeMap U r=>
  cases r with
  |none=>simp[EK] at b
  |some r=>rfl
 case build U parts=>
  have e:C.inLit.info=C.info:=rfl;simp only[kO,pO,e]
 case slice U x lo hi d=>cases d<;>cases lo<;>cases hi<;>rfl
 case call c=>
  simp only[kO,Pw];rfl
theorem Ss {C:Ctx} {ops:List Oper} {o:Oper} {R:RS} (b:nR o.op=false) (c:EK o.op=false):cU C.inLit ops o R=cU C ops o R:=by
 have e:∀a,cD C.inLit ops o R a=cD C ops o R a:=by
  intro a;unfold cD
  split
  rfl;rfl;exact Px b c
 unfold cU;simp only[e]
theorem Su {C:Ctx} {ops:Array Oper} {o:Oper} {rs:RS} {e:Eff} (h:Gi C.inLit ops o rs e):Gi C ops o rs e:=⟨h.frame,h.gl,h.guard,h.nw,h.dst⟩
section
variable {P:Program}
theorem DI.refl (B:wY):DI B B:=⟨rfl,rfl,rfl,jk _,jk _,fun _ _ h=>h,fun _ _ h=>⟨rfl,rfl,h⟩,fun _ h=> .inr h,rfl,rfl⟩
theorem i7 {Bi B:wY} {ρ:Env} {obj:Nat->Option Ob} {w:World} (h:DI Bi B) (a:Sat P B ρ obj w):Sat P Bi ρ obj w:=by
 obtain⟨c1,c2,l,e,d,p,i,m,q,r⟩:=h;refine⟨a.os.trans c1,a.tape.trans c2,a.output.trans l,jE e a.drawn,jE d a.size,a.good,fun b c f=> ?_,fun b c f=> ?_,a.obs,a.dead,a.inj,fun o b C n=> ?_⟩;obtain⟨j,k,g⟩:=i b c f;exact(a.oldH b (zz c d) g).trans k;obtain⟨j,k,g⟩:=i b c f;exact(a.old b (zz c d) g).trans j;rcases a.own o b C n with h|h;exact .inl (jE d h);exact m b h
theorem uh {Bi B:wY} {ρ:Env} (h:DI Bi B) (d:Pin B ρ):Pin Bi ρ:=by
 refine⟨fun o p e a=> ?_,fun b c a=>d.2 b c (h.mono b c a)⟩;have:=d.1 o p e a;rw[h.blk0,h.len0] at this;exact this
theorem mf {B:wY} {ρ:Env} {σ:St} {w w':World} {H':Imm} (d:Sat P B ρ σ.obj w) (j:d8 H' w') (k:∀b c,ρ.H b=some c->H' b=some c)
 (hk:∀o b C,ρ.blk o=some (some (b,C))->w'.heap[b]? =w.heap[b]?/\H' b=ρ.H b):
 Sat P {B with w:=w',H:=H',bor:=wC ρ (qz σ.ob)} {ρ with H:=H'} σ.obj w':=by
 have e:ρ.le {ρ with H:=H'} []:=⟨k,fun _ _ _ h=>h,fun _ _=>rfl⟩;refine⟨rfl,rfl,rfl,jk _,jk _,j,fun _ _ _=>rfl,fun _ _ _=>rfl,?_,d.dead,d.inj,?_⟩;intro o x n;obtain⟨p,a,m⟩:=d.obs o x n;refine⟨p,a,we e (by simp) (fun _ _ _ _ o' g=>by simp at g) (fun b C' i=> ?_) m⟩;subst i;have:=hk o b C' a;exact⟨this.2,this.1⟩;intro o b C' a;refine .inr ((wD _).2 ⟨o,C',?_,a⟩);refine Classical.byContradiction fun f=> ?_
 have l:σ.obj o=none:=by
  simp only[St.obj];rw[kH _ _ f]
 have:=d.dead o l;rw[a] at this;cases this
theorem ET {Bi B:wY} {ρ:Env} {σ:St} {w w':World} (d:DI Bi B) (k:Sat P B ρ σ.obj w) (e:Pin B ρ) (l:w'.os=w.os) (e2:w'.tape=w.tape) (m:w'.output=w.output) (n:w.drawn<=w'.drawn) (p:w.heap.size<=w'.heap.size)
 (q:d8 ρ.H w') (hk:∀b,b<Bi.w.heap.size->w'.heap[b]? =w.heap[b]?) (s:∀o b C,ρ.blk o=some (some (b,C))->w'.heap[b]? =w.heap[b]?):
 DI Bi {B with w:=w',H:=ρ.H,bor:=wC ρ (qz σ.ob)}/\Sat P {B with w:=w',H:=ρ.H,bor:=wC ρ (qz σ.ob)} ρ σ.obj w'/\Pin {B with w:=w',H:=ρ.H,bor:=wC ρ (qz σ.ob)} ρ:=by
 have a:=i7 d k;refine⟨⟨l.trans a.os,e2.trans a.tape,m.trans a.output,jE a.drawn n,jE a.size p,fun b c i=>(uh d e).2 b c i,fun b f g=>⟨?_,a.oldH b f g,fun r=> ?_⟩,fun b i=> ?_,d.blk0,d.len0⟩,mf k q (fun _ _ h=>h) (fun o b C h=>⟨s o b C h,rfl⟩),⟨e.1,fun _ _ h=>h⟩⟩;exact(hk b f).trans (a.old b f g);obtain⟨o,C,_,h⟩:=(wD _).1 r;rcases a.own o b C h with j|j;omega;exact g j;obtain⟨o,C,_,h⟩:=(wD _).1 i;exact a.own o b C h
theorem YO {B:wY} {ρ:Env} {obj:Nat->Option Ob} {w:World} (f:Sat P B ρ obj w) {d b:Nat} (D:obj d=none) (u:qY obj d) (l:∀o C,ρ.blk o≠some (some (b,C))) (n:B.w.heap.size<=b\/b∈B.bor) (x:Ob)
 (z:∀a:Env,a.H=ρ.H->wH P a w d (some (b,0)) x):∃a:Env,Sat P B a (sC obj d (some x)) w/\ρ.le a [d]/\a.H=ρ.H/\a.blk d=some (some (b,0))/\∀o,o≠d->a.blk o=ρ.blk o:=by
 let a:Env:={H:=ρ.H,blk:=fun o=>if o=d then some (some (b,0)) else ρ.blk o,len:=ρ.len}
 have k:ρ.le a [d]:=⟨fun _ _ h=>h,fun o p c s=>by
  have c:o≠d:=(by simpa using c);simpa only[a,c,if_false] using s,fun _ _=>rfl⟩
 refine⟨a,⟨f.os,f.tape,f.output,f.drawn,f.size,f.good,f.oldH,f.old,fun o y j=> ?_,fun o c=> ?_,fun o o' q C C' g i=> ?_,fun o q C h=> ?_⟩,k,rfl,by simp[a],fun o c=>by simp[a,c]⟩;unfold sC at j
 split at j
 rename_i e;subst e;simp only[jv] at j;subst j;exact⟨_,by simp[a],z a rfl⟩;rename_i c;obtain⟨p,s,v⟩:=f.obs o y j;exact⟨p,by simp[a,c,s],we k (by simpa using c) (fun T fz cs r o' m=>by simp at m;subst m;exact u o T fz cs (by rw[j,r])) (fun b C A=>⟨rfl,rfl⟩) v⟩;unfold sC at c;simp only[a]
 split at c
 cases c;rename_i h;rw[jc h];exact f.dead o c;simp only[a] at g i
 split at g<;>split at i
 rename_i t e2;rw[t,e2];simp only[jv,Prod.mk.injEq] at g;rw[<-g.1] at i;exact absurd i (l o' C');simp only[jv,Prod.mk.injEq] at i;rw[<-i.1] at g;exact absurd g (l o C);exact f.inj o o' q C C' g i;simp only[a] at h
 split at h
 simp only[jv,Prod.mk.injEq] at h;rw[<-h.1];exact n;exact f.own o q C h
def lvO (d:Nat):Option Nat->RS->RS
 |none,rs=>rs
 |some b,rs=>⟨⟨(d,.lit (.map (some b)))::rs.st.sl,rs.st.ob⟩,rs.gl⟩
variable {C:Ctx} {ops:Array Oper} {B:wY}
theorem Sv {rs:RS} {d:Nat} {q:Option Nat} {k:Nat} (h:Sm rs k):Sm (lvO d q rs) k:=by
 cases q with
 |none=>exact h
 |some b=>
  refine⟨h.obj,fun s v a=> ?_,h.gl,h.ob,h.lt⟩;rcases jj.1 a with e|a;injection e with _ e;subst e;rfl;exact h.sl s v a
theorem V1 {o:Oper} {rs:RS} {e:Eff} {d:Nat} {q:Option Nat} (h:Gi C ops o rs e):Gi C ops o (lvO d q rs) e:=
 ⟨h.frame,fun k hk s j b v c=>h.gl k hk s j b v (by cases q<;>exact c),h.guard,fun k hk=>Sv (h.nw k hk),fun a=>Sv (h.dst a)⟩
theorem jaP {rs R:RS} {e:Eff} {d:Nat} {q:Option Nat} (h:Fit P B rs R e) (i:kN R.st.sl d=none):Fit P B (lvO d q rs) R e:=by
 cases q with
 |none=>exact h
 |some b=>
  refine⟨fun s v f=> ?_,h.gl,h.obj,fun ρ w g c=>h.go ρ w g c⟩;have a:d≠s:=fun e=>by subst e;rw[i] at f;cases f
  show kN ((d,_)::rs.st.sl) s=some v;rw[kL a];exact h.sl s v f
theorem DJ {α:Type} {ks:List Nat} {l:List (Nat×α)} {s:Nat} (h:s∉ks):kN (keep ks l) s=none:=by
 refine kH _ _ fun hk=> ?_
 obtain⟨x,a⟩:=(mb _ _).1 hk;exact h (Af ks l _ a).2
theorem YP {C':Ctx} {aZ:List qA} {rs:RS} {i:Nat} {o:Oper} {x:qA} {nb:List Nat} (p:∀k y,aZ[k]? =some y->∃o',ops.toList[k]? =some o'/\yY C' ops.toList aZ rs k o' y) (q:yY C' ops.toList aZ rs i o x)
 {D D':Nat->Bool} (hi:D i=false) (n:D' i=true) (w:∀k,k≠i->D' k=D k) (g:∀k y,aZ[k]? =some y->D k≠decide (k<i)->NT rs.st nb x y):
 (∀s,kN (bld D' aZ rs).st.sl s=kN (wI x.e (bld D aZ rs)).st.sl s)/\(∀r,(bld D' aZ rs).st.obj r=(wI x.e (bld D aZ rs)).st.obj r)/\(∀y,y∈(bld D' aZ rs).gl->y∈(wI x.e (bld D aZ rs)).gl):=by
 have j:∀{α:Type} (f:qA->List (Nat×α)) (s:Nat),(∀(k:Nat) (y:qA),i<k->aZ[k]? =some y->D k=true->kN (f x) s≠none->kN (f y) s=none)->
  kN (eL f D' aZ 0) s=kN (f x++eL f D aZ 0) s:=by
  intro α f s B;exact eR (i:=i) hi n w aZ 0 i (by omega) q.get (fun k y m a c d=>B k y m a (by simpa using c) d)
 refine⟨fun s=> ?_,fun r=> ?_,fun y b=> ?_⟩
 .simp only[bld,wI];rw[kw,j (fun x=>x.e.sl) s (fun k y m a c d=>kH _ _ (fun hk=>(g k y a (by rw[c];simp;omega)).sl s (gZ d) hk)),<-kw,jL]
 .have A:(wI x.e (bld D aZ rs)).st.obj r=(match kN (x.e.ob++eL (fun x=>x.e.ob) D aZ 0) r with|some y=>y|none=>rs.st.obj r):=by
   simp only[St.obj,wI,bld];rw[<-jL,kw]
   all_goals (cases kN (x.e.ob++eL (fun x=>x.e.ob) D aZ 0) r<;>rfl)
  have h:=j (fun x=>x.e.ob) r (fun k y m a c d=>kH _ _ (fun hk=>by
   obtain⟨_,_,t⟩:=p k y a;exact(g k y a (by rw[c];simp;omega)).ws r (by rw[q.ws];exact jh _ (gZ d)) (by rw[t.ws];exact jh _ hk)))
  rw[eV,A,h]
  all_goals (cases kN (x.e.ob++eL (fun x=>x.e.ob) D aZ 0) r<;>rfl)
 .simp only[bld,wI] at b⊢;rcases jr.1 b with b|b
  .obtain⟨k,z,u,l,v⟩:=(gX _ _ _ _ _).1 b;simp only[zB] at l;by_cases e:k=i
   .subst e;have:=q.get;rw[u] at this;simp at this;subst this;exact jh _ v
   .rw[w k e] at l;exact je _ (jh _ ((gX _ _ _ _ _).2 ⟨k,z,u,by simpa using l,v⟩))
  .exact je _ (je _ b)
theorem Py {U:Nat} {ti tk te:TI} (D:C.ok P) (q:C.mapT U=some (ti,tk,te)) {H:Imm} {b:Nat} {es:Array MapEntry} {clock:Nat} {l:List (tk.ty.Data×te.ty.Data)} {w:World} (u:w.heap[b]? =some (.map es clock))
 (f:iO H tk.ty te.ty es clock l) {o:Oper} {ev:Operand->Value} {m n x:Operand} (r:o.op= .insert U m n x) (F:ev m= .map (some b)) {k:tk.ty.Data} (hk:tk.ty.rv H (ev n) k) (d:k∉l.map (·.1)):
 (execOp ev o).run P w= .ok .skip {w with heap:=w.heap.setIfInBounds b (.map (es.push {key:=ev n,val:=ev x,born:=clock}) (clock+1))}:=by
 obtain⟨_,s,J,h,p,G⟩:=db D q;obtain⟨K,L,S⟩:=s.keyq p;have E:(getObj b).run P w= .ok (.map es clock) w:=(by simp[getObj,Sem.run,u]);have g:∀y:Obj,(setObj b y).run P w= .ok () {w with heap:=w.heap.setIfInBounds b y}:=fun y=>by simp[setObj,Sem.run,u]
 have c1:=K H (ev n) k w false hk;have c:es.toList.length=l.length:=(by simpa using f.1);have a:∀(i:Nat) (x:tk.ty.Data×te.ty.Data),l[i]? =some x->∃e:MapEntry,es.toList[i]? =some e/\tk.ty.rv H e.key x.1/\te.ty.rv H e.val x.2:=fun i x I=>by simpa using f.2.2.2.2 i x I
 have c2:=L H es.toList (fO l) (ev n) k w hk (Io _ _ c a);rcases gV (H:=H) k es.toList l 0 c a with⟨t,v,z⟩|⟨j,N,M,t,v,z,A,B,O,Q,R⟩;rw[t] at c2;simp[execOp,r,Instr.mapUpdate,jB h,F,E,c1,c2,g];refine absurd (jT.2 ⟨M,zw A,B⟩) d
theorem pP {α:Type} {y:α}:∀(l:List (Option α)),y∈pq l↔∃k:Nat,l[k]? =some (some y)
 |[]=>by simp[pq]
 |none::r=>by
  simp only[pq,pP r]
  constructor
  rintro⟨k,hk⟩;exact⟨k+1,by simpa using hk⟩
  rintro⟨k,hk⟩
  cases k with
  |zero=>simp at hk
  |succ k=>exact⟨k,by simpa using hk⟩
 |some x::r=>by
  simp only[pq,jj,pP r]
  constructor
  rintro(rfl|⟨k,hk⟩)
  exact⟨0,rfl⟩
  exact⟨k+1,by simpa using hk⟩
  rintro⟨k,hk⟩
  cases k with
  |zero=>simp at hk;exact .inl hk.symm
  |succ k=>exact .inr ⟨k,by simpa using hk⟩
theorem Gp {α β:Type}:∀(l:List (Option (α×β))),((pq l).map (·.1)).Nodup->∀(i j:Nat) (x y:α×β),l[i]? =some (some x)->l[j]? =some (some y)->i≠j->x.1≠y.1
 |[],_,i,_,_,_,h,_,_=>by simp at h
 |none::r,hn,i,j,x,y,hi,hj,hne=>by
  cases i with
  |zero=>simp at hi
  |succ i=>
   cases j with
   |zero=>simp at hj
   |succ j=>exact Gp r hn i j x y (by simpa using hi) (by simpa using hj) (by omega)
 |some z::r,hn,i,j,x,y,hi,hj,hne=>by
  simp only[pq,zu,zp] at hn
  have inr:∀(k:Nat) (u:α×β),r[k]? =some (some u)->u.1∈(pq r).map (·.1):=fun k u a=>jT.2 ⟨u,(pP r).2 ⟨k,a⟩,rfl⟩
  cases i with
  |zero=>
   cases j with
   |zero=>exact absurd rfl hne
   |succ j=>
    simp at hi;subst hi
    intro e
    exact hn.1 (e▸inr j y (by simpa using hj))
  |succ i=>
   cases j with
   |zero=>
    simp at hj;subst hj
    intro e
    exact hn.1 (e▸inr i x (by simpa using hi))
   |succ j=>exact Gp r hn.2 i j x y (by simpa using hi) (by simpa using hj) (by omega)
structure jbR (B B':wY) (kt vt:Ty) (ents:List (Option (kt.Data×vt.Data))) (D:Nat->Bool) (b:Nat) (l:List (kt.Data×vt.Data)) (es:Array MapEntry) (clock:Nat):Prop where
 d0:D 0=true
 ge:B.w.heap.size<=b
 lt:b<B'.w.heap.size
 nb:b∉B'.bor
 nH:B'.H b=none
 at_:B'.w.heap[b]? =some (.map es clock)
 rd:iO B'.H kt vt es clock l
 nd:(l.map (·.1)).Nodup
 mem:∀y,y∈l↔∃k:Nat,D k=true/\ents[k]? =some (some y)
def jca (P:Program) (B:wY) (n:Nat) (ops:Array Oper) (d:Nat) (kt vt:Ty) (ents:List (Option (kt.Data×vt.Data))) (aZ:List qA) (rs:RS) (D:Nat->Bool) (a:Act) (w:World):Prop:=
 ∃B' q,DI B B'/\Inv P B' n ops (lvO d q (bld D aZ rs)) a w/\match q with
  |none=>D 0=false
  |some b=>∃l es clock,jbR B B' kt vt ents D b l es clock
theorem Ag:∀(n k:Nat),k∈YC n↔k<n
 |0,k=>by simp[YC]
 |n+1,k=>by simp only[YC,jj,Ag n k];omega
theorem EU (p:List Nat):∀n,NO p n=true->∀j,j<n->j∈p
 |0,_,j,h=>by omega
 |n+1,h,j,b=>by
  simp only[NO] at h
  split at h
  rename_i a
  by_cases e:j=n
  subst e;exact(qJ _ _).1 a
  exact EU p n h j (by omega)
  cases h
theorem Bb:∀(ps:List (List Nat)) (k m:Nat),AI ps k m=true->∀(i:Nat) (p:List Nat),ps[i]? =some p->m<=k+i->∀j,j<m->j∈p
 |[],_,_,_,i,_,h,_=>by simp at h
 |q::ps,k,m,h,i,p,hi,hm=>by
  have tl:AI ps (k+1) m=true:=by
   simp only[AI] at h
   split at h
   split at h
   exact h;cases h;exact h
  cases i with
  |zero=>
   simp at hi;subst hi;simp only[AI] at h;have:Nat.ble m k=true:=Nat.ble_eq_true_of_le (by omega);rw[this] at h;simp only at h
   split at h
   rename_i a;exact EU _ _ a;cases h
  |succ i=>exact Bb ps (k+1) m tl i p (by simpa using hi) (by omega)
theorem EV {d:Nat}:∀(l:List Oper) (aZ:List qA),aside d l aZ=true->∀(k:Nat) (o:Oper) (x:qA),l[k]? =some o->aZ[k]? =some x->nR o.op=false->EK o.op=false/\d∉x.slots/\d∉qz x.e.sl
 |[],_,_,k,_,_,h,_,_=>by simp at h
 |_::_,[],h,_,_,_,_,_,_=>by simp[aside] at h
 |o::r,x::aZ,h,k,o',x',hk,hx,hi=>by
  simp only[aside] at h
  cases k with
  |zero=>
   simp at hk hx;subst hk hx
   rw[hi] at h
   simp only at h
   split at h
   rename_i f b c
   refine⟨f,?_,?_⟩
   intro a;rw[(qJ _ _).2 a] at b;cases b
   intro a;rw[(qJ _ _).2 a] at c;cases c
   cases h
  |succ k=>
   have tl:aside d r aZ=true:=by
    split at h
    exact h
    split at h
    exact h;cases h
   exact EV r aZ tl k o' x' (by simpa using hk) (by simpa using hx) hi
theorem Bc {a:List Oper} {d U:Nat} {kt vt:Ty}:∀(l:List Oper) (aZ:List qA) (rs:RS) (ents:List (Option (kt.Data×vt.Data))),AJ a d U kt vt l aZ rs=some ents->
 ents.length=l.length/\∀(k:Nat) (o:Oper),l[k]? =some o->∃y,ents[k]? =some y/\F3 d U kt vt o (share (wA a o) (bld (fun j=>decide (j<k)) aZ rs)).2.st=some y
 |[],[],rs,ents,h=>by simp[AJ] at h;subst h;exact⟨rfl,fun k o h=>by simp at h⟩
 |[],_::_,_,_,h=>by simp[AJ] at h
 |_::_,[],_,_,h=>by simp[AJ] at h
 |o::r,x::aZ,rs,ents,h=>by
  simp only[AJ] at h
  split at h
  case h_2=>cases h
  rename_i y l e f
  simp at h;subst h
  obtain⟨g,i⟩:=Bc r aZ _ _ f
  refine⟨by simp[g],fun k o' hk=> ?_⟩
  cases k with
  |zero=>
   simp at hk;subst hk
   refine⟨y,rfl,?_⟩
   rw[eU (x::aZ) rs (fun k=>by simp)]
   exact e
  |succ k=>
   obtain⟨m,b,c⟩:=i k o' (by simpa using hk)
   refine⟨m,by simpa using b,?_⟩
   rw[Gk _ _ _ _ (by simp)]
   have:(fun j=>decide (j+1<k+1))=fun j=>decide (j<k):=by funext j;simp
   rw[this]
   exact c
theorem EW {d U:Nat} {kt vt:Ty} {o:Oper} {σ:St} {y:kt.Data×vt.Data} (h:F3 d U kt vt o σ=some (some y)):
 ∃b x,o.op= .insert U (.tmp d) b x/\o.dst=none/\o.guard=none/\Pc d b=true/\Pc d x=true/\vY σ kt (wc σ b)=some (y.1,[])/\vY σ vt (wc σ x)=some (y.2,[]):=by
 unfold F3 at h
 split at h
 rename_i r m b x c
 split at h
 rename_i s k v a e2 e i j l n p
 split at h
 rename_i q;simp at h;subst h;have:=ja q;subst this;have:=ja i;subst this;refine⟨b,x,?_,e2,e,n,p,j,l⟩;cases m with
 |tmp t=>simp[FW] at a;subst a;exact c
 |const v=>simp[FW] at a
 |global g=>simp[FW] at a
 |func f=>simp[FW] at a
 cases h;cases h;simp at h
theorem Sw {d U:Nat} {kt vt:Ty} {o:Oper} {σ:St} {y:Option (kt.Data×vt.Data)} (h:F3 d U kt vt o σ=some y) (hi:nR o.op=true):∃z,y=some z:=by
 unfold F3 at h
 split at h
 split at h
 split at h
 simp at h;subst h;exact⟨_,rfl⟩;cases h;cases h;rename_i a;exfalso;cases b:o.op<;>rw[b] at hi<;>simp[nR] at hi
 exact a _ _ _ _ b
theorem Lr {d U:Nat} {kt vt:Ty} {o:Oper} {σ:St} {y:Option (kt.Data×vt.Data)} (h:F3 d U kt vt o σ=some y) (hi:nR o.op=false):y=none:=by
 unfold F3 at h
 split at h
 rename_i a;rw[a] at hi;simp[nR] at hi;simp at h;exact h.symm
theorem XU {ρ:Env} {d:Nat} {q:Option Nat} {rs:RS} {a:Act} {slots:List Nat} {x:Operand} (c:px P ρ (lvO d q rs).st.sl a) (j:Pc d x=true):SV.den P ρ (wc (share slots rs).2.st x) (a.eval x):=by
 cases x with
 |tmp t=>
  have i:d≠t:=by
   intro e;subst e;simp only[Pc] at j
   split at j
   cases j;rename_i l;exact absurd (Nat.beq_refl d) (by rw[l];simp)
  simp only[wc,St.get]
  split
  rename_i v m;have k:=pM slots _ t v m;refine c t v ?_;cases q with
  |none=>exact k
  |some b=>show kN ((d,_)::rs.st.sl) t=some v;rw[kL i];exact k
  exact vz _
 |const v=>exact k8 (σ:=⟨[],[]⟩) (fun s sv h=>by simp[kN] at h) (.const v)
 |global g=>exact k8 (σ:=⟨[],[]⟩) (fun s sv h=>by simp[kN] at h) (.global g)
 |func f=>exact k8 (σ:=⟨[],[]⟩) (fun s sv h=>by simp[kN] at h) (.func f)
end
end Go.X
namespace Go.X
open Go.RowKit (Below)
section
variable {P:Program} {B:wY} {C:Ctx} {ops:Array Oper} {Q:Exit->Act->World->Prop} {aZ:List qA} {rs:RS} {ps:List (List Nat)}
structure Pz (P:Program) (C:Ctx) (ops:Array Oper) (aZ:List qA) (rs:RS) (ps:List (List Nat)) (body:List Oper) (m d U:Nat) (tk te:TI) (ents:List (Option (tk.ty.Data×te.ty.Data))):Prop where
 ok:C.ok P
 mp:∃ti,C.mapT U=some (ti,tk,te)
 bd:∀(k:Nat) (o:Oper),body[k]? =some o->ops.toList[k]? =some o
 sz:ops.size=body.length+m
 o0:∃o,body[0]? =some o/\o.op= .makeMap U none/\o.dst=some d/\o.guard=none
 pre:q6 ops.toList []=some ps
 tl:∀(k:Nat) (p:List Nat),body.length<=k->ps[k]? =some p->∀j,j<body.length->j∈p
 all:∀(k:Nat) (o:Oper),body[k]? =some o->∃y,yY C.inLit ops.toList aZ rs k o y
 len:aZ.length=body.length
 ord:cE rs.st (aX aZ) aZ aZ ps 0=true
 ent:∀(k:Nat) (o:Oper),body[k]? =some o->∃y,ents[k]? =some y/\F3 d U tk.ty te.ty o (share (wA ops.toList o) (bld (fun j=>decide (j<k)) aZ rs)).2.st=some y
 elen:ents.length=body.length
 aside:∀(k:Nat) (o:Oper) (x:qA),0<k->body[k]? =some o->aZ[k]? =some x->nR o.op=false->EK o.op=false/\d∉x.slots/\d∉qz x.e.sl
 nd:((pq ents).map (·.1)).Nodup
 new:K5 (bld (fun _=>true) aZ rs) d=true
 vc:∀y,y∈aZ->VW y.e.guard y.e.vc
variable {body:List Oper} {m d U:Nat} {tk te:TI} {ents:List (Option (tk.ty.Data×te.ty.Data))}
theorem Pz.fact (h:Pz P C ops aZ rs ps body m d U tk te ents):∀k y,aZ[k]? =some y->∃o',ops.toList[k]? =some o'/\body[k]? =some o'/\yY C.inLit ops.toList aZ rs k o' y:=by
 intro k y hk;have e:=(jl.1 hk).1;have a:k<body.length:=(by have:=h.len;omega);have c:body[k]? =some body[k]:=jp a;obtain⟨f,b⟩:=h.all k _ c;have:=b.get;rw[hk] at this;simp at this;subst this;exact⟨_,h.bd k _ c,c,b⟩
theorem Pz.fact' (h:Pz P C ops aZ rs ps body m d U tk te ents):∀k y,aZ[k]? =some y->∃o',ops.toList[k]? =some o'/\yY C.inLit ops.toList aZ rs k o' y:=fun k y hk=>
 let ⟨o',h1,_,h2⟩:=h.fact k y hk;⟨o',h1,h2⟩
theorem Pz.behind (h:Pz P C ops aZ rs ps body m d U tk te ents) {k:Nat} {y:tk.ty.Data×te.ty.Data} (hk:ents[k]? =some (some y)):∃p,ps[k]? =some p/\0∈p:=by
 have j:k<body.length:=(by have:=(jl.1 hk).1;have:=h.elen;omega);have i:body[k]? =some body[k]:=jp j;obtain⟨B,g,e2⟩:=h.ent k _ i;rw[hk] at g;simp at g;subst g;obtain⟨A,x,a,n,r,_⟩:=EW e2;obtain⟨w,c⟩:=h.all k _ i;obtain⟨o0,f,o,q,z⟩:=h.o0;obtain⟨x0,b⟩:=h.all 0 _ f;have s:0<k:=by
  rcases zP k with e|e;subst e;rw[i] at f;simp at f;rw[f,o] at a;cases a;exact e
 obtain⟨p,u,v⟩:=gY _ _ _ _ h.ord k w c.get;refine⟨p,u,?_⟩;rcases v 0 x0 (by omega) b.get with l|l;exfalso;obtain⟨⟨sv,t⟩,_⟩:=dh b.eff;refine l.s1 d (by rw[t];exact iX.2 q) ?_;rw[c.slots];unfold wA;refine jh _ ?_;rw[a];simp[Op.operands,NJ,FW];exact l
theorem Pz.listed0 (h:Pz P C ops aZ rs ps body m d U tk te ents) {D:Nat->Bool} (g:Clo ops D) {k:Nat} {y:tk.ty.Data×te.ty.Data} (hk:ents[k]? =some (some y)) (i:∀o,ops.toList[k]? =some o->∀e,e∈o.after.toList->Region.binds .any e=true->D e.on=true):D 0=true:=by
 obtain⟨p,c,f⟩:=h.behind hk;have a:k<body.length:=(by have:=(jl.1 hk).1;have:=h.elen;omega);have b:=h.bd k _ (jp a);exact gM h.pre g (k+1) k (by omega) _ p b (i _ b) c 0 f
theorem Iz {α β:Type} {l:List (α×β)} (h:(l.map (·.1)).Nodup):l.Nodup:=by
 unfold List.Nodup at h⊢;rw[zU] at h;exact h.imp (fun a e=>a (by rw[e]))
theorem Bd {n m:Nat} {a:Array Bool} (c:∀k,k<n->a.getD k false=true) (d:∀k,a.getD k false=true->k<n):cnt (n+m) a=m:=by
 unfold cnt;rw[List.range_add,zR];have b:(List.range n).countP (fun k=> !(a.getD k false))=0:=zN.2 (fun k hk=>by simp[c k (by simpa using hk)]);have e2:((List.range m).map (n+·)).countP (fun k=> !(a.getD k false))=((List.range m).map (n+·)).length:=List.countP_eq_length.2 (fun k hk=>by
  obtain⟨j,_,rfl⟩:=jT.1 hk;cases e:a.getD (n+j) false with
  |false=>rfl
  |true=>have:=d _ e;omega)
 rw[b,e2];simp
theorem Pz.finish (h:Pz P C ops aZ rs ps body m d U tk te ents) {c:Array Bool} {a:Act} {w:World} (x:∀k,k<body.length->c.getD k false=true) (I:jca P B C.n ops d tk.ty te.ty ents aZ rs (fun k=>c.getD k false) a w):
 ∃l,l.Perm (pq ents)/\Inv P B C.n ops (VI d tk.ty te.ty l (bld (fun _=>true) aZ rs)) a w:=by
 obtain⟨B',q,D,I,Q⟩:=I;have e:bld (fun k=>c.getD k false) aZ rs=bld (fun _=>true) aZ rs:=by
  have e:∀{α:Type} (f:qA->List α),eL f (fun k=>c.getD k false) aZ 0=eL f (fun _=>true) aZ 0:=fun f=>pK f aZ 0 (fun k _ hk=>x k (by have:=h.len;simp at hk;omega))
  unfold bld;rw[e,e,e]
 rw[e] at I;obtain⟨o0,S,_⟩:=h.o0;have T:0<body.length:=(jl.1 S).1;cases q with
 |none=>exact absurd (x 0 T) (by rw[show c.getD 0 false=false from Q];simp)
 |some b=>
  obtain⟨l,es,clock,i⟩:=Q;obtain⟨Y,hn,ρ,J,A,V,t⟩:=I;have L:Sat P B ρ (bld (fun _=>true) aZ rs).st.obj w:=i7 D J;have K:=uh D t;have N:=bi h.new;have M:∀o C',ρ.blk o≠some (some (b,C')):=fun o C' X=>by
   rcases J.own o b C' X with x|x;have:=i.lt;omega;exact i.nb x
  have W:ρ.H b=none:=(J.oldH b i.lt i.nb).trans i.nH;obtain⟨F,s1,s2,s3,s4,s5⟩:=YO L N.obj N.noRef M (.inl i.ge) (.map false tk.ty te.ty l) (fun F z=>by
   simp only[wH,fzM];exact⟨b,0,es,clock,rfl,(J.old b i.lt i.nb).trans i.at_,by rw[z];exact i.rd.mono t.2,by rw[z];exact W⟩)
  refine⟨l,(List.perm_ext_iff_of_nodup (Iz i.nd) (Iz h.nd)).2 (fun y=> ?_),Y,hn,F,?_,?_,?_,K.mono s2 (fun r u=>by simp at u;subst u;exact N.lt)⟩;rw[i.mem,pP];constructor;rintro⟨k,_,hk⟩;exact⟨k,hk⟩;rintro⟨k,hk⟩;exact⟨k,x k (by have:=(jl.1 hk).1;have:=h.elen;omega),hk⟩;have:(VI d tk.ty te.ty l (bld (fun _=>true) aZ rs)).st.obj=sC (bld (fun _=>true) aZ rs).st.obj d (some (.map false tk.ty te.ty l)):=vw (bld (fun _=>true) aZ rs).st d _;rw[this];exact s1;intro s sv R;by_cases e:s=d;subst e;have j:kN ((s,SV.mp s)::(bld (fun _=>true) aZ rs).st.sl) s=some sv:=R;rw[kX] at j;simp at j;subst j;have G:=A s (.lit (.map (some b))) (kX _ _ _);simp only[SV.den] at G⊢;intro p O;rw[s4] at O;simp at O;subst O;exact⟨_,_,rfl,G⟩;have j:kN ((d,SV.mp d)::(bld (fun _=>true) aZ rs).st.sl) s=some sv:=R;rw[kL (fun h=>e h.symm)] at j;refine SV.den_mono s2 _ _ (fun r u=>by simp at u;subst u;exact N.sl s sv (wO _ _ _ j)) (A s sv ?_);show kN ((d,_)::(bld (fun _=>true) aZ rs).st.sl) s=some sv;rw[kL (fun h=>e h.symm)];exact j;intro s g v E;obtain⟨j,G⟩:=V s g v E;exact⟨fun Z=>SV.den_mono s2 _ _ (fun r u=>by simp at u;subst u;exact N.gl s g v E) (j Z),G⟩
theorem sO {p q:Nat->Bool} {i:Nat} (b:p i=true) (c:q i=false) (h:∀y,y≠i->p y=q y):∀n,(List.range n).countP p=(List.range n).countP q+(if i<n then 1 else 0)
 |0=>rfl
 |n+1=>by
  have d:=sO b c h n
  rw[zq,zR,zR,List.countP_singleton,List.countP_singleton,d]
  by_cases e:n=i
  subst e
  rw[b,c]
  simp
  rw[h n e]
  by_cases a:i<n
  have:i<n+1:=by omega
  simp only[a,this,if_true];omega
  have:¬i<n+1:=by omega
  simp only[a,this,if_false];omega
theorem ui:∀(l:List Oper) {b:List Oper} {m:Nat},AH l=some (b,m)->∃f,l=b++f/\f.length=m
 |[],_,_,h=>by simp[AH] at h
 |o::r,b,m,h=>by
  simp only[AH] at h
  split at h
  rename_i d e c
  simp at h
  obtain⟨rfl,rfl⟩:=h
  obtain⟨f,a,e2⟩:=ui r c
  exact⟨f,by rw[a];rfl,e2⟩
  split at h
  simp at h
  obtain⟨rfl,rfl⟩:=h
  exact⟨r,rfl,rfl⟩
  cases h
theorem Gq {l body:List Oper} {d U m:Nat} (h:Ab l=some (d,U,body,m)):∃o b f,l=body++f/\body=o::b/\o.op= .makeMap U none/\o.dst=some d/\o.guard=none/\f.length=m:=by
 cases l with
 |nil=>simp[Ab] at h
 |cons o r=>
  simp only[Ab] at h
  split at h
  rename_i a e2 c e;simp at h;obtain⟨rfl,rfl,rfl,rfl⟩:=h;obtain⟨f,g,i⟩:=ui r e;exact⟨o,_,f,by rw[g];rfl,rfl,a,e2,c,i⟩;cases h
theorem jbR.step {B':wY} {kt vt:Ty} {en:List (Option (kt.Data×vt.Data))} {D D':Nat->Bool} {b:Nat} {l:List (kt.Data×vt.Data)} {es:Array MapEntry} {clock:Nat} (h:jbR B B' kt vt en D b l es clock) {i:Nat} (f:D' i=true) (d:∀k,k≠i->D' k=D k) (g:en[i]? =some none):jbR B B' kt vt en D' b l es clock:=by
 refine⟨?_,h.ge,h.lt,h.nb,h.nH,h.at_,h.rd,h.nd,fun y=> ?_⟩;by_cases e:0=i;rw[e];exact f;rw[d 0 e];exact h.d0;rw[h.mem];constructor;rintro⟨k,c,a⟩;have:k≠i:=fun e=>by subst e;rw[g] at a;simp at a
 exact⟨k,by rw[d k this];exact c,a⟩;rintro⟨k,c,a⟩;have:k≠i:=fun e=>by subst e;rw[g] at a;simp at a
 exact⟨k,by rw[<-d k this];exact c,a⟩
theorem Pz.go (h:Pz P C ops aZ rs ps body m d U tk te ents)
 (hQ:∀l a w f,l.Perm (pq ents)->f.size=ops.size->(∀k,k∈YC body.length↔f.getD k false=true)->Inv P B C.n ops (VI d tk.ty te.ty l (bld (fun _=>true) aZ rs)) a w->wpAny P .any ops Q m f a w):
 ∀(A:Nat) (f:Array Bool) (a:Act) (w:World),f.size=ops.size->cnt ops.size f=A->(∀k,f.getD k false=true->k<body.length)->Clo ops (fun k=>f.getD k false)->
  jca P B C.n ops d tk.ty te.ty ents aZ rs (fun k=>f.getD k false) a w->wpAny P .any ops Q A f a w:=by
 have fin:∀(f:Array Bool) (a:Act) (w:World),f.size=ops.size->(∀k,k<body.length->f.getD k false=true)->(∀k,f.getD k false=true->k<body.length)->
  jca P B C.n ops d tk.ty te.ty ents aZ rs (fun k=>f.getD k false) a w->wpAny P .any ops Q m f a w:=by
  intro f a w hs O h2 hI;obtain⟨l,p1,p2⟩:=h.finish O hI;exact hQ l a w f p1 hs (fun k=>by rw[Ag];exact⟨O k,h2 k⟩) p2
 intro A
 induction A with
 |zero=>
  intro f a w hs hc I E hI;have hl:∀k,k<ops.size->f.getD k false=true:=by
   intro k hk;cases hu:f.getD k false with
   |true=>rfl
   |false=>have:=zN.1 hc k (by simpa using hk);simp[hu] at this
  have O:∀k,k<body.length->f.getD k false=true:=fun k hk=>hl k (by have:=h.sz;omega)
  have e:=Bd (m:=m) O I;rw[<-h.sz,hc] at e;rw[e];exact fin f a w hs O I hI
 |succ A ih=>
  intro f a w hs hc I E hI;by_cases M:∀k,k<body.length->f.getD k false=true;have e:=Bd (m:=m) M I;rw[<-h.sz,hc] at e;rw[e];exact fin f a w hs M I hI;refine⟨fun hr=>absurd (fun k hk=>di h.pre hs hr (k+1) k (by omega) (by have:=h.sz;omega)) M,fun i hi=> ?_⟩;obtain⟨o,O,h2,h3⟩:=(aa hs).1 hi;have hlt:i<ops.size:=(by have:=(jl.1 O).1;simpa using this);obtain⟨_,hps2⟩:=yX _ _ _ h.pre;have hib:i<body.length:=by
   refine Classical.byContradiction fun hn=>M ?_
   obtain⟨p,N,_⟩:=hps2 i o O;simp only[zo,zB] at N;intro k hk;exact gM h.pre E (i+1) i (by omega) o p O h3 N k (h.tl i p (by omega) N k hk)
  have ho:body[i]? =some o:=by
   have e:=h.bd i _ (jp hib);rw[O] at e;simp at e;rw[e];exact jp hib
  obtain⟨x,W⟩:=h.all i o ho;have hspec:=gY _ _ _ _ h.ord;have hNT:∀(k:Nat) (y:qA),aZ[k]? =some y->(fun k=>f.getD k false) k≠decide (k<i)->NT rs.st (aX aZ) x y:=by
   intro k y hk hne;simp only at hne;obtain⟨o',F,_⟩:=h.fact' k y hk;by_cases hki:k<i;have hu:f.getD k false=false:=by cases hh:f.getD k false<;>simp_all
   obtain⟨p,N,e2⟩:=hspec i x W.get;rcases e2 k y (by omega) hk with h'|h';exact h'.symm;have:=gM h.pre E (i+1) i (by omega) o p O h3 N k h';rw[hu] at this;cases this;have hu:f.getD k false=true:=by cases hh:f.getD k false<;>simp_all
   have hne':k≠i:=fun e=>by subst e;rw[h2] at hu;cases hu
   obtain⟨p,N,e2⟩:=hspec k y hk;rcases e2 i x (by omega) W.get with h'|h';exact h';have:=gM h.pre E (k+1) k (by omega) o' p F (fun e he I=>E k o' F hu e he I) N i h';rw[h2] at this;cases this
  have L:∀k,(f.setIfInBounds i true).getD k false=if k=i then true else f.getD k false:=mc (by omega);have G:(f.setIfInBounds i true).getD i false=true:=(by simp only[L,if_true]);have t:∀k,k≠i->(f.setIfInBounds i true).getD k false=f.getD k false:=fun k hk=>by simp only[L,jc hk]
  have hcnt:cnt ops.size (f.setIfInBounds i true)=A:=by
   have:=sO (p:=fun k=> !(f.getD k false)) (q:=fun k=> !((f.setIfInBounds i true).getD k false)) (i:=i) (by simp[h2]) (by simp[L]) (fun y hy=>by simp only[L,jc hy]) ops.size;rw[jg hlt] at this;unfold cnt at hc⊢;omega
  have hb':∀k,(f.setIfInBounds i true).getD k false=true->k<body.length:=by
   intro k hk;by_cases e:k=i;rw[e];exact hib;rw[L,jc e] at hk;exact I k hk
  have X:Clo ops (fun k=>(f.setIfInBounds i true).getD k false):=by
   intro k o' F hk e he I;simp only at hk⊢;rw[L] at hk⊢
   split
   rfl;by_cases e':k=i;subst e';rw[O] at F;simp at F;subst F;exact h3 e he I;rw[jc e'] at hk;exact E k o' F hk e he I
  obtain⟨B',q,hch,hI,hq⟩:=hI;obtain⟨b1,b2,b3⟩:=YP (D:=fun k=>f.getD k false) (D':=fun k=>(f.setIfInBounds i true).getD k false) h.fact' W h2 G t hNT;obtain⟨heff,hcl⟩:=YM (D:=fun k=>f.getD k false) h.fact' W rfl hNT;have S:=Su (Sp (D:=fun k=>f.getD k false) h.fact' W hNT);obtain⟨ti,hmp⟩:=h.mp;unfold wpOp;have hoi:ops[i]? =some o:=(by simpa using O);rw[hoi];simp only;have fin2:(if Region.wanted o (yielded ops a.tmps) then o.wp P a w (wpAny P .any ops Q A (f.setIfInBounds i true)) Q else wpAny P .any ops Q A (f.setIfInBounds i true) (a.put o.dst undef) w):=by
   cases hk:nR o.op with
   |false=>
    obtain⟨y,N,e2⟩:=h.ent i o ho;have:=Lr e2 hk;subst this;by_cases hi0:i=0
    --the map is made
    subst hi0;obtain⟨o0,g1,g2,g3,g4⟩:=h.o0;rw[ho] at g1;simp at g1;subst g1;cases q with
    |some b=>obtain⟨l,es,clock,J⟩:=hq;have:f.getD 0 false=true:=J.d0;rw[h2] at this;cases this
    |none=>
     have hxe:x.e=⟨none,[],[],[(d,.any)],[],[],[]⟩:=by
      have this:=W.eff;unfold cU at this;rw[g4] at this;simp only at this;have e:∀R,cD C.inLit ops.toList o R []=some (.pure .any):=by
       intro R;unfold cD;rw[g2];simp only[kO];have N:C.inLit.lit=true:=rfl;have e2:C.inLit.mapT U=C.mapT U:=rfl;rw[N,e2,hmp]
      rw[e] at this;simp[Ia,g3,Out.pure,gg] at this;exact this.symm
     rw[hxe] at b1 b2 b3;obtain⟨hd,hn,ρ,V,hSl,hG,hPin⟩:=hI;have hw:Region.wanted o (yielded ops a.tmps)=true:=(by simp[Region.wanted,g4]);rw[jg hw];have hrun:(execOp a.eval o).run P w= .ok (.value (.map (some w.heap.size))) (w.alloc (.map #[] 0)):=(by simp[execOp,g2,Instr.makeMap]);unfold Oper.wp;rw[hrun];simp only[Oper.upon];have hsz:=(i7 hch V).size;have Y:d8 ρ.H (w.alloc (.map #[] 0)):=by
      refine⟨fun b c hbc=> ?_,V.good.2⟩;rw[heap_alloc_old w _ b (V.good.lt hbc)];exact V.good.1 b c hbc
     obtain⟨n1,n2,n3⟩:=ET (σ:=(lvO d none (bld (fun k=>f.getD k false) aZ rs)).st) (w':=w.alloc (.map #[] 0)) hch V hPin rfl rfl rfl (jk _) (by simp) Y (fun b I=>heap_alloc_old w _ b (by omega)) (fun o b C' I=>heap_alloc_old w _ b (gT V I).1);refine ih _ _ _ (by simpa using hs) hcnt hb' X ⟨_,some w.heap.size,n1,?_,[],#[],0,?_⟩;refine iY (nZ (C:=C) (ops:=ops) (o:=o) (rs:=bld (fun k=>f.getD k false) aZ rs) (e:=⟨none,[],[],[(d,.lit (.map (some w.heap.size)))],[],[],[]⟩) (ρ:=ρ) (ρ'':=ρ) (sv:= .lit (.map (some w.heap.size))) (gv:= .any) (v:= .map (some w.heap.size))
      hd hn hSl hG n3 n2 (Env.le.refl _ _) ⟨S.frame,S.gl,S.guard,fun d hd=>by simp at hd,fun hor=>by simp[iJ,g2] at hor⟩ S.frame (by simp[Ia,g3]) (fun _ _=>by simp[SV.den]) (fun x W=>by simp at W) (fun d g _ hg=>by rw[g4] at hg;cases hg)) (fun s=> ?_) (fun r=> ?_) (fun y hy=> ?_)
     show kN ((d,SV.lit (.map (some w.heap.size)))::(bld (fun k=>(f.setIfInBounds 0 true).getD k false) aZ rs).st.sl) s=kN ((d,SV.lit (.map (some w.heap.size)))::(bld (fun k=>f.getD k false) aZ rs).st.sl) s;by_cases e:d=s;subst e;rw[kX,kX];rw[kL e,kL e,b1 s];show kN ((d,SV.any)::(bld (fun k=>f.getD k false) aZ rs).st.sl) s=_;rw[kL e];exact b2 r;exact b3 y hy;refine⟨G,hsz,by show w.heap.size<(w.alloc (.map #[] 0)).heap.size;simp,fun J=> ?_,?_,yW w _,⟨rfl,jk _,fun i e he=>by simp at he,fun i j e e' he=>by simp at he,fun i x W=>by simp at W⟩,by simp,fun y=>⟨fun hy=>by simp at hy,fun hy=> ?_⟩⟩;obtain⟨o',C',_,h6⟩:=(wD _).1 J;have:=(gT V h6).1;omega;show ρ.H w.heap.size=none;cases hc:ρ.H w.heap.size with
     |none=>rfl
     |some c=>have:=V.good.lt hc;omega
     obtain⟨k,k1,Z⟩:=hy;exfalso;by_cases e:k=0;subst e;rw[N] at Z;simp at Z;have k1:f.getD k false=true:=(by rw[<-t k e];exact k1);have:f.getD 0 false=true:=h.listed0 E Z (fun o' F e he I=>E k o' F k1 e he I);rw[h2] at this;cases this
    obtain⟨nm,ns,nk⟩:=h.aside i o x (by omega) ho W.get hk;rw[Ss hk nm] at heff;refine gA (K:=wpAny P .any ops Q A (f.setIfInBounds i true)) (Q:=Q) h.ok heff (V1 (d:=d) (q:=q) S) (jaP (A7 hcl) (DJ (by rw[<-W.slots];exact ns))) hI (h.vc x (zw W.get)) (fun a' w' hI' _=>
     ih _ a' w' (by simpa using hs) hcnt hb' X ⟨B',q,hch,iY hI' (fun s=> ?_) (fun r=> ?_) (fun y hy=> ?_),?_⟩)
    cases q with
    |none=>exact b1 s
    |some b=>
     show kN ((d,SV.lit (.map (some b)))::(bld (fun k=>(f.setIfInBounds i true).getD k false) aZ rs).st.sl) s=kN (x.e.sl++(d,SV.lit (.map (some b)))::(bld (fun k=>f.getD k false) aZ rs).st.sl) s;by_cases e:d=s;subst e;rw[kX,kw,kH _ _ nk,kX];have h6:=b1 s;have h7:(wI x.e (bld (fun k=>f.getD k false) aZ rs)).st.sl=x.e.sl++(bld (fun k=>f.getD k false) aZ rs).st.sl:=rfl;rw[h7,kw] at h6;rw[kL e,kw,kL e];exact h6
    cases q<;>exact b2 r
    cases q<;>exact b3 y hy
    cases q with
    |none=>show(f.setIfInBounds i true).getD 0 false=false;rw[t 0 (fun e=>hi0 e.symm)];exact hq
    |some b=>
     obtain⟨l,es,clock,J⟩:=hq;exact⟨l,es,clock,J.step G t N⟩
   |true=>
    obtain⟨y,N,e2⟩:=h.ent i o ho;obtain⟨z,rfl⟩:=Sw e2 hk;have hsh:share (wA ops.toList o) (bld (fun k=>f.getD k false) aZ rs)=share (wA ops.toList o) (bld (fun k=>decide (k<i)) aZ rs):=So (D:=fun k=>f.getD k false) h.fact' W hNT (fun k y k1 Z r k3 k4=>by
     have:=((hNT k y k1 Z).o2 r k3 k4).mv;rw[W.mv] at this;unfold jaJ at this
     split at this
     rename_i T _;rw[T] at hk;simp[nR] at hk;rename_i T _;rw[T] at hk;simp[nR] at hk;rename_i T _;rw[T] at hk;simp[nR] at hk;cases this)
    rw[<-hsh] at e2;obtain⟨ix,xx,T,hdst,hgd,u1,u2,t1,t2⟩:=EW e2;cases q with
    |none=>
     have:f.getD 0 false=true:=h.listed0 E N (fun o' F e he I=>by rw[O] at F;simp at F;subst F;exact h3 e he I);rw[show f.getD 0 false=false from hq] at this;cases this
    |some b=>
     obtain⟨l,es,clock,J⟩:=hq;have hxe:x.e=⟨none,[],[],[],[],[],[]⟩:=by
      have this:=W.eff;unfold cU at this;rw[hgd] at this;simp only at this;have e:∀R,cD C.inLit ops.toList o R []=some (.pure .any):=by
       intro R;unfold cD;rw[T];rfl
      rw[e] at this;simp[Ia,hdst,Out.pure,gg] at this;exact this.symm
     rw[hxe] at b1 b2 b3;obtain⟨hd,hn,ρ,V,hSl,hG,hPin⟩:=hI;have hSR:=NX (σ:=(bld (fun k=>f.getD k false) aZ rs).st) V (share (wA ops.toList o) (bld (fun k=>f.getD k false) aZ rs)).1;have eo:(share (wA ops.toList o) (bld (fun k=>f.getD k false) aZ rs)).2.st.obj=Sk (share (wA ops.toList o) (bld (fun k=>f.getD k false) aZ rs)).1 (bld (fun k=>f.getD k false) aZ rs).st.obj:=funext fun o=>by rw[dg];rfl
     rw[<-eo] at hSR;have hkr:tk.ty.rv ρ.H (a.eval ix) z.1:=kP hSR (fz:=[]) (fun o=>⟨.inl rfl,fun ho=>by simp at ho⟩) t1 (fun o ho=>ho) (SV.den_mono (Ad _ _) _ _ (fun r hr=>by simp at hr) (XU hSl u1));have hvr:te.ty.rv ρ.H (a.eval xx) z.2:=kP hSR (fz:=[]) (fun o=>⟨.inl rfl,fun ho=>by simp at ho⟩) t2 (fun o ho=>ho) (SV.den_mono (Ad _ _) _ _ (fun r hr=>by simp at hr) (XU hSl u2));have hmv:a.eval (.tmp d)= .map (some b):=hSl d (.lit (.map (some b))) (kX _ _ _);have hwb:w.heap[b]? =some (.map es clock):=(V.old b J.lt J.nb).trans J.at_;have hblt:b<w.heap.size:=(jt.1 hwb).1;have hH:ρ.H b=none:=(V.oldH b J.lt J.nb).trans J.nH;have hrd:=J.rd.mono hPin.2;have hnew:z.1∉l.map (·.1):=by
      intro hz;obtain⟨y,y1,y2⟩:=jT.1 hz;obtain⟨k,k1,Z⟩:=(J.mem y).1 y1;have hne:k≠i:=fun e=>by subst e;rw[show f.getD k false=true from k1] at h2;cases h2
      exact Gp ents h.nd k i y z Z N hne y2
     have hrun:=Py (x:=xx) h.ok hmp hwb hrd T hmv hkr hnew;have hw:Region.wanted o (yielded ops a.tmps)=true:=(by simp[Region.wanted,hgd]);rw[jg hw];unfold Oper.wp;rw[hrun];simp only[Oper.upon];rw[hdst];have hoth:∀(y:Obj) (k:Nat),k≠b->(w.heap.setIfInBounds b y)[k]? =w.heap[k]? :=fun y k hk=>by rw[jG,jc (fun h=>hk h.symm)]
     have hnb:∀o k C',ρ.blk o=some (some (k,C'))->k≠b:=fun o k C' I e=>by
      subst e;rcases V.own o k C' I with O|O;have:=J.lt;omega;exact J.nb O
     have Y:∀y,d8 ρ.H {w with heap:=w.heap.setIfInBounds b y}:=fun y=>by
      refine⟨fun k c hkc=> ?_,V.good.2⟩;have:k≠b:=fun e=>by subst e;rw[hH] at hkc;cases hkc
      show c.at (w.heap.setIfInBounds b y)[k]?;rw[hoth y k this];exact V.good.1 k c hkc
     obtain⟨n1,n2,n3⟩:=ET (σ:=(bld (fun k=>f.getD k false) aZ rs).st) (w':={w with heap:=w.heap.setIfInBounds b (.map (es.push {key:=a.eval ix,val:=a.eval xx,born:=clock}) (clock+1))}) hch V hPin rfl rfl rfl (jk _) (by simp) (Y _)
      (fun k hk=>hoth _ k (by have:=J.ge;omega)) (fun o k C' I=>hoth _ k (hnb o k C' I))
     refine ih _ _ _ (by simpa using hs) hcnt hb' X ⟨_,some b,n1,iY (r:=lvO d (some b) (bld (fun k=>f.getD k false) aZ rs)) ⟨hd,hn,ρ,n2,hSl,hG,n3⟩ (fun s=> ?_) (fun r=>b2 r) (fun y hy=>b3 y hy),l++[z],es.push {key:=a.eval ix,val:=a.eval xx,born:=clock},clock+1,?_⟩;show kN ((d,SV.lit (.map (some b)))::(bld (fun k=>(f.setIfInBounds i true).getD k false) aZ rs).st.sl) s=kN ((d,SV.lit (.map (some b)))::(bld (fun k=>f.getD k false) aZ rs).st.sl) s;by_cases e:d=s;subst e;rw[kX,kX];rw[kL e,kL e];exact b1 s;have hi0:(0:Nat)≠i:=fun e=>by have:f.getD 0 false=true:=J.d0;rw[e,h2] at this;cases this
     refine⟨by show(f.setIfInBounds i true).getD 0 false=true;rw[t 0 hi0];exact J.d0,J.ge,by show b<(w.heap.setIfInBounds b _).size;simpa using hblt,fun hmm=> ?_,hH,?_,Sc hrd hkr hvr,?_,fun y=> ?_⟩;obtain⟨o',C',_,h6⟩:=(wD _).1 hmm;exact hnb o' b C' h6 rfl;show(w.heap.setIfInBounds b _)[b]? =_;simp[hblt];rw[zA,zD];refine⟨J.nd,by simp,fun u hu v hv=> ?_⟩;simp at hv;subst hv;exact fun e=>hnew (e▸hu)
     rw[jr,J.mem,List.mem_singleton];constructor;rintro(⟨k,k1,Z⟩|rfl);by_cases e:k=i;exact⟨i,G,e▸Z⟩;exact⟨k,by show(f.setIfInBounds i true).getD k false=true;rw[t k e];exact k1,Z⟩;exact⟨i,G,N⟩;rintro⟨k,k1,Z⟩;by_cases e:k=i;subst e;rw[N] at Z;simp at Z;exact .inr Z.symm;exact .inl ⟨k,by show f.getD k false=true;rw[<-t k e];exact k1,Z⟩
  split
  rename_i hw;rw[jg hw] at fin2;exact .inl fin2;rename_i hw;rw[jc hw] at fin2;exact fin2
end
end Go.X
namespace Go.X
open Go.RowKit (Below)
section
variable {P:Program} {B:wY} {C:Ctx} {ops:Array Oper} {Q:Exit->Act->World->Prop}
theorem PA {o:Oper} {rs:RS} {a:Act} {w:World} {v:SV} {u:Value} {k:RS->Prop} (h:Vv C ops.toList o v rs k) (E:Inv P B C.n ops rs a w)
 (I:∀ρ,px P ρ rs.st.sl a->SV.den P ρ v u):∃f,k f/\(∃p,f.st.sl=p++rs.st.sl)/\f.st.ob=rs.st.ob/\Inv P B C.n ops f (a.put o.dst u) w:=by
 unfold Vv at h
 split at h
 case h_2=>exact h.elim
 rename_i r K A;obtain⟨G,H,ρ,F,l,D,i⟩:=E;have q:∀d,o.dst=some d->d<C.n:=fun d c=>by
  unfold nN at r;rw[c] at r;exact jy r
 have m:Gi C ops {o with guard:=none,op:= .move (.tmp 0)} rs ⟨none,[],[],Ia o v,[],[],[]⟩:=
  ⟨q,fun d c s j b x z=>by rw[A] at z;simp at z,fun d c j b t=>by simp at t,fun d c=>by simp at c,fun y=>by simp[iJ] at y⟩
 refine⟨_,h,⟨_,rfl⟩,rfl,?_⟩;exact nZ (C:=C) (ops:=ops) (o:={o with guard:=none,op:= .move (.tmp 0)}) (rs:=rs) (e:=⟨none,[],[],Ia o v,[],[],[]⟩) (ρ:=ρ) (ρ'':=ρ) (sv:=v) (gv:= .any) (v:=u) G H l D i F (Env.le.refl _ _) m q rfl (fun _ _=>I ρ l) (fun x J=>by simp at J) (fun d g _ t=>by simp at t)
theorem Ls (j:C.ok P) {o:Oper} {rs:RS} {a:Act} {w:World} {k:RS->Prop} (h:K9 C ops.toList {o with guard:=none} rs k) (l:Inv P B C.n ops rs a w) {K:Act->World->Prop}
 (m:∀b d w',k b->(∃p,b.st.sl=p++rs.st.sl)->(∃p,b.st.ob=p++rs.st.ob)->Inv P B C.n ops b d w'->K d w'):o.wp P a w K Q:=by
 unfold K9 at h
 split at h
 .exact h.elim
 rename_i e q
 split at h
 case h_2=>exact h.elim
 rename_i r;obtain⟨g,i⟩:=n4 h;have:=gA (K:=K) (Q:=Q) j q (gz r) (Fit.refl P B rs e) l g (fun d w' f c=>m _ d w' (i c) ⟨_,rfl⟩ ⟨_,rfl⟩ f);rw[jg (by simp[Region.wanted])] at this;cases o;exact this
theorem EX (V:C.ok P) {σ0:St} {k:RS->Prop} (W:∀rs a w,(∃p,rs.st.sl=p++σ0.sl)->(∃p,rs.st.ob=p++σ0.ob)->k rs->Inv P B C.n ops rs a w->Q .normal a w):
 ∀(l:List Oper) (i:List ((Nat×Bool)×Bool)) (rs:RS) (a:Act) (w:World),(∃p,rs.st.sl=p++σ0.sl)->(∃p,rs.st.ob=p++σ0.ob)->KT C ops.toList l i rs k->Inv P B C.n ops rs a w->wpList P ops Q l a w
 |[],i,rs,a,w,L,e2,h,G=>W rs a w L e2 h G
 |o::r,i,rs,a,w,L,e2,h,G=>by
  have D:∀{α:Type} {x y z:List α},(∃p,y=p++x)->(∃p,z=p++y)->∃p,z=p++x:=by
   rintro α x y z ⟨p,rfl⟩ ⟨q,rfl⟩;exact⟨q++p,by rw[jL]⟩
  have Z:=fun i e M w'=>EX V W r i e M w'
  have step:∀d,K9 C ops.toList {o with guard:=none} rs (fun e=>KT C ops.toList r d e k)->o.wp P a w (wpList P ops Q r) Q:=fun d K=>
   Ls V K G (fun e M w' hk s1 s2 O=>Z d e M w' (D L s1) (D e2 s2) hk O)
  have put:∀d v u,Vv C ops.toList o v rs (fun e=>KT C ops.toList r d e k)->(∀ρ,px P ρ rs.st.sl a->SV.den P ρ v u)->wpList P ops Q r (a.put o.dst u) w:=fun d v u F hu=>by
   obtain⟨e,k1,k2,k3,k4⟩:=PA F G hu;exact Z d e _ w (D L k2) (by rw[k3];exact e2) k1 k4
  unfold wpList;simp only[KT] at h
  split at h
  .rename_i I;have S:Region.wanted o (yielded ops a.tmps)=true:=(by simp[Region.wanted,I]);rw[jg S];refine .inl ?_
   split at h
   .rename_i c x y F
    split at h
    case h_2=>exact h.elim
    rename_i β T;have E:o.op= .pick c x y:=by
     unfold RZ at F
     split at F
     .rename_i E;simp at F;obtain⟨rfl,rfl,rfl⟩:=F;exact E
     .cases F
    obtain⟨_,_,ρ,_,m,_,_⟩:=id G;have X:=k8 (P:=P) (a:=a) m c;rw[T] at X;have R:a.eval c= .bool β:=by
     have N:Ty.bool.rv ρ.H (a.eval c) β:=(by simpa only[SV.den] using X);have h2:=wE (t:= .bool) rfl N;have h3:some (a.eval c)=some (.bool β):=h2;simpa using h3
    have J:(execOp a.eval o).run P w= .ok (.value (if β=true then a.eval x else a.eval y)) w:=by
     simp only[execOp,E,R];cases β<;>simp[asBool]
    unfold Oper.wp;rw[J];simp only[Oper.upon]
    split at h
    .obtain⟨rfl,h⟩:=h;exact put i _ _ h (fun ρ m=>k8 (P:=P) (a:=a) m x)
    .obtain⟨rfl,h⟩:=h;exact put i _ _ h (fun ρ m=>k8 (P:=P) (a:=a) m y)
    .cases β with
     |true=>exact put i _ _ (h.1 rfl) (fun ρ m=>k8 (P:=P) (a:=a) m x)
     |false=>exact put i _ _ (h.2 rfl) (fun ρ m=>k8 (P:=P) (a:=a) m y)
   .have:{o with guard:=none}=o:=(by cases o;simp only at I;subst I;rfl);exact step i (by rw[this];exact h)
  .rename_i g I;have A:∀γ,na ops.toList rs ops.toList.length g=some γ->((Region.wanted o (yielded ops a.tmps)=true)↔γ=true):=by
    intro γ f;obtain⟨_,_,ρ,_,m,hG,_⟩:=id G;have N:=ce m hG _ _ _ f;rw[<-N];obtain⟨j,b⟩:=g;simp[Region.wanted,I,sD]
   have yes:∀{γ:Bool},na ops.toList rs ops.toList.length g=some γ->γ=true->∀d,K9 C ops.toList {o with guard:=none} rs (fun e=>KT C ops.toList r d e k)->(if Region.wanted o (yielded ops a.tmps) then o.wp P a w (wpList P ops Q r) Q\/(o.asks P a w/\LetsOut Q) else wpList P ops Q r (a.put o.dst undef) w):=fun f ht d K=>by
    rw[jg ((A _ f).2 ht)];exact .inl (step d K)
   have no:∀{γ:Bool},na ops.toList rs ops.toList.length g=some γ->γ=false->∀d,Vv C ops.toList o .any rs (fun e=>KT C ops.toList r d e k)->(if Region.wanted o (yielded ops a.tmps) then o.wp P a w (wpList P ops Q r) Q\/(o.asks P a w/\LetsOut Q) else wpList P ops Q r (a.put o.dst undef) w):=fun f Y d K=>by
    rw[jc (fun S=>by rw[(A _ f).1 S] at Y;cases Y)];exact put d _ _ K (fun ρ _=>vz _)
   split at h
   .rename_i γ f s;exact yes f h.1 i h.2
   .rename_i γ f s;exact no f h.1 _ h.2
   .rename_i γ f s;cases γ with
    |true=>exact yes f rfl _ (h.1 rfl)
    |false=>exact no f rfl _ (h.2 rfl)
   .exact h.elim
end
end Go.X
namespace Go.X
open Go.RowKit (Below)
section
variable {P:Program} {B:wY} {C:Ctx} {ops ops':Array Oper} {Q:Exit->Act->World->Prop} {aZ:List qA} {rs:RS} {ps:List (List Nat)}
theorem PB (hC:C.ok P) (hsz:ops'.toList.length=ops.toList.length) (q:∀k o',ops'.toList[k]? =some o'->∃y,yY C ops'.toList aZ rs k o' y) (hlen:aZ.length=ops'.toList.length) (A:q6 ops.toList []=some ps) {nb:List Nat} (hnb:nb=aX aZ) (hord:cE rs.st nb aZ aZ ps 0=true)
 (hvc:∀y,y∈aZ->VW y.e.guard y.e.vc) (hQ:∀a w,Inv P B C.n ops' (bld (fun _=>true) aZ rs) a w->Q .normal a w)
 (hsim:∀(i:Nat) (o o':Oper) (D:Nat->Bool) (a:Act) (w:World) (K:Act->World->Prop),ops.toList[i]? =some o->ops'.toList[i]? =some o'->(∀p,ps[i]? =some p->∀j,j∈p->D j=true)->Inv P B C.n ops' (bld D aZ rs) a w->
  (if Region.wanted o' (yielded ops' a.tmps) then o'.wp P a w K Q else K (a.put o'.dst undef) w)->wpOp P ops Q i K a w):
 ∀(c:Nat) (b:Array Bool) (a:Act) (w:World),b.size=ops.size->cnt ops.size b<=c->Clo ops (fun k=>b.getD k false)->Inv P B C.n ops' (bld (fun k=>b.getD k false) aZ rs) a w->
  wpAny P .any ops Q c b a w:=by
 have hf:∀k y,aZ[k]? =some y->∃o',ops'.toList[k]? =some o'/\yY C ops'.toList aZ rs k o' y:=by
  intro k y hk;have M:=(jl.1 hk).1;have E:k<ops'.toList.length:=(by omega);obtain⟨y',u⟩:=q k ops'.toList[k] (jp E);have:=u.get;rw[hk] at this;simp at this;subst this;exact⟨_,jp E,u⟩
 have T:∀(b:Array Bool) (a:Act) (w:World),(∀k,k<ops.size->b.getD k false=true)->Inv P B C.n ops' (bld (fun k=>b.getD k false) aZ rs) a w->Q .normal a w:=by
  intro b a w hl J;refine hQ a w ?_;have e:∀{α:Type} (f:qA->List α),eL f (fun k=>b.getD k false) aZ 0=eL f (fun _=>true) aZ 0:=fun f=>pK f aZ 0 (fun k _ hk=>hl k (by simp at hlen hsz;omega))
  have:bld (fun k=>b.getD k false) aZ rs=bld (fun _=>true) aZ rs:=(by unfold bld;rw[e,e,e]);rw[<-this];exact J
 intro c
 induction c with
 |zero=>
  intro b a w hs hc _ J;have hl:∀k,k<ops.size->b.getD k false=true:=by
   intro k hk;cases O:b.getD k false with
   |true=>rfl
   |false=>
    have h0:cnt ops.size b=0:=(by omega);have:=zN.1 h0 k (by simpa using hk);simp[O] at this
  refine⟨?_,T b a w hl J⟩;rw[List.eq_nil_iff_forall_not_mem];intro i hi;obtain⟨o,G,H,_⟩:=(aa hs).1 hi;have:=(jl.1 G).1;rw[hl i (by simpa using this)] at H;cases H
 |succ c ih=>
  intro b a w hs hc d J;refine⟨fun hr=>T b a w (fun k hk=>di A hs hr (k+1) k (by omega) hk) J,fun i hi=> ?_⟩;obtain⟨o,G,H,h3⟩:=(aa hs).1 hi;have M:i<ops.size:=(by have:=(jl.1 G).1;simpa using this);have hlt':i<ops'.toList.length:=(by rw[hsz];simpa using M);have V:ops'.toList[i]? =some ops'.toList[i]:=jp hlt';obtain⟨x,F⟩:=q i _ V;have t:=gY _ _ _ _ hord;have opOf:∀(k:Nat) (y:qA),aZ[k]? =some y->∃o',ops.toList[k]? =some o':=by
   intro k y hk;have:=(jl.1 hk).1;exact⟨_,jp (by omega)⟩
  have v:∀(k:Nat) (y:qA),aZ[k]? =some y->(fun k=>b.getD k false) k≠decide (k<i)->NT rs.st nb x y:=by
   intro k y hk hne;simp only at hne;obtain⟨o',g⟩:=opOf k y hk;by_cases hki:k<i
   .have O:b.getD k false=false:=by cases hh:b.getD k false<;>simp_all
    obtain⟨p,S,e2⟩:=t i x F.get;rcases e2 k y (by omega) hk with h|h
    .exact h.symm
    .have:=gM A d (i+1) i (by omega) o p G h3 S k h;rw[O] at this;cases this
   .have O:b.getD k false=true:=by cases hh:b.getD k false<;>simp_all
    have hne':k≠i:=fun e=>by subst e;rw[H] at O;cases O
    obtain⟨p,S,e2⟩:=t k y hk;rcases e2 i x (by omega) F.get with h|h
    .exact h
    .have:=gM A d (k+1) k (by omega) o' p g (fun e he hb=>d k o' g O e he hb) S i h;rw[H] at this;cases this
  obtain⟨Y,hcl⟩:=YM (D:=fun k=>b.getD k false) hf F hnb v;have Z:=Sp (D:=fun k=>b.getD k false) hf F v;have m:∀k,(b.setIfInBounds i true).getD k false=if k=i then true else b.getD k false:=mc (by omega);have L:Clo ops (fun k=>(b.setIfInBounds i true).getD k false):=by
   intro k o' g hk e he hb;simp only at hk⊢;rw[m] at hk⊢
   split
   .rfl
   .by_cases e':k=i
    .subst e';rw[G] at g;simp at g;subst g;exact h3 e he hb
    .rw[jc e'] at hk;exact d k o' g hk e he hb
  have N:=gA (K:=wpAny P .any ops Q c (b.setIfInBounds i true)) (Q:=Q) hC Y Z (A7 hcl) J (hvc x (zw F.get)) (fun a' w' hI' _=>by
   refine ih _ a' w' (by simpa using hs) (by have:=Sq (n:=ops.size) (by omega) M H;omega) L ?_;have ins:∀{α:Type} (f:qA->List (Nat×α)) (s:Nat),(∀(k:Nat) (y:qA),i<k->aZ[k]? =some y->b.getD k false=true->kN (f x) s≠none->kN (f y) s=none)->
    kN (eL f (fun k=>(b.setIfInBounds i true).getD k false) aZ 0) s=kN (f x++eL f (fun k=>b.getD k false) aZ 0) s:=by
    intro α f s hh;refine eR (i:=i) H (by show(b.setIfInBounds i true).getD i false=true;rw[m,jg rfl]) (fun k hk=>by show(b.setIfInBounds i true).getD k false=_;rw[m,jc hk]) aZ 0 i (by omega) F.get (fun k y h4 I W X=> ?_);exact hh k y h4 I (by simpa using W) X
   refine iY hI' (fun s=> ?_) (fun r=> ?_) (fun y R=> ?_)
   .simp only[bld,wI];rw[kw,ins (fun x=>x.e.sl) s (fun k y h4 I W X=>kH _ _ (fun hk=>(v k y I (by show b.getD k false≠_;rw[W];simp;omega)).sl s (gZ X) hk)),<-kw,jL]
   .have S:(wI x.e (bld (fun k=>b.getD k false) aZ rs)).st.obj r=(match kN (x.e.ob++eL (fun x=>x.e.ob) (fun k=>b.getD k false) aZ 0) r with|some y=>y|none=>rs.st.obj r):=by
     simp only[St.obj,wI,bld];rw[<-jL,kw]
     all_goals (cases kN (x.e.ob++eL (fun x=>x.e.ob) (fun k=>b.getD k false) aZ 0) r<;>rfl)
    have hins:=ins (fun x=>x.e.ob) r (fun k y h4 I W X=>kH _ _ (fun hk=>by
     obtain⟨y',u⟩:=q k _ (jp (l:=ops'.toList) (i:=k) (by have:=(jl.1 I).1;omega));have:=u.get;rw[I] at this;simp at this;subst this;exact(v k y I (by show b.getD k false≠_;rw[W];simp;omega)).ws r (by rw[F.ws];exact jh _ (gZ X)) (by rw[u.ws];exact jh _ hk)))
    rw[eV,S,hins]
    all_goals (cases kN (x.e.ob++eL (fun x=>x.e.ob) (fun k=>b.getD k false) aZ 0) r<;>rfl)
   .simp only[bld,wI] at R⊢;rcases jr.1 R with R|R
    .obtain⟨k,z,g1,g2,g3⟩:=(gX _ _ _ _ _).1 R;simp only[zB] at g2;rw[m] at g2;by_cases e:k=i
     .subst e;have:=F.get;rw[g1] at this;simp at this;subst this;exact jh _ g3
     .rw[jc e] at g2;exact je _ (jh _ ((gX _ _ _ _ _).2 ⟨k,z,g1,by simpa using g2,g3⟩))
    .exact je _ (je _ R))
  exact hsim i o _ (fun k=>b.getD k false) a w _ G V (fun p hp j hj=>gM A d (i+1) i (by omega) o p G h3 hp j hj) J N
theorem EY (g:Nat×Bool) (d a:Nat) (γ:Bool):∀(l:List Oper) (i:Nat),(cY g d a γ l)[i]? =(l[i]?).map (Lb g d a γ)
 |[],i=>by simp[cY]
 |o::r,0=>by simp[cY]
 |o::r,i+1=>by simpa[cY] using EY g d a γ r i
theorem EZ (g:Nat×Bool) (d a:Nat) (γ:Bool):∀(l:List Oper),(cY g d a γ l).length=l.length
 |[]=>rfl
 |o::r=>by simp[cY,EZ g d a γ r]
theorem uj {g:Nat×Bool} {d:Nat}:∀(l:List Oper) (ps:List (List Nat)),aY g d l ps=true->∀(i:Nat) (o:Oper) (p:List Nat),l[i]? =some o->ps[i]? =some p->
 (∀h,o.guard=some h->h=g/\g.1∈p)/\(o.guard=none->∀c x y,o.op= .pick (.tmp c) x y->c=d->g.1∈p)
 |[],_,_,i,o,p,a,_=>by simp at a
 |_::_,[],h,i,o,p,_,h2=>by simp at h2
 |o'::r,p'::ps,h,i,o,p,a,h2=>by
  have b:aY g d r ps=true:=by
   simp only[aY] at h
   split at h
   split at h
   exact h;cases h
   split at h
   split at h
   split at h
   exact h;cases h;exact h;exact h
  cases i with
  |succ i=>exact uj r ps b i o p (by simpa using a) (by simpa using h2)
  |zero=>
   simp at a h2;subst a;subst h2;simp only[aY] at h;constructor;intro k f;rw[f] at h;simp only at h
   split at h
   rename_i m e2;exact⟨(NY m).symm,(qJ _ _).1 e2⟩;cases h;intro k c x y j n;rw[k,j] at h;simp only at h;subst n;rw[show Nat.beq c c=true from Nat.beq_refl c] at h;simp only at h
   split at h
   rename_i e;exact(qJ _ _).1 e;cases h
theorem E0 {d:Nat}:∀(aZ:List qA),VJ d aZ=true->∀(k:Nat) (y:qA),aZ[k]? =some y->d∉qz y.e.sl
 |[],_,k,y,h=>by simp at h
 |x::r,h,k,y,hk=>by
  simp only[VJ] at h
  split at h
  cases h
  rename_i a
  cases k with
  |zero=>simp at hk;subst hk;exact vJ a
  |succ k=>exact E0 r h k y (by simpa using hk)
theorem Be {d:Nat} {v:SV}:∀(aZ:List qA) (j:Nat),pv d aZ j=some v->(∃x,aZ[j]? =some x/\kN x.e.sl d=some v)/\∀(k:Nat) (y:qA),aZ[k]? =some y->k≠j->d∉qz y.e.sl
 |[],j,h=>by cases j<;>simp[pv] at h
 |x::r,0,h=>by
  simp only[pv] at h
  split at h
  rename_i i
  refine⟨⟨x,by simp,h⟩,fun k y hk a=> ?_⟩
  cases k with
  |zero=>exact absurd rfl a
  |succ k=>exact E0 r i k y (by simpa using hk)
  cases h
 |x::r,j+1,h=>by
  simp only[pv] at h
  split at h
  cases h
  rename_i g
  obtain⟨⟨z,b,c⟩,f⟩:=Be r j h
  refine⟨⟨z,by simpa using b,c⟩,fun k y hk a=> ?_⟩
  cases k with
  |zero=>simp at hk;subst hk;exact vJ g
  |succ k=>exact f k y (by simpa using hk) (by omega)
theorem Bf {d:Nat} {v:SV} {D:Nat->Bool} (f:qA->List (Nat×SV)):∀(aZ:List qA) (i j:Nat) (x:qA),aZ[j]? =some x->D (i+j)=true->kN (f x) d=some v->(∀(k:Nat) (y:qA),aZ[k]? =some y->k≠j->d∉qz (f y))->kN (eL f D aZ i) d=some v
 |[],i,j,x,h,_,_,_=>by simp at h
 |z::r,i,j,x,h,hD,hl,ho=>by
  simp only[eL]
  cases j with
  |zero=>
   simp at h;subst h
   have a:kN (eL f D r (i+1)) d=none:=kH _ _ (fun hk=>by
    obtain⟨y,l⟩:=(mb _ _).1 hk
    obtain⟨k,u,c,_,e⟩:=(gX f D _ r (i+1)).1 l
    exact ho (k+1) u (by simpa using c) (by omega) ((mb _ _).2 ⟨_,e⟩))
   have b:D i=true:=by simpa using hD
   rw[kw,a]
   simp only[b]
   exact hl
  |succ j=>
   rw[kw,Bf f r (i+1) j x (by simpa using h) (by rw[<-hD];congr 1;omega) hl (fun k y hk g=>ho (k+1) y (by simpa using hk) (by omega))]
theorem YQ {g:Nat×Bool} {d:Nat} {γ β:Bool} (hd:cC ops.toList g.1=some d) (hb:aY g d ops.toList ps=true) (W:q6 ops.toList []=some ps) (ho:pv d aZ g.1=some (.dat .bool β)) (s:β=if γ=true then g.2 else !g.2)
 (e':ops'.toList=cY g d C.n γ ops.toList) (i:Nat) (o o':Oper) (D:Nat->Bool) (a:Act) (w:World) (K:Act->World->Prop) (G:ops.toList[i]? =some o) (Z:ops'.toList[i]? =some o') (hp:∀p,ps[i]? =some p->∀j,j∈p->D j=true)
 (hI:Inv P B C.n ops' (bld D aZ rs) a w) (h:if Region.wanted o' (yielded ops' a.tmps) then o'.wp P a w K Q else K (a.put o'.dst undef) w):wpOp P ops Q i K a w:=by
 have k:o'=Lb g d C.n γ o:=by
  rw[e',EY,G] at Z;simpa using Z.symm
 have hlt:=(jl.1 G).1;obtain⟨p,I⟩:∃p,ps[i]? =some p:=by
  obtain⟨_,Y⟩:=yX _ _ _ W;obtain⟨p',O,_⟩:=Y i o G;simp only[zo,zB] at O;exact⟨p',O⟩
 obtain⟨s1,s2⟩:=uj _ _ hb i o p G I;have val:g.1∈p->a.tmps[d]? =some (.bool β):=by
  intro T;have hD:=hp p I _ T;obtain⟨⟨x,k1,Y⟩,O⟩:=Be _ _ ho;have hl:kN (bld D aZ rs).st.sl d=some (.dat .bool β):=by
   simp only[bld];rw[kw,Bf (fun x=>x.e.sl) aZ 0 g.1 x k1 (by simpa using hD) Y O]
  obtain⟨_,_,ρ,_,R,_,_⟩:=hI;have H:=R d _ hl;have h3:=wE (t:= .bool) rfl (by simpa only[SV.den] using H);have A:some (a.tmps.getD d undef)=some (.bool β):=h3;have A:a.tmps.getD d undef= .bool β:=(by simpa using A);rw[jm] at A;cases M:a.tmps[d]? with
  |none=>rw[M] at A;simp[undef] at A
  |some u=>rw[M] at A;simp at A;rw[A]
 have V:ops[i]? =some o:=(by simpa using G);unfold wpOp;rw[V];simp only;cases m:o.guard with
 |some v=>
  obtain⟨rfl,T⟩:=s1 v m;have X:=val T;have N:Region.wanted o (yielded ops a.tmps)=true↔β=v.2:=by
   have:=l9 (ops:=ops) (a:=a) (want:=v.2) hd;have h5:sD ops a v↔a.tmps[d]? =some (.bool v.2):=this;rw[X] at h5;have h6:(Region.wanted o (yielded ops a.tmps)=true)↔sD ops a v:=by
    obtain⟨j,b⟩:=v;simp[Region.wanted,m,sD]
   rw[h6,h5];simp
  cases γ with
  |true=>
   have l:o'={o with guard:=none}:=(by rw[k];simp only[Lb,m]);rw[jg (N.2 s)];have f:Region.wanted o' (yielded ops' a.tmps)=true:=(by rw[l];simp[Region.wanted]);rw[jg f,l] at h;refine .inl ?_;cases o;exact h
  |false=>
   have l:o'={o with guard:=none,op:= .move (.tmp C.n)}:=(by rw[k];simp only[Lb,m]);rw[jc (fun hh=>by have:=N.1 hh;rw[s] at this;cases E:v.2<;>rw[E] at this<;>cases this)]
   have f:Region.wanted o' (yielded ops' a.tmps)=true:=(by rw[l];simp[Region.wanted]);rw[jg f] at h;have r:(execOp a.eval o').run P w= .ok (.value (a.eval (.tmp C.n))) w:=(by rw[l];simp[execOp]);have L:a.eval (.tmp C.n)=undef:=by
    simp only[Act.eval];rw[jm,Array.getElem?_eq_none (by rw[hI.2.1];exact jk _)];rfl
   unfold Oper.wp at h;rw[r] at h;simp only[Oper.upon] at h;rw[L,l] at h;exact h
 |none=>
  have N:Region.wanted o (yielded ops a.tmps)=true:=(by simp[Region.wanted,m]);rw[jg N];refine .inl ?_;by_cases J:∃c x y,o.op= .pick (.tmp c) x y/\c=d;obtain⟨c,x,y,q,rfl⟩:=J;have X:=val (s2 m c x y q rfl);obtain⟨z,l,ez⟩:∃z,o'={o with op:= .move z}/\z=(if β=true then x else y):=by
   simp only[Lb,m,q] at k;rw[show Nat.beq c c=true from Nat.beq_refl c] at k;simp only at k;refine⟨if β=true then x else y,?_,rfl⟩;cases γ<;>cases E:g.2<;>rw[E] at k s<;>(rw[k,s,m];rfl)
  have f:Region.wanted o' (yielded ops' a.tmps)=true:=(by rw[l];simp[Region.wanted,m]);rw[jg f] at h;have S:a.eval (.tmp c)= .bool β:=by
   simp only[Act.eval];rw[jm,X];rfl
  have r:(execOp a.eval o).run P w= .ok (.value (if β=true then a.eval x else a.eval y)) w:=by
   simp only[execOp,q,S];cases β<;>simp[asBool]
  have F:(execOp a.eval o').run P w= .ok (.value (if β=true then a.eval x else a.eval y)) w:=by
   rw[l,ez];simp only[execOp];cases β<;>rfl
  unfold Oper.wp at h⊢;rw[F] at h;rw[r];have ed:o'.dst=o.dst:=(by rw[l]);simp only[Oper.upon] at h⊢;rw[ed] at h;exact h;have l:o'=o:=by
   rw[k];simp only[Lb,m]
   split
   rename_i c x y q
   split
   rename_i M;exact absurd ⟨c,x,y,q,ja M⟩ J;rfl;rfl
  subst l;have f:Region.wanted o' (yielded ops' a.tmps)=true:=(by simp[Region.wanted,m]);rw[jg f] at h;exact h
theorem Gr (K:C.ok P) {g:Nat×Bool} {d:Nat} {γ β:Bool} {σ:St} {f:RS} (O:cC ops.toList g.1=some d) (i:q6 ops.toList []=some ps) (N:aY g d ops.toList ps=true)
 (c:F4 C (cY g d C.n γ ops.toList) ps σ=some (aZ,f)) (H:pv d aZ g.1=some (.dat .bool β)) (G:β=if γ=true then g.2 else !g.2) {k:Prop} (hk:w9 true (aZ.map (·.e)) k) {a:Act} {w:World} (M:Rel P B C.n σ a w)
 (L:k->∀b w',Rel P B C.n f.st b w'->Q .normal b w'):Pv P ops true Q a w/\f=bld (fun _=>true) aZ ⟨σ,[]⟩:=by
 unfold F4 at c
 split at c
 case h_2=>cases c
 rename_i J W E
 split at c
 case h_2=>cases c
 rename_i h;simp only[jv,Prod.mk.injEq] at c;obtain⟨rfl,rfl⟩:=c;obtain⟨T,I,V⟩:=bm _ _ _ _ E;refine⟨?_,I⟩;obtain⟨F,D⟩:=bj _ hk;have m:∀{l:RS} {ops':Array Oper} {b:Act} {w':World},Inv P B C.n ops' l b w'->Rel P B C.n l.st b w':=fun⟨p,q,ρ,r,t,_,u⟩=>⟨p,q,ρ,r,t,u⟩
 show wpAny P .any ops Q ops.size (Array.replicate ops.size false) a {w with drawn:=w.drawn+1};have x:Inv P B C.n (cY g d C.n γ ops.toList).toArray ⟨σ,[]⟩ a {w with drawn:=w.drawn+1}:=by
  obtain⟨p,q,ρ,r,t,u⟩:=M;exact⟨p,q,ρ,iZ r,t,(fun s g v R=>by simp at R),u⟩
 refine PB (ops':=(cY g d C.n γ ops.toList).toArray) (rs:=⟨σ,[]⟩) K (by simp[EZ]) V T i rfl h (fun y S=>F y.e (List.mem_map_of_mem S)) (fun b w' z=>L D b w' (m (by rw[I];exact z)))
  (YQ O N i H G (by simp)) _ _ _ _ (by simp) ?_ ?_ ?_
 .unfold cnt;exact jE List.countP_le_length (by simp)
 .intro j o H A;simp only[jm,zH] at A
  split at A<;>simp at A
 .rw[eU _ ⟨σ,[]⟩ (fun j=>by
   simp only[jm,zH]
   split<;>simp)]
  exact x
end
end Go.X
namespace Go.X
open Go.RowKit (Below)
section
variable {P:Program} {B:wY} {σ τ:St} {ρ ρ':Env} {w:World}
theorem Gs {t a:Ty} {d:t.Data} {b:a.Data} (h:XN t a d b):∃e:t=a,yT e d=b:=by
 unfold XN at h
 split at h
 rename_i x c;obtain⟨e,rfl⟩:=kz c;exact⟨e,h⟩;exact h.elim
theorem Bg (M:Sat P B ρ σ.obj w) {new:List Nat} (a:ρ.le ρ' new) (C:∀o,o∈new->ρ'.blk o=some none/\ρ'.len o=0) {v G:SV} (h:cF σ v G)
 (I:∀o,o∈new->v.refs o=false) {x:Value} (A:SV.den P ρ v x):SV.den P ρ' G x:=by
 have same:v=G->SV.den P ρ' G x:=fun e=>by subst e;exact SV.den_mono a v x I A
 cases G with
 |any=>simp[SV.den]
 |dat t d=>
  have m:∃y,vY σ t v=some (y,[])/\y=d:=by
   unfold cF at h;cases v<;>simp only at h<;>(split at h<;>first|exact⟨_,by assumption,h⟩|exact h.elim)
  obtain⟨y,L,rfl⟩:=m;have:=kP M (fz:=[]) (fun o=>⟨.inl rfl,fun N=>by simp at N⟩) L (fun o N=>N) A;simp only[SV.den];exact Ty.rv_mono a.H this
 |fcl t d=>cases v<;>simp only[cF] at h
 |ep t d=>
  cases v<;>simp only[cF] at h
  rename_i Q Z;obtain⟨e,rfl⟩:=Gs h;subst e;exact same rfl
 |own o t=>
  cases v<;>simp only[cF] at h
  .rename_i o' Q
   split at h
   case h_2=>exact h.elim
   rename_i W;have:=ja W;subst this;have:=SV.den_mono a _ _ I A;simpa only[SV.den] using this
  .rename_i u
   split at h
   case h_2=>exact h.elim
   rename_i c m;have:=vR c;subst this;simp only[SV.den] at A;subst A;simp only[SV.den];intro p r;by_cases J:o∈new
   .obtain⟨z,e2⟩:=C o J;rw[z] at r;simp at r;subst r;exact⟨trivial,e2⟩
   .have:=a.blk o p J r;rw[M.dead o m] at this;cases this
 |osl o t lo n=>
  cases v<;>simp only[cF] at h
  .rename_i o' u
   split at h
   case h_2=>exact h.elim
   rename_i E t0 fz nl l c m
   split at h
   case h_2=>exact h.elim
   rename_i L V;have:=ja c;subst this;have:=aP L;have:=aP V;obtain⟨rfl,rfl⟩:=h
   subst_vars
   have j:=SV.den_mono a _ _ I A;simp only[SV.den] at j⊢;intro p r;have j:=j p r;have D:o'∉new:=fun J=>by have:=I o' J;simp[SV.refs] at this
   obtain⟨q,X,O,_⟩:=M.obs o' _ m;have s:=a.blk o' p D r;rw[X] at s;simp at s;subst s;have g:=a.len o' D;cases q with
   |none=>
    obtain⟨z,e2⟩:=j;exact⟨z,by rw[<-O,<-g];exact e2⟩
   |some S=>
    obtain⟨b,R⟩:=S;obtain⟨z,e2⟩:=j;rw[g,O] at z e2;exact⟨⟨b,0,none⟩,R,z,e2,by omega,by rw[g,O];omega,fun _=>by simp⟩
  .rename_i o' Q Y n'
   split at h
   case h_2=>exact h.elim
   rename_i c m;have:=ja c;have:=aP m;obtain⟨rfl,rfl⟩:=h
   subst_vars
   exact same rfl
 |bp o k=>
  cases v<;>simp only[cF] at h
  rename_i o' k'
  split at h
  case h_2=>exact h.elim
  rename_i c m;have:=ja c;have:=ja m
  subst_vars
  exact same rfl
 |mp o=>
  cases v<;>simp only[cF] at h
  split at h
  case h_2=>exact h.elim
  rename_i c;have:=ja c
  subst_vars
  exact same rfl
 |ip o=>
  cases v<;>simp only[cF] at h
  split at h
  case h_2=>exact h.elim
  rename_i c;have:=ja c
  subst_vars
  exact same rfl
 |rp o t i off=>cases v<;>simp only[cF] at h
 |fn ps rs pre F=>cases v<;>simp only[cF] at h
 |fnp ps rs pre F=>cases v<;>simp only[cF] at h
 |fe q o T st ps rs pre K=>
  cases v<;>simp only[cF] at h
  exact same h
 |clo f caps=>cases v<;>simp only[cF] at h
 |agg cs=>cases v<;>simp only[cF] at h
 |tup cs=>cases v<;>simp only[cF] at h
 |lit u=>cases v<;>simp only[cF] at h
theorem uk (g:Sat P B ρ σ.obj w) {new:List Nat} (d:ρ.le ρ' new) (a:∀o,o∈new->ρ'.blk o=some none/\ρ'.len o=0):
 ∀{cs b:List SV},NM σ cs b->(∀o,o∈new->SV.refs.refsL o cs=false)->∀{vs:List Value},SV.denL P ρ cs vs->SV.denL P ρ' b vs
 |[],[],_,_,vs,e=>by simpa[SV.denL] using e
 |c::cs,c'::b,h,hf,vs,e=>by
  simp only[SV.denL] at e⊢
  obtain⟨v,r,rfl,k,l⟩:=e
  have i:∀o,o∈new->c.refs o=false:=fun o f=>by
   have:=hf o f;simp only[SV.refs.refsL] at this;cases m:c.refs o<;>simp_all
  have j:∀o,o∈new->SV.refs.refsL o cs=false:=fun o f=>by
   have:=hf o f;simp only[SV.refs.refsL] at this;cases m:c.refs o<;>simp_all
  exact⟨v,r,rfl,Bg g d a h.1 i k,uk g d a h.2 j l⟩
 |[],_::_,h,_,_,_=>h.elim
 |_::_,[],h,_,_,_=>h.elim
theorem pQ:∀(ks:List Nat),l6 σ τ ks->∀s,s∈ks->τ.get s= .any\/cF σ (σ.get s) (τ.get s)
 |[],_,s,h=>by simp at h
 |k::r,h,s,a=>by
  have b:(τ.get k= .any\/cF σ (σ.get k) (τ.get k))/\l6 σ τ r:=by
   unfold l6 at h
   split at h
   rename_i e;exact⟨.inl e,h⟩;exact⟨.inr h.1,h.2⟩
  rcases jj.1 a with rfl|a;exact b.1;exact pQ r b.2 s a
theorem n9:∀(os:List Nat),EI σ τ os->∀o,o∈os->∀x,τ.obj o=some x->uN σ o x
 |[],_,o,h=>by simp at h
 |k::r,h,o,b=>by
  intro x d
  have c:(∀y,τ.obj k=some y->uN σ k y)/\EI σ τ r:=by
   unfold EI at h
   split at h
   rename_i e;exact⟨fun y a=>(by rw[e] at a;cases a),h⟩;rename_i y e;exact⟨fun f a=>(by rw[e] at a;simp at a;subst a;exact h.1),h.2⟩
  rcases jj.1 b with rfl|b;exact c.1 x d;exact n9 r c.2 o b x d
def E1:Option Ob->Bool
 |some (.box _ true _)=>true
 |some (.row _ _ true _ _)=>true
 |some (.map true _ _ _)=>true
 |_=>false
theorem E2 {o:Nat} {x:Ob} (h:uN σ o x):
 (∃T fz c cs j,x= .box T fz cs/\σ.obj o=some (.box T c j)/\DA fz c=true/\NM σ j cs)\/
 (∃E t fz c nl d l,x= .row E t fz nl l/\σ.obj o=some (.row E t c d l)/\DA fz c=true/\(nl=d\/nl= .unk\/(nl= .yes/\d= .no/\l≠[])))\/
 (∃E t nl,x= .row E t false nl []/\nl≠.no/\σ.obj o=none/\nM o σ.sl=true/\gw o σ.ob=true/\o<1000000)\/
 (∃kt vt fz c l,x= .map fz kt vt l/\σ.obj o=some (.map c kt vt l)/\DA fz c=true)\/
 (∃kt vt left cur,x= .iter kt vt left none/\σ.obj o=some (.iter kt vt left cur)):=by
 cases x with
 |box T fz cs=>
  simp only[uN] at h
  split at h
  case h_2=>exact h.elim
  rename_i C c j f
  split at h
  case h_2=>exact h.elim
  rename_i g i;have:=ja g;subst this;exact .inl ⟨_,_,_,_,_,rfl,f,i,h⟩
 |row E t fz nl l=>
  simp only[uN] at h
  split at h
  .rename_i B z c d l' f
   split at h
   case h_2=>exact h.elim
   rename_i g i;have:=ja g;subst this;have m:XN (.slice z) (.slice t) l' l/\(nl=d\/nl= .unk\/(nl= .yes/\d= .no/\l≠[])):=by
    split at h
    .rename_i D;refine⟨h,?_⟩;cases nl<;>cases d<;>simp_all [RU]
    .split at h
     .exact⟨h.2,.inr (.inr ⟨rfl,rfl,h.1⟩)⟩
     .exact h.elim
   obtain⟨h,v⟩:=m;obtain⟨e,r⟩:=Gs h;have A:z=t:=(by injection e);subst A;have:l'=l:=r;subst this;exact .inr (.inl ⟨_,_,_,_,_,_,_,rfl,f,i,v⟩)
  .rename_i f
   split at h
   .rename_i g i;subst h;simp only[ji] at i;exact .inr (.inr (.inl ⟨_,_,_,rfl,by simp,f,g,i.1,jy i.2⟩))
   .rename_i g i;subst h;simp only[ji] at i;exact .inr (.inr (.inl ⟨_,_,_,rfl,by simp,f,g,i.1,jy i.2⟩))
   .exact h.elim
  .exact h.elim
 |map fz kt vt l=>
  cases f:σ.obj o with
  |none=>simp only[uN,f] at h
  |some y=>
   cases y with
   |map c n q l'=>
    simp only[uN,f] at h;cases g:DA fz c with
    |false=>simp[g] at h
    |true=>
     simp only[g] at h;obtain⟨e,r⟩:=Gs h;obtain⟨u,e2⟩:n=kt/\q=vt:=by injection e with a b;exact⟨a,b⟩
     subst u;subst e2;have:l'=l:=r;subst this;exact .inr (.inr (.inr (.inl ⟨_,_,_,_,_,rfl,rfl,g⟩)))
   |_=>simp only[uN,f] at h
 |iter kt vt left cur=>
  cases cur with
  |some x=>exact h.elim
  |none=>
   cases f:σ.obj o with
   |none=>simp only[uN,f] at h
   |some y=>
    cases y with
    |iter n q p w=>
     simp only[uN,f] at h;obtain⟨e,r⟩:=Gs h;obtain⟨u,e2⟩:n=kt/\q=vt:=by injection e with a b;exact⟨a,b⟩
     subst u;subst e2;have:p=left:=r;subst this;exact .inr (.inr (.inr (.inr ⟨_,_,_,_,rfl,rfl⟩)))
    |_=>simp only[uN,f] at h
 |mape kt vt l k s=>exact h.elim
theorem Lt {n:Nat} {a:Act} {ks os:List Nat} (h:sub σ τ ks os) (hk:∀s,s∉ks->τ.get s= .any\/τ.get s=σ.get s) (ho:∀o,o∉os->τ.obj o=none\/τ.obj o=σ.obj o)
 (hR:Rel P B n σ a w):Rel P B n τ a w:=by
 obtain⟨hs,hob⟩:=h;obtain⟨r1,r2,ρ,R,hSl,hPin⟩:=hR
 let u:=os.filter fun o=>E1 (τ.obj o)
 obtain⟨ρ1,J,hle1,K,hn1⟩:=wg (σ:=σ) u R
 let new:=os.filter fun o=>(σ.obj o).isNone&&(τ.obj o).isSome
 have c:∀o,o∈new↔o∈os/\σ.obj o=none/\τ.obj o≠none:=by
  intro o;simp only[new,jQ,ji,Option.isNone_iff_eq_none,Option.isSome_iff_ne_none]
 have born:∀o,o∈new->∃E t nl,τ.obj o=some (.row E t false nl [])/\nl≠.no/\nM o σ.sl=true/\gw o σ.ob=true/\o<1000000:=by
  intro o z;obtain⟨m1,m2,m3⟩:=(c o).1 z;cases A:τ.obj o with
  |none=>exact absurd A m3
  |some x=>
   rcases E2 (n9 os hob o m1 x A) with⟨_,_,_,_,_,_,e,_⟩|⟨_,_,_,_,_,_,_,_,e,_⟩|⟨E,t,nl,e,m,_,f1,f2⟩|⟨_,_,_,_,_,_,e,_⟩|⟨_,_,_,_,_,e⟩
   .rw[m2] at e;cases e
   .rw[m2] at e;cases e
   .exact⟨E,t,nl,by rw[e],m,f1,f2⟩
   .rw[m2] at e;cases e
   .rw[m2] at e;cases e
 let r:Env:={H:=ρ1.H,blk:=fun o=>match τ.obj o with|none=>none|some _=>if o∈new then some none else ρ.blk o,len:=fun o=>if o∈new then 0 else ρ.len o}
 have L:ρ.le r new:=⟨hle1.H,fun o p m D=>by
  simp only[r] at D
  split at D
  .cases D
  .rw[jc m] at D;exact D,fun o m=>by simp[r,m]⟩
 have O:ρ1.le r new:=⟨fun _ _ h=>h,fun o p m D=>by rw[K];exact L.blk o p m D,fun o m=>by rw[hn1];exact L.len o m⟩;have G:∀o,o∈new->r.blk o=some none/\r.len o=0:=by
  intro o z;obtain⟨E,t,nl,e,_⟩:=born o z;simp only[r];rw[e];simp[z]
 have N:∀s o,o∈new->(σ.get s).refs o=false:=by
  intro s o z;obtain⟨E,t,_,_,_,f,_⟩:=born o z;unfold St.get
  split
  .rename_i v hv;exact nX _ _ _ _ f (wO _ _ _ hv)
  .rfl
 have M:∀k T fz cs,σ.obj k=some (.box T fz cs)->∀o,o∈new->SV.refs.refsL o cs=false:=by
  intro k T fz cs A o z;obtain⟨E,t,_,_,_,_,f,_⟩:=born o z;simp only[St.obj] at A
  split at A
  .rename_i y hy;subst A;exact gy _ _ _ _ _ _ f (wO _ _ _ hy)
  .cases A
 have S:∀o b W,r.blk o=some (some (b,W))->ρ.blk o=some (some (b,W)):=by
  intro o b W h;by_cases z:o∈new
  .rw[(G o z).1] at h;simp at h
  .exact L.blk o _ z h
 have I:∀o,(σ.frz u).obj o=if o∈u then(σ.obj o).map qI else σ.obj o:=qC σ u;have g:∀o,o∈u↔o∈os/\E1 (τ.obj o)=true:=fun o=>by simp[u]
 refine⟨r1,r2,r,⟨R.os,R.tape,R.output,R.drawn,R.size,J.good,J.oldH,R.old,?_,?_,?_,?_⟩,?_,hPin.mono L (fun d Z=>by obtain⟨E,t,_,_,_,_,_,f⟩:=born d Z;exact f)⟩
 .intro o x A;have F:o∉new->r.blk o=ρ.blk o:=fun m=>by simp only[r];rw[A];simp[m]
  by_cases z:o∈os
  .rcases E2 (n9 os hob o z x A) with⟨T,fz,Q,cs,X,rfl,e,e1,e2⟩|⟨E,t,fz,Q,nl,nl',l,rfl,e,e1,hnl⟩|⟨E,t,nl,rfl,i,e,_⟩|⟨kt,vt,fz,Q,l,rfl,e,e1⟩|⟨kt,vt,left,cur,rfl,e⟩
   .have i:o∉new:=fun m=>by have:=((c o).1 m).2.1;rw[e] at this;cases this
    have V:(σ.frz u).obj o=some (.box T fz X):=by
     rw[I];cases fz with
     |true=>rw[jg ((g o).2 ⟨z,by rw[A];rfl⟩),e];rfl
     |false=>
      rw[jc (fun h=>by have:=((g o).1 h).2;rw[A] at this;simp[E1] at this),e];cases Q<;>simp_all [DA]
    obtain⟨p,D,j⟩:=J.obs o _ V;refine⟨p,by rw[F i,<-K];exact D,?_⟩;simp only[wH] at j⊢;obtain⟨b,W,vs,rfl,k1,k2,k3,k4⟩:=j;refine⟨b,W,vs,rfl,k1,?_,k3,k4⟩;have Z:SV.denL P ρ X vs.toList:=by
     obtain⟨p',Y,hs3⟩:=R.obs o _ e;rw[<-K,D] at Y;simp at Y;subst Y;simp only[wH] at hs3;obtain⟨b',C',vs',q0,q1,q2,_⟩:=hs3;simp at q0;obtain⟨rfl,rfl⟩:=q0;rw[k1] at q1;simp at q1;obtain⟨rfl,_⟩:=q1;exact q2
    exact uk R L G e2 (M o T Q X e) Z
   .have i:o∉new:=fun m=>by have:=((c o).1 m).2.1;rw[e] at this;cases this
    have V:(σ.frz u).obj o=some (.row E t fz nl' l):=by
     rw[I];cases fz with
     |true=>rw[jg ((g o).2 ⟨z,by rw[A];rfl⟩),e];rfl
     |false=>
      rw[jc (fun h=>by have:=((g o).1 h).2;rw[A] at this;simp[E1] at this),e];cases Q<;>simp_all [DA]
    obtain⟨p,D,j⟩:=J.obs o _ V;refine⟨p,by rw[F i,<-K];exact D,we O i (fun _ _ _ e=>by cases e) (fun _ _ _=>⟨rfl,rfl⟩) ?_⟩;rcases hnl with rfl|rfl|⟨rfl,rfl,hne⟩
    .exact j
    rotate_left
    .simp only[wH] at j⊢;obtain⟨g1,g2,g3⟩:=j;refine⟨g1,g2,?_⟩;cases p with
     |none=>exact absurd rfl g3.2
     |some q=>exact⟨fun _=>hne,g3.2⟩
    .simp only[wH] at j⊢;obtain⟨g1,g2,g3⟩:=j;refine⟨g1,g2,?_⟩;cases p with
     |none=>exact⟨g3.1,by simp⟩
     |some q=>exact⟨fun h=>(by cases h),g3.2⟩
   .have m:o∈new:=(c o).2 ⟨z,e,by rw[A];simp⟩;refine⟨none,(G o m).1,?_⟩;simp only[wH];exact⟨(G o m).2,by simp,trivial,i⟩
   .have i:o∉new:=fun m=>by have:=((c o).1 m).2.1;rw[e] at this;cases this
    have V:(σ.frz u).obj o=some (.map fz kt vt l):=by
     rw[I];cases fz with
     |true=>rw[jg ((g o).2 ⟨z,by rw[A];rfl⟩),e];rfl
     |false=>
      rw[jc (fun h=>by have:=((g o).1 h).2;rw[A] at this;simp[E1] at this),e];cases Q<;>simp_all [DA]
    obtain⟨p,D,j⟩:=J.obs o _ V;refine⟨p,by rw[F i,<-K];exact D,we O i (fun _ _ _ e=>by cases e) (fun _ _ _=>⟨rfl,rfl⟩) j⟩
   .have i:o∉new:=fun m=>by have:=((c o).1 m).2.1;rw[e] at this;cases this
    have V:(σ.frz u).obj o=some (.iter kt vt left cur):=by
     rw[I,jc (fun h=>by have:=((g o).1 h).2;rw[A] at this;simp[E1] at this),e]
    obtain⟨p,D,j⟩:=J.obs o _ V;refine⟨p,by rw[F i,<-K];exact D,we O i (fun _ _ _ e=>by cases e) (fun _ _ _=>⟨rfl,rfl⟩) ?_⟩;simp only[wH] at j⊢;obtain⟨b,C,y,q1,q2,q3,q4⟩:=j;refine⟨b,C,y,q1,q2,?_,q4⟩;unfold nf at q3⊢
    split at q3
    .exact⟨q3.1,rfl⟩
    .obtain⟨es,clock,r1,r2,r3,r4,r5,r6,_⟩:=q3;exact⟨es,clock,r1,r2,r3,r4,r5,r6,trivial⟩
    .exact q3
  .rcases ho o z with e|e
   .rw[A] at e;cases e
   .have i:o∉new:=fun m=>z ((c o).1 m).1
    have V:(σ.frz u).obj o=some x:=by
     rw[I,jc (fun h=>z ((g o).1 h).1),<-e,A]
    obtain⟨p,D,j⟩:=J.obs o _ V;exact⟨p,by rw[F i,<-K];exact D,we O i (fun T fz cs e4 o' ho'=>M o T fz cs (by rw[<-e,A,e4]) o' ho') (fun _ _ _=>⟨rfl,rfl⟩) j⟩
 .intro o A;simp only[r];rw[A]
 .intro o o' b C1 C2 h1 h2;exact R.inj o o' b C1 C2 (S _ _ _ h1) (S _ _ _ h2)
 .intro o b W h1;exact R.own o b W (S _ _ _ h1)
 .intro s sv hv;have hg:τ.get s=sv:=(by unfold St.get;rw[hv]);have Z:SV.den P ρ (σ.get s) (a.tmps.getD s undef):=by
   have:=k8 (a:=a) hSl (.tmp s);simpa only[wc,Act.eval] using this
  by_cases z:s∈ks
  .rcases pQ ks hs s z with e|e
   .rw[hg] at e;subst e;exact vz _
   .rw[hg] at e;exact Bg R L G e (fun o m=>N s o m) Z
  .rcases hk s z with e|e
   .rw[hg] at e;subst e;exact vz _
   .rw[hg] at e;subst e;exact SV.den_mono L _ _ (fun o m=>N s o m) Z
end
end Go.X
namespace Go.X
open Go.RowKit (Below)
def nu:Ex->Exit
 | .normal=> .normal
 | .ret=> .ret
 | .exit id=> .exit id
structure Ext (σ σ':St):Prop where
 sl:∃p,σ'.sl=p++σ.sl
 ob:∃p,σ'.ob=p++σ.ob
theorem Ext.refl (σ:St):Ext σ σ:=⟨⟨[],rfl⟩,⟨[],rfl⟩⟩
theorem Ext.trans {a b c:St} (h:Ext a b) (k:Ext b c):Ext a c:=by
 obtain⟨⟨p,f⟩,⟨q,g⟩⟩:=h;obtain⟨⟨i,d⟩,⟨j,e⟩⟩:=k;exact⟨⟨i++p,by rw[d,f,jL]⟩,⟨j++q,by rw[e,g,jL]⟩⟩
theorem nv (n:Nat) (σ:St):Ext σ (gc n σ):=by
 unfold gc
 split
 exact Ext.refl σ;exact⟨⟨_,rfl⟩,⟨[],rfl⟩⟩
theorem PC (s:Nat) (σ:St):Ext σ (Ib s σ):=by
 unfold Ib
 split
 case h_2=>exact Ext.refl σ
 split
 .exact Ext.refl σ
 .split
  case h_2=>exact Ext.refl σ
  exact⟨⟨_,(jV).symm⟩,⟨[_,_],rfl⟩⟩
theorem Bh (σ:St) (b j:Nat):Ext σ (sK b j σ):=by
 unfold sK
 split
 case h_2=>exact Ext.refl σ
 split
 case h_2=>exact Ext.refl σ
 split
 case h_2=>exact Ext.refl σ
 split
 case h_2=>exact Ext.refl σ
 exact⟨⟨_,rfl⟩,⟨[_,_,_],rfl⟩⟩
theorem ul (a:Bool) (σ:St) (b j:Nat):Ext σ (l5 a b j σ):=by
 unfold l5
 split
 case h_2=>exact Ext.refl σ
 split
 case h_2=>exact Ext.refl σ
 split
 case h_2=>exact Ext.refl σ
 split
 case h_2=>exact Ext.refl σ
 exact⟨⟨_,(jL ..).symm⟩,⟨[_,_,_],rfl⟩⟩
theorem Bj (σ:St) (b j:Nat):Ext σ (FY b j σ):=ul false σ b j
theorem um (b:Nat):∀(j:Nat) (σ:St),Ext σ (Aa b j σ)
 |0,σ=>Ext.refl σ
 |j+1,σ=>(um b j σ).trans (Bj _ b j)
theorem oc (σ:St) (t:Nat):Ext σ (nP σ t):=by
 unfold nP
 split
 exact(Bh σ _ _).trans (um _ _ _);exact Bh σ _ _;exact Ext.refl σ
theorem Lu (σ:St) (c:Callee):Ext σ (AE σ c):=by
 unfold AE
 split
 exact oc σ _;exact Ext.refl σ
theorem Lw (σ:St) (l:List Operand):Ext σ (AF σ l):=by
 unfold AF
 split
 exact oc σ _;exact Ext.refl σ
theorem Bk (b:Nat):∀(j:Nat) (σ:St),Ext σ (FZ b j σ)
 |0,σ=>Ext.refl σ
 |j+1,σ=>by
  refine(Bk b j σ).trans ?_
  show Ext _ (Ic b j _)
  unfold Ic
  split
  split
  split
  exact Bj _ b j
  exact Ext.refl _
  exact Ext.refl _
  exact Ext.refl _
theorem Lx (σ:St) (t:Nat) (x:Operand):Ext σ (AG σ t x):=by
 unfold AG
 split
 exact(ul _ σ _ _).trans (Bk _ _ _);exact Ext.refl σ
theorem wQ:∀(l:List Oper) (σ:St),Ext σ (vL l σ)
 |[],σ=>Ext.refl σ
 |o::r,σ=>by
  simp only[vL]
  split
  exact((PC _ σ).trans (oc _ _)).trans (wQ r _)
  exact((Lw σ _).trans (Lu _ _)).trans (wQ r _)
  exact(Lx σ _ _).trans (wQ r _)
  exact wQ r σ
theorem yL {C:Ctx} {ops:List Oper}:∀(l:List Oper) (rs a:RS) (es:List Eff),az C ops l rs=some (es,a)->Ext rs.st a.st
 |[],rs,a,es,h=>by simp[az] at h;obtain⟨_,rfl⟩:=h;exact Ext.refl _
 |o::r,rs,a,es,h=>by
  simp only[az] at h
  split at h
  cases h
  rename_i e f
  split at h
  cases h
  split at h
  cases h
  rename_i b d c
  simp at h
  obtain⟨_,rfl⟩:=h
  exact Ext.trans ⟨⟨_,rfl⟩,⟨_,rfl⟩⟩ (yL r _ _ _ c)
theorem PE {C:Ctx} {ops:List Oper} {a:Bool} {σ:St} {es:List Eff} {rs:RS} (h:cX C ops a σ=some (es,rs)):Ext σ rs.st:=by
 cases a with
 |false=>exact yL _ _ _ _ h
 |true=>
  simp only[cX] at h
  split at h
  case h_2=>cases h
  rename_i aZ d ps b e
  split at h
  case h_2=>cases h
  simp at h;obtain⟨_,rfl⟩:=h;obtain⟨_,c,_⟩:=bm _ _ _ _ b;subst c;exact⟨⟨_,rfl⟩,⟨_,rfl⟩⟩
theorem sP {α:Type} (x:α):∀(ws:List Nat) (s:Nat),kN (ws.map fun k=>(k,x)) s=none\/kN (ws.map fun k=>(k,x)) s=some x
 |[],s=> .inl rfl
 |k::r,s=>by
  simp only[zu,kN]
  cases Nat.beq k s with
  |true=>exact .inr rfl
  |false=>exact sP x r s
theorem dl {α:Type}:∀(p q:List (Nat×α)) (k:Nat),k∈qz p->k∈iM (p++q) q.length
 |[],q,k,h=>by simp[qz] at h
 | (j,x)::p,q,k,h=>by
  simp only[jV,iM]
  have:Nat.ble ((p++q).length+1) q.length=false:=by
   cases a:Nat.ble ((p++q).length+1) q.length with
   |false=>rfl
   |true=>have:=jy a;simp at this;omega
  rw[this];simp only[qz,jj] at h;rcases h with rfl|h;exact(qm _ _ _).2 (.inl (by simp));exact(qm _ _ _).2 (.inr (dl p q k h))
section
variable {P:Program} {B:wY} {C:Ctx}
theorem N5 (L:nQ) (ws:List Nat) (σ:St) (x:L.X) (s:Nat) (h:s∉qz (L.sl x)):(wW L ws σ x).get s= .any\/(wW L ws σ x).get s=σ.get s:=by
 unfold St.get wW;simp only;rw[kw,kH _ _ h];simp only;rw[kw];rcases sP SV.any ws s with e|e;rw[e];exact .inr rfl;rw[e];exact .inl rfl
theorem pR (L:nQ) (ws:List Nat) (σ:St) (x:L.X) (s:Nat) (h:s∉qz (L.sl x)):kN (wW L ws σ x).sl s=kN (ws.map (fun s=>(s,SV.any))++σ.sl) s:=by
 unfold wW;simp only;rw[kw,kH _ _ h]
theorem dm (L:nQ) (ws:List Nat) (σ:St) (x:L.X) (s:Nat) (h:s∉qz (L.ob x)):kN (wW L ws σ x).ob s=kN (ws.map (fun s=>(s,(none:Option Ob)))++σ.ob) s:=by
 unfold wW;simp only;rw[kw,kH _ _ h]
theorem N6 (L:nQ) (ws:List Nat) (σ:St) (x:L.X) (o:Nat) (h:o∉qz (L.ob x)):(wW L ws σ x).obj o=none\/(wW L ws σ x).obj o=σ.obj o:=by
 simp only[St.obj];rw[dm L ws σ x o h,kw];rcases sP (none:Option Ob) ws o with e|e;rw[e];exact .inr rfl;rw[e];exact .inl rfl
theorem PF (hC:C.ok P) {ops:Array Oper} {d:Nat} {it:Operand} {r:List Oper} {σ:St} {K:Ex->St->Prop} {Q:Exit->Act->World->Prop} {a:Act} {w:World}
 (A:RV ops.toList=some (d,it,r)) (h:RW C ops.toList r d it σ K) (hR:Rel P B C.n σ a w)
 (hQ:∀σ' a' w',Ext σ σ'->K .normal σ'->Rel P B C.n σ' a' w'->Q .normal a' w'):Pv P ops false Q a w:=by
 unfold RV at A
 split at A
 .cases A
 rename_i o rr hl
 split at A
 case h_2=>cases A
 rename_i it' d' e1 e2 e3;simp at A;obtain⟨rfl,rfl,rfl⟩:=A;unfold RW at h
 split at h
 case h_2=>exact h.elim
 rename_i ob hfr hit;have hfr:d'<C.n:=jy hfr
 split at h
 case h_2=>exact h.elim
 rename_i kt vt left cur ho;obtain⟨hover,hnext⟩:=h;obtain⟨hd,hn,ρ,hS,hSl,W⟩:=hR;show wpList P ops Q ops.toList a w;rw[hl];have hw:Region.wanted o (yielded ops a.tmps)=true:=(by simp[Region.wanted,e3]);unfold wpList;rw[jg hw];refine .inl ?_;have I:=k8 (P:=P) (ρ:=ρ) hSl it';rw[hit] at I;obtain⟨p,hp,hs⟩:=hS.obs ob _ ho;simp only[wH] at hs;obtain⟨b,Cp,y,rfl,k1,k2,k3⟩:=hs;simp only[SV.den] at I;obtain⟨b',C',f1,f2⟩:=I _ hp;simp at f1;obtain⟨rfl,rfl⟩:=f1;have E:(∀c T fr,y≠.cells c T fr)->(getObj b).run P w= .ok y w:=fun hne=>by
  cases y with
  |cells c T fr=>exact absurd rfl (hne c T fr)
  |_=>simp[getObj,Sem.run,k1]
 have hblt:b<w.heap.size:=(jt.1 k1).1;have rest:∀(V:St) (a2:Act) (w2:World),Ext σ V->iN C ops.toList rr σ.ob.length V K->Rel P B C.n V a2 w2->wpList P ops Q rr a2 w2:=by
  intro V a2 w2 hE hv hR2;unfold iN at hv
  split at hv
  .exact hv.elim
  rename_i ss rs hr;obtain⟨g1,g2,G,g3,g4,g5⟩:=hR2;refine v6 hC _ _ _ _ _ _ hr hv ⟨g1,g2,G,g3,g4,(fun s g v hm=>by simp at hm),g5⟩ (fun hk' a' w' hI'=> ?_);obtain⟨i1,i2,ρ3,i3,i4,_,i5⟩:=hI';have e1:=yL _ _ _ _ hr;exact hQ _ a' w' (hE.trans (e1.trans ((nv _ _).trans (wQ _ _)))) hk' (wP _ (nr ⟨i1,i2,ρ3,i3,i4,i5⟩))
 have q:∀(G:Env) (sv:SV) (v:Value),ρ.le G []->SV.den P G sv v->px P G ((d',sv)::σ.sl) (a.put o.dst v):=by
  intro G sv v hle hv s x M;rw[e2];simp only[Act.put];by_cases hs:s=d'
  .subst hs;rw[kX] at M;simp at M;subst M;simp only[jm,jG];simp only[if_true];rw[jg (by rw[hn];exact hfr)];exact hv
  .rw[kL (fun h=>hs h.symm)] at M;simp only[jm,jG];rw[jc (fun h=>hs h.symm)];have:=SV.den_mono hle _ _ (fun r hr=>by simp at hr) (hSl s x M);simpa only[jm] using this
 have t:∀v,(a.put o.dst v).tmps.size=C.n/\(a.put o.dst v).defers=[]:=by
  intro v;rw[e2];simp only[Act.put];exact⟨by simpa using hn,hd⟩
 have over:∀w2:World,Sat P B ρ σ.obj w2->left=[]->(execOp a.eval o).run P w= .ok (.value (.tuple #[.bool false])) w2->o.wp P a w (wpList P ops Q rr) Q:=by
  intro w2 O hl0 L;unfold Oper.wp;rw[L];simp only[Oper.upon];refine rest ⟨(d',.tup [.dat .bool false])::σ.sl,σ.ob⟩ _ _ ⟨⟨[_],rfl⟩,⟨[],rfl⟩⟩ (hover hl0) ⟨(t _).2,(t _).1,ρ,O,q ρ _ _ (Env.le.refl _ _) ?_,W⟩;simp only[SV.den,SV.denL];exact⟨_,rfl,_,_,rfl,yu _,rfl⟩
 unfold nf at k2
 split at k2
 .refine over w hS k2.1 ?_;simp[execOp,e1,Instr.next,f2,E (by intros;simp)]
 .rename_i m f k l;obtain⟨es,clock,h1,h2,h3,h4,h5,⟨fs,h6,h7,h8⟩,_⟩:=k2;have hm:w.heap[m]? =some (.map es clock):=hS.good.1 m _ h1;have hg2:(getObj m).run P w= .ok (.map es clock) w:=(by simp[getObj,Sem.run,hm]);have Y:(!k.isEmpty&& !es.isEmpty&&es.all (fun x=>decide (x.born>=l)))=false:=by
   rcases h5 with rfl|rfl
   .simp
   .cases hes:es.isEmpty with
    |true=>simp
    |false=>
     have:∃e,es[0]? =some e:=by
      have:0<es.size:=by
       cases h0:es.size with
       |zero=>simp[Array.isEmpty,h0] at hes
       |succ n=>omega
      exact⟨es[0],jR this⟩
     obtain⟨e0,he0⟩:=this;have X:=h3 0 e0 he0;have:es.all (fun x=>decide (x.born>=l))=false:=by
      rw[Array.all_eq_false];obtain⟨F,M⟩:=jt.1 he0;exact⟨0,F,by rw[M];simp;omega⟩
     simp[this]
  have z:(es.filter fun e=> !k.contains e.born)=fs.toArray:=by
   rw[h6,<-jF];simp
  have H:∀e,e∈fs->e.born<f:=by
   intro e D;rw[h6,jQ] at D;obtain⟨i,hi⟩:=zS D.1;have:=h3 i e (by simpa using hi);omega
  have hold:(fs.toArray.filter fun x=>decide (x.born<f))=fs.toArray:=by
   rw[<-jF];simp only[Array.toList_filter];rw[List.filter_eq_self.2];intro e D;simpa using H e D
  have hnew:(fs.toArray.filter fun x=>decide (x.born>=f))= #[]:=by
   rw[<-jF];simp only[Array.toList_filter];rw[List.filter_eq_nil_iff.2];intro e D;have:=H e (by simpa using D);simp;omega
  cases R:fs with
  |nil=>
   have hl0:left=[]:=(by rw[R] at h7;exact List.length_eq_zero_iff.1 h7.symm);rw[R] at z;refine over w hS hl0 ?_;have hN:(Instr.next (a.eval it') false o.type).run P w= .ok (.tuple #[.bool false]) w:=by
    rw[f2];unfold Instr.next;simp only[jA,E (by intros;simp),jq,hg2,Y,Bool.false_eq_true,if_false,z];simp[Question.forced]
   simp[execOp,e1,hN]
  |cons f0 fr=>
   have hne:fs≠[]:=(by rw[R];simp);have hrun0:∃(c:Nat) (u:World),c<fs.length/\(choose (.mapNext fs.length)).run P w= .ok c u/\(u=w\/u={w with drawn:=w.drawn+1}):=by
    have hpos:0<fs.length:=List.length_pos_iff.2 hne;rw[run_choose]
    split
    .exact⟨0,w,hpos,rfl,.inl rfl⟩
    .refine⟨_,_,?_,rfl,.inr rfl⟩;simp only[Question.cut];exact Nat.mod_lt _ hpos
   obtain⟨c,u,hc,L,hw1⟩:=hrun0;obtain⟨e,D⟩:∃e,fs[c]? =some e:=⟨fs[c],jp hc⟩;obtain⟨x,M⟩:∃x,left[c]? =some x:=⟨left[c],jp (by omega)⟩;obtain⟨e',q1,q2,q3⟩:=h8 c x M;rw[D] at q1;simp at q1;subst q1;have hS1:Sat P B ρ σ.obj u:=(by rcases hw1 with rfl|rfl;exact hS;exact iZ hS);have k1':u.heap[b]? =some (.mapIter (some m) f k l):=by rcases hw1 with rfl|rfl<;>exact k1
   have hset:∀y:Obj,(setObj b y).run P u= .ok () {u with heap:=u.heap.setIfInBounds b y}:=fun y=>by simp[setObj,Sem.run,k1']
   have hexec:(execOp a.eval o).run P w= .ok (.value (.tuple #[.bool true,e.key,e.val])) {u with heap:=u.heap.setIfInBounds b (.mapIter (some m) f (k.push e.born) clock)}:=by
    have hemp:fs.toArray.isEmpty=false:=(by rw[R];rfl);have hN:(Instr.next (a.eval it') false o.type).run P w= .ok (.tuple #[.bool true,e.key,e.val]) {u with heap:=u.heap.setIfInBounds b (.mapIter (some m) f (k.push e.born) clock)}:=by
     rw[f2];unfold Instr.next;have hcand:((if fs.toArray.isEmpty=true then #[none] else #[])++Array.map some (fs.toArray++(#[]:Array MapEntry)))=fs.toArray.map some:=by
      rw[hemp];simp
     simp only[jA,E (by intros;simp),jq,hg2,Y,Bool.false_eq_true,if_false,z,hold,hnew];rw[hcand];have hsz:(fs.toArray.map some).size=fs.length:=(by simp);rw[hsz,L];simp[D,hset]
    simp[execOp,e1,hN]
   have S:left=left.take c++x::left.drop (c+1):=by
    have F:c<left.length:=(by omega);have:left[c]=x:=by
     rw[jp F] at M;simpa using M
    rw[<-this,<-z8 F,zZ]
   unfold Oper.wp;rw[hexec];simp only[Oper.upon];have O:=iS (w':={u with heap:=u.heap.setIfInBounds b (.mapIter (some m) f (k.push e.born) clock)}) hS1 hp k3 (.iter kt vt (left.take c++left.drop (c+1)) (some x))
    ⟨rfl,rfl,rfl,jk _,by simp,fun j hj=>(by show(u.heap.setIfInBounds b _)[j]? =_;rw[jG,jc (fun h=>hj h.symm)])⟩ (by
    simp only[wH];refine⟨b,Cp,.mapIter (some m) f (k.push e.born) clock,rfl,(by have:b<u.heap.size:=(jt.1 k1').1;simp[this]),?_,k3⟩;have hmem:e∈fs:=zw D;have J:e∈es.toList:=(by rw[h6,jQ] at hmem;exact hmem.1);have inj:∀g,g∈fs->g.born=e.born->g=e:=by
     intro g E X;rw[h6,jQ] at E;obtain⟨i,hi⟩:=zS E.1;obtain⟨j,hj⟩:=zS J;have:=h4 i j g e (by simpa using hi) (by simpa using hj) X;subst this;rw[hi] at hj;simpa using hj
    have N:∀(i j:Nat) (g:MapEntry),fs[i]? =some g->fs[j]? =some g->i=j:=by
     have hpw:es.toList.Pairwise (fun g g'=>g.born≠g'.born):=by
      rw[zF];intro i j hi hj hij hh;have:=h4 i j es.toList[i] es.toList[j] (by simp) (by simp) hh;omega
     have hpf:fs.Pairwise (fun g g'=>g.born≠g'.born):=(by rw[h6];exact hpw.sublist List.filter_sublist);rw[zF] at hpf;intro i j g hi hj;obtain⟨hi1,hi2⟩:=jl.1 hi;obtain⟨hj1,hj2⟩:=jl.1 hj;rcases Nat.lt_trichotomy i j with h|h|h
     .exact absurd (by rw[hi2,hj2]) (hpf i j hi1 hj1 h)
     .exact h
     .exact absurd (by rw[hi2,hj2]) (hpf j i hj1 hi1 h)
    have Z:es.toList.filter (fun g=> !(k.push e.born).contains g.born)=fs.take c++fs.drop (c+1):=by
     have:es.toList.filter (fun g=> !(k.push e.born).contains g.born)=fs.filter (fun g=> !(g.born==e.born)):=by
      rw[h6,List.filter_filter];congr 1;funext g;by_cases X:g.born=e.born<;>simp[X]
     rw[this];have hsp:fs=fs.take c++e::fs.drop (c+1):=by
      have:fs[c]=e:=(by rw[jp hc] at D;simpa using D);rw[<-this,<-z8 hc,zZ]
     have hpre:∀g,g∈fs.take c->¬(g.born==e.born)=true:=by
      intro g E X;obtain⟨i,hi⟩:=zS E;have hil:i<c:=(by have:=(jl.1 hi).1;simp at this;omega);rw[jP hil] at hi;have:=inj g (zw hi) (by simpa using X);subst this;have:=N i c g hi D;omega
     have hpost:∀g,g∈fs.drop (c+1)->¬(g.born==e.born)=true:=by
      intro g E X;obtain⟨i,hi⟩:=zS E;rw[zc] at hi;have:=inj g (zw hi) (by simpa using X);subst this;have:=N (c+1+i) c g hi D;omega
     conv=>lhs;rw[hsp]
     rw[List.filter_append,List.filter_cons];simp only[beq_self_eq_true,Bool.not_true,Bool.false_eq_true,if_false];rw[List.filter_eq_self.2 (fun g E=>by simpa using hpre g E),List.filter_eq_self.2 (fun g E=>by simpa using hpost g E)]
    refine⟨es,clock,h1,h2,h3,h4,.inr rfl,⟨_,rfl,?_,fun i y hy=> ?_⟩,rfl,e,J,by simp,q2,q3⟩
    .rw[Z];simp;omega
    .rw[Z];by_cases hi:i<c
     .have F:i<(left.take c).length:=(by simp;omega);rw[jz F,jP hi] at hy;rw[jz (by simp;omega),jP hi];exact h8 i y hy
     .rw[jx (by simp;omega),zc] at hy;rw[jx (by simp;omega),zc];simp only[j6] at hy⊢;rw[show min c fs.length=c by omega];rw[show min c left.length=c by omega] at hy;exact h8 _ y hy)
   refine rest ⟨(d',.tup [.dat .bool true,.dat kt x.1,.dat vt x.2])::σ.sl,(ob,some (.iter kt vt (left.take c++left.drop (c+1)) (some x)))::σ.ob⟩ _ _ ⟨⟨[_],rfl⟩,⟨[_],rfl⟩⟩ (hnext _ x _ S) ⟨(t _).2,(t _).1,ρ,by rw[<-vw] at O;exact O,q ρ _ _ (Env.le.refl _ _) ?_,W⟩;simp only[SV.den,SV.denL];exact⟨_,rfl,_,_,rfl,yu _,_,_,rfl,q2,_,_,rfl,q3,rfl⟩
 .exact k2.elim
theorem Bl {a:List Nat}:∀(l:List Edge),(∀e,e∈l->Region.binds .any e=true->gQ a e.on=true)->EJ a l=true
 |[],_=>rfl
 |e::r,h=>by
  have c:=Bl r (fun e d b=>h e (by simp[d]) b)
  simp only[EJ]
  split
  exact c
  rename_i b
  rw[h e (by simp) b]
  exact c
theorem IA {C:Ctx} {ops:List Oper} {a:List Nat} {rs:RS} {rec:List Nat->RS->Prop}:∀(l:List Oper) (n:Nat),eA C ops a rs rec l n->∀j o,l[j]? =some o->gQ a (n+j)=false->EJ a o.after.toList=true->RX C ops o rs (rec ((n+j)::a))
 |[],_,_,j,o,b,_,_=>by simp at b
 |x::l,n,h,j,o,b,hd,hn=>by
  simp only[eA] at h
  cases j with
  |zero=>
   simp at b;subst b
   rw[zK] at hd⊢
   rw[hd,hn] at h
   exact h.1
  |succ j=>
   have c:l[j]? =some o:=by simpa using b
   have d:eA C ops a rs rec l (n+1):=by
    split at h
    exact h
    split at h
    exact h;exact h.2
   rw[show n+(j+1)=(n+1)+j from by omega] at hd⊢;exact IA l (n+1) d j o c hd hn
theorem Ly (hC:C.ok P) {ops:Array Oper} {o:Oper} {rs:RS} {a:Act} {w:World} {x:K7} (h:K8 C ops.toList o rs=some x) (hI:Inv P B C.n ops rs a w) {K:Act->World->Prop} {Q:Exit->Act->World->Prop}
 (R:∀(s:Int) a' w',Inv P B C.n ops (wI (l7 x s) rs) a' w'->K a' w'):if Region.wanted o (yielded ops a.tmps) then o.wp P a w K Q else K (a.put o.dst undef) w:=by
 unfold K8 at h
 split at h
 case h_2=>cases h
 rename_i U m ix d I G i
 split at h
 case h_2=>cases h
 rename_i ti tk te ob N hm
 split at h
 case h_2=>cases h
 rename_i kt vt l H
 split at h
 case h_2=>cases h
 rename_i l' k hc hk F r;simp at h;subst h;obtain⟨e,rfl⟩:=kz hc;obtain⟨Z,e2⟩:kt=tk.ty/\vt=te.ty:=by injection e with a b;exact⟨a,b⟩
 subst Z;subst e2;have y:yT e l=l:=rfl;have hw:Region.wanted o (yielded ops a.tmps)=true:=(by simp[Region.wanted,G]);rw[jg hw];obtain⟨hd,hn,ρ,L,u,hG,D⟩:=hI;have z:=k8 (P:=P) (a:=a) u m;rw[hm] at z;simp only[SV.den] at z;have M:=kP L (fz:=[]) (fun o=>⟨.inl rfl,fun H=>by simp at H⟩) hk (fun o H=>H) (k8 (P:=P) (a:=a) u ix);obtain⟨p,T,V⟩:=L.obs ob _ H;simp only[wH,fzM] at V;obtain⟨b,Y,es,clock,rfl,W,k2,X⟩:=V;obtain⟨b',C',O,f2⟩:=z _ T;simp at O;obtain⟨rfl,rfl⟩:=O;have E:b<w.heap.size:=(jt.1 W).1;obtain⟨v,s,t,f,r1,r2,r3,r4⟩:=Sd (P:=P) hC N W k2 M;have J:(execOp a.eval o).run P w= .ok (.value (.tuple #[v,.int .i64 s])) {w with heap:=w.heap.setIfInBounds b (.map t f)}:=by
  simp[execOp,I,f2,r1]
 unfold Oper.wp;rw[J];simp only[Oper.upon];rw[y] at R;refine R s _ _ (nZ (C:=C) (gv:= .any) (sv:= .tup [.dat te.ty (kW te.ty.dflt (kJ tk.ty k l)),.dat .int s]) (ρ'':=ρ) hd hn u hG D ?_ (Env.le.refl _ _) ?_ (fun A c=> ?_) ?_ (fun A _=> ?_) (fun x hx=>by simp[l7] at hx) (fun d g _ S=>by rw[G] at S;cases S))
 .have:=iS L T X (.mape tk.ty te.ty l k s) (w':={w with heap:=w.heap.setIfInBounds b (.map t f)}) ⟨rfl,rfl,rfl,jk _,by simp,fun j hj=>(by show(w.heap.setIfInBounds b _)[j]? =_;rw[jG,jc (fun h=>hj h.symm)])⟩ (by
   simp only[wH];exact⟨b,Y,t,f,rfl,by simp[E],r2,X,r4⟩)
  rw[<-vw] at this;exact this
 .exact⟨fun A c=>by rw[i] at c;simp at c;subst c;exact jy F,fun A c=>(eJ r c).1,fun A c=>(eJ r c).2,fun A c=>by simp[l7] at c,
   fun q=>by rcases q with q|q<;>simp[l7,iJ,I] at q⟩
 .rw[i] at c;simp at c;subst c;exact jy F
 .simp[l7,Ia,i]
 .simp only[SV.den,SV.denL];exact⟨_,rfl,_,_,rfl,r3,_,_,rfl,yr _,rfl⟩
theorem Bm (R:C.ok P) {ops:Array Oper} {σ0:St} {ps:List (List Nat)} (M:q6 ops.toList []=some ps) {K:RS->Prop} {Q:Exit->Act->World->Prop}
 (V:∀rs a w,Ext σ0 rs.st->K rs->Inv P B C.n ops rs a w->Q .normal a w):
 ∀(f:Nat) (d:List Nat) (b:Array Bool) (rs:RS) (a:Act) (w:World),b.size=ops.size->cnt ops.size b=f->(∀k,k∈d↔b.getD k false=true)->Ext σ0 rs.st->
  F0 C ops.toList K f d rs->Inv P B C.n ops rs a w->wpAny P .any ops Q f b a w:=by
 intro f
 induction f with
 |zero=>
  intro d b rs a w v H l D h E;refine⟨?_,V rs a w D h E⟩;rw[List.eq_nil_iff_forall_not_mem];intro i hi;obtain⟨o,z,A,_⟩:=(aa v).1 hi;have u:=(jl.1 z).1;have:=zN.1 H i (by simpa using u);simp[A] at this
 |succ f S=>
  intro d b rs a w v H l D h E;refine⟨fun X=> ?_,fun i hi=> ?_⟩;exfalso;have:cnt ops.size b=0:=by
   refine zN.2 (fun k hk=> ?_);have:=di M v X (k+1) k (by omega) (by simpa using hk);simp[this]
  omega;obtain⟨o,z,A,T⟩:=(aa v).1 hi;have u:i<ops.size:=(by have:=(jl.1 z).1;simpa using this);have J:gQ d i=false:=by
   cases G:gQ d i with
   |false=>rfl
   |true=>have:=(l i).1 ((qJ _ _).1 G);rw[A] at this;cases this
  have c:=IA ops.toList 0 h i o z (by rw[zB];exact J) (Bl _ (fun e I G=>(qJ _ _).2 ((l e.on).2 (T e I G))));rw[zB] at c;have g:∀k,(b.setIfInBounds i true).getD k false=if k=i then true else b.getD k false:=mc (by omega);have m:cnt ops.size (b.setIfInBounds i true)=f:=by
   have:=sO (p:=fun k=> !(b.getD k false)) (q:=fun k=> !((b.setIfInBounds i true).getD k false)) (i:=i) (by simp[A]) (by simp[g]) (fun y Z=>by simp only[g,jc Z]) ops.size;rw[jg u] at this;unfold cnt at H⊢;omega
  have r:∀k,k∈i::d↔(b.setIfInBounds i true).getD k false=true:=by
   intro k;rw[g,jj];by_cases e:k=i;simp[e];rw[jc e,<-l k];simp[e]
  unfold wpOp;have L:ops[i]? =some o:=(by simpa using z);rw[L];simp only;have j:(if Region.wanted o (yielded ops a.tmps) then o.wp P a w (wpAny P .any ops Q f (b.setIfInBounds i true)) Q else wpAny P .any ops Q f (b.setIfInBounds i true) (a.put o.dst undef) w):=by
   unfold RX at c
   split at c
   split at c
   rename_i x Y;exact Ly R Y E (fun s F w' t=>S (i::d) _ _ F w' (by simpa using v) m r (D.trans ⟨⟨_,rfl⟩,⟨_,rfl⟩⟩) (c s) t);exact c.elim
   split at c
   exact c.elim;rename_i e I
   split at c
   exact c.elim;rename_i W;obtain⟨N,hk⟩:=bj [e] c;exact gA R I (gz W) (Fit.refl P B rs e) E (N e (by simp)) (fun F w' t _=>S (i::d) _ _ F w' (by simpa using v) m r (D.trans ⟨⟨_,rfl⟩,⟨_,rfl⟩⟩) hk t)
  split
  rename_i O;rw[jg O] at j;exact .inl j;rename_i O;rw[jc O] at j;exact j
theorem Sx (W:C.ok P) {ops:Array Oper} {σ:St} {K:Ex->St->Prop} {Q:Exit->Act->World->Prop} {a:Act} {w:World}
 (h:YD C ops.toList σ K) (hR:Rel P B C.n σ a w) (hQ:∀r t w',Ext σ r->K .normal r->Rel P B C.n r t w'->Q .normal t w'):Pv P ops true Q a w:=by
 unfold YD at h
 split at h
 case h_2=>exact h.elim
 rename_i d U body m ps M E
 split at h
 case h_2=>exact h.elim
 rename_i ti tk te aZ rsF I N F
 split at h
 case h_2=>exact h.elim
 rename_i es D z c A;obtain⟨R,S,T⟩:=bm _ _ _ _ F;obtain⟨O,J,hk⟩:=bj _ h;obtain⟨j1,j2⟩:=Bc _ _ _ _ z;obtain⟨o,b',f,s1,s2,s3,s4,s5,s6⟩:=Gq M;have j:ops.size=body.length+m:=by
  have:ops.toList.length=body.length+m:=(by rw[s1,<-s6,jJ]);simpa using this
 subst S;have L:Pz P C ops aZ ⟨σ,[]⟩ ps body m d U tk te es:=by
  refine⟨W,⟨ti,I⟩,fun k o' hk=> ?_,j,⟨o,by rw[s2];rfl,s3,s4,s5⟩,E,fun k p hk hp=>Bb ps 0 body.length N k p hp (by omega),T,R,D,j2,j1,fun k o' x hk ho hx hi=> ?_,J,A,fun y hy=>O y.e (List.mem_map_of_mem hy)⟩
  .rw[s1,jz (jl.1 hk).1];exact hk
  .obtain⟨k,rfl⟩:∃q,k=q+1:=⟨k-1,by omega⟩;exact EV _ _ c k o' x (by rw[List.getElem?_tail];exact ho) (by rw[List.getElem?_tail];exact hx) hi
 show wpAny P .any ops Q ops.size (Array.replicate ops.size false) a {w with drawn:=w.drawn+1};obtain⟨X,Y,ρ,Z,h4,h5⟩:=hR;have b:∀k,(Array.replicate ops.size false).getD k false=false:=fun k=>by
  simp only[jm,zH]
  split<;>simp
 have G:Ext σ (bld (fun _=>true) aZ ⟨σ,[]⟩).st:=⟨⟨_,rfl⟩,⟨_,rfl⟩⟩;refine L.go (fun l t w' i hl hs u H=> ?_) ops.size _ a _ (by simp) ?_ (fun k hk=>by rw[b] at hk;cases hk) (fun k o' _ hk=>by simp only[b] at hk;cases hk) ⟨B,none,DI.refl B,⟨X,Y,ρ,?_,?_,fun s g v u=> ?_,h5⟩,b 0⟩
 .refine Bm W (σ0:=σ) E (fun rs t w' G hk H=> ?_) m (YC body.length) i _ t w' hs ?_ u (G.trans ⟨⟨[_],rfl⟩,⟨[_],rfl⟩⟩) (hk l hl) H
  .obtain⟨R,S,V,T,i4,_,i5⟩:=H;exact hQ _ t w' (G.trans ((nv _ _).trans (wQ _ _))) hk (wP _ (nr ⟨R,S,V,T,i4,i5⟩))
  .rw[j];exact Bd (fun k hk=>(u k).1 ((Ag _ _).2 hk)) (fun k hk=>(Ag _ _).1 ((u k).2 hk))
 .unfold cnt;rw[List.countP_eq_length.2 (fun k hk=>by simp[b])];simp
 .rw[eU aZ ⟨σ,[]⟩ b];exact iZ Z
 .rw[eU aZ ⟨σ,[]⟩ b];exact h4
 .rw[eU aZ ⟨σ,[]⟩ b] at u;simp[lvO] at u
theorem Lz (i:C.ok P) {ops:Array Oper} {b:Bool} {σ:St} {K:Ex->St->Prop} {Q:Exit->Act->World->Prop} {a:Act} {w:World}
 (h:YE C ops.toList b σ K) (l:Rel P B C.n σ a w) (j:∀c d w',Ext σ c->K .normal c->Rel P B C.n c d w'->Q .normal d w'):Pv P ops b Q a w:=by
 unfold YE at h
 split at h
 case h_3=>exact h.elim
 case h_2=>exact Sx i h l j
 rename_i ps _ e;show wpAny P .any ops Q ops.size (Array.replicate ops.size false) a {w with drawn:=w.drawn+1};obtain⟨m,o,ρ,p,q,r⟩:=l;refine Bm i (σ0:=σ) e (fun rs d w' t hk u=> ?_) ops.size [] _ ⟨σ,[]⟩ a _ (by simp) ?_ (fun k=> ?_) (Ext.refl σ) (by simpa using h) ⟨m,o,ρ,iZ p,q,(fun s g v x=>by simp at x),r⟩
 .obtain⟨y,z,f,A,D,_,E⟩:=u;exact j _ d w' (t.trans ((nv _ _).trans (wQ _ _))) hk (wP _ (nr ⟨y,z,f,A,D,E⟩))
 .unfold cnt;rw[List.countP_eq_length.2 (fun k hk=> ?_)]
  .simp
  .simp only[jm,zH]
   split<;>simp
 .simp only[jm,zH]
  split<;>simp
theorem cH (f:C.ok P) {ops:Array Oper} {b:Bool} {σ:St} {K:Ex->St->Prop} {Q:Exit->Act->World->Prop} {a:Act} {w:World}
 (h:pu C ops.toList b σ K) (i:Rel P B C.n σ a w) (g:∀c d w',Ext σ c->K .normal c->Rel P B C.n c d w'->Q .normal d w'):Pv P ops b Q a w:=by
 unfold pu at h
 split at h
 exact Lz f h i g;rename_i es rs j;refine Ix f j h i (fun hk d w' e=> ?_);have k:=PE j;exact g _ d w' (k.trans ((nv _ _).trans (wQ _ _))) hk (wP _ (nr e))
theorem sQ (m:C.ok P) {ops:Array Oper} {Q:Exit->Act->World->Prop} {k:Prop} (r:List Oper):∀(l:List Oper) (rs b:RS) (es:List Eff) (a:Act) (w:World),az C ops.toList l rs=some (es,b)->w9 false es k->Inv P B C.n ops rs a w->
 (k->∀d w',Inv P B C.n ops b d w'->wpList P ops Q r d w')->wpList P ops Q (l++r) a w
 |[],rs,b,es,a,w,h,hk,f,i=>by
  simp[az] at h
  obtain⟨rfl,rfl⟩:=h
  exact i hk a w f
 |o::l,rs,b,es,a,w,h,hk,f,i=>by
  simp only[az] at h
  split at h
  cases h
  rename_i e t
  split at h
  cases h
  rename_i u
  split at h
  cases h
  rename_i p x v
  simp at h
  obtain⟨rfl,rfl⟩:=h
  obtain⟨q,s⟩:=n4 hk
  have:=gA (K:=wpList P ops Q (l++r)) (Q:=Q) m t (gz u) (Fit.refl P B rs e) f q (fun d w' g c=>sQ m r l _ _ _ d w' v (s c) g i)
  rw[jV]
  unfold wpList
  split
  rename_i j;rw[jg j] at this;exact .inl this
  rename_i j;rw[jc j] at this;exact this
theorem E3:∀(l:List Oper) {i:List Oper} {U t d:Nat},Ie l=some (i,U,t,d)->∃o v a,l=i++[o]/\o.op= .binOp .eql U (.tmp t) (.const v) a/\o.dst=some d/\o.guard=none/\wK v=true
 |[],_,_,_,_,h=>by simp[Ie] at h
 |[o],i,U,t,d,h=>by
  simp only[Ie] at h
  split at h
  rename_i b e2 c
  split at h
  rename_i g
  simp at h
  obtain⟨rfl,rfl,rfl,rfl⟩:=h
  exact⟨o,_,_,rfl,b,e2,c,g⟩
  cases h
  cases h
 |o::o'::r,i,U,t,d,h=>by
  simp only[Ie] at h
  split at h
  rename_i m j n k f
  simp at h
  obtain⟨rfl,rfl,rfl,rfl⟩:=h
  obtain⟨o1,v,a,e,q⟩:=E3 (o'::r) (by simpa only[Ie] using f)
  exact⟨o1,v,a,by rw[e];rfl,q⟩
  cases h
theorem Sy (G:C.ok P) {ops:Array Oper} {i:List Oper} {U t d:Nat} {σ:St} {K:Ex->St->Prop} {Q:Exit->Act->World->Prop} {a:Act} {w:World}
 (L:Ie ops.toList=some (i,U,t,d)) (h:YF C ops.toList i U t d σ K) (W:Rel P B C.n σ a w)
 (V:∀j S w',Ext σ j->K .normal j->Rel P B C.n j S w'->Q .normal S w'):Pv P ops false Q a w:=by
 unfold YF at h
 split at h
 .exact h.elim
 rename_i ss rs X
 split at h
 case h_2=>exact cH G h W V
 rename_i u l k
 split at h
 case h_2=>exact h.elim
 rename_i tt O f;obtain⟨ti,te⟩:=tt;have f:d<C.n:=jy f;obtain⟨o,v,ft,Y,Z,e2,e3,hv⟩:=E3 _ L;obtain⟨_,_,_,_,q,_⟩:=wR G O;show wpList P ops Q ops.toList a w;rw[Y];have hI:Inv P B C.n ops ⟨σ,[]⟩ a w:=by
  obtain⟨D,y,ρ,E,z,F⟩:=W;exact⟨D,y,ρ,E,z,(fun s g v hm=>by simp at hm),F⟩
 refine sQ G [o] i _ _ _ a w X h hI (fun hk A R I=> ?_);obtain⟨D,y,ρ,E,z,_,F⟩:=I;have hw:Region.wanted o (yielded ops A.tmps)=true:=(by simp[Region.wanted,e3]);unfold wpList;rw[jg hw];refine .inl ?_;have e:=k8 (P:=P) (ρ:=ρ) z (.tmp t);simp only[wc] at e;rw[k] at e;have M:=wE (t:= .slice u) rfl (by simpa[SV.den] using e);obtain⟨ad,n,c,T,g2,g3,g4,g6,g5⟩:=M;simp at T;have m:ad.isNone=true->l=[]:=by
  intro hn;refine Classical.byContradiction fun J=> ?_
  obtain⟨b,off,blk,rfl,_⟩:=g5 J;cases hn
 have p:(execOp A.eval o).run P R= .ok (.value (.bool ad.isNone)) R:=by
  have he:=pC (w:=R) (ad:=ad) (n:=n) (c:=c) q;have ev:A.eval (.const v)= .slice none 0 0:=vR hv;simp only[execOp,Z];rw[T,ev];simp[eqGuard,binOp,he]
 unfold Oper.wp;rw[p];simp only[Oper.upon];have hE:Ext σ rs.st:=yL _ _ _ _ X;have H:Ext rs.st (⟨(d,.dat .bool ad.isNone)::rs.st.sl,rs.st.ob⟩:St):=⟨⟨[_],rfl⟩,⟨[],rfl⟩⟩;refine V _ _ _ ((hE.trans H).trans ((nv _ _).trans (wQ _ _))) (hk ad.isNone m) (wP _ (nr ⟨?_,?_,ρ,E,?_,F⟩))
 .rw[e2];simp only[Act.put];exact D
 .rw[e2];simp only[Act.put];simpa using y
 .intro s x r;rw[e2];simp only[Act.put];by_cases N:s=d
  .subst N;rw[kX] at r;simp at r;subst r;simp only[jm,jG];simp only[if_true];rw[jg (by rw[y];exact f)];exact yu _
  .rw[kL (fun h=>N h.symm)] at r;simp only[jm,jG];rw[jc (fun h=>N h.symm)];have:=z s x r;simpa only[jm] using this
theorem Bn:∀(l:List Oper) {i a:List Oper} {o:Oper},t8 l=some (i,o,a)->l=i++o::a/\o.guard=none/\∃c,o.op= .call c/\c.callee= .builtin .append
 |[],_,_,_,h=>by simp[t8] at h
 |x::r,i,a,o,h=>by
  have go:(match t8 r with|some (i,y,q)=>some (x::i,y,q)|none=>none)=some (i,o,a)->x::r=i++o::a/\o.guard=none/\∃c,o.op= .call c/\c.callee= .builtin .append:=by
   intro h
   split at h
   rename_i f y q e;simp at h;obtain⟨rfl,rfl,rfl⟩:=h;obtain⟨b,e2,d⟩:=Bn r e;exact⟨by rw[b];rfl,e2,d⟩;cases h
  simp only[t8] at h
  split at h
  rename_i c b e2
  split at h
  rename_i d;simp at h;obtain⟨rfl,rfl,rfl⟩:=h;exact⟨rfl,e2,c,b,d⟩;exact go h;exact go h
theorem PG (hC:C.ok P) {ops:Array Oper} {i W:List Oper} {o:Oper} {σ:St} {K:Ex->St->Prop} {Q:Exit->Act->World->Prop} {a:Act} {w:World}
 (hop:t8 ops.toList=some (i,o,W)) (h:RY C ops.toList i o W σ K) (hR:Rel P B C.n σ a w)
 (hQ:∀σ' a' w',Ext σ σ'->K .normal σ'->Rel P B C.n σ' a' w'->Q .normal a' w'):Pv P ops false Q a w:=by
 obtain⟨e0,e3,c0,e1,e2⟩:=Bn _ hop;unfold RY at h
 split at h
 .exact h.elim
 rename_i ss rs hr
 split at h
 case h_2=>exact h.elim
 rename_i c d hgl hop' Z;rw[e1] at hop';simp only[Op.call.injEq] at hop';subst hop'
 split at h
 case h_2=>exact h.elim
 rename_i b x U U' L htys;have L:c0.args= #[b,x]:=(by rw[<-jF];exact L);have htys:c0.argTypes= #[U,U']:=by rw[<-jF];exact htys
 split at h
 case h_2=>exact h.elim
 rename_i ti te hUU hsl hfr;have hUU:=ja hUU;subst hUU;have hfr:d<C.n:=jy hfr
 split at h
 case h_2=>exact h.elim
 rename_i q t lo n y ys hb hel
 split at h
 case h_2=>exact h.elim
 rename_i E t' nl l ho
 split at h
 case h_2=>exact h.elim
 rename_i l' hl' ht hE hfq;obtain⟨e,rfl⟩:=kz hl';have e':t'=te.ty:=(by injection e);subst e';have ht:=aP ht;subst ht;have hE:=ja hE;subst hE;have hcast:yT e l=l:=rfl;rw[hcast] at h;simp only[ji] at hfq;obtain⟨hfq,hqlt⟩:=hfq;have hqlt:q<1000000:=jy hqlt;show wpList P ops Q ops.toList a w;rw[e0];have hI:Inv P B C.n ops ⟨σ,[]⟩ a w:=by
  obtain⟨h1,h2,ρ,h3,h4,h5⟩:=hR;exact⟨h1,h2,ρ,h3,h4,(fun s g v hm=>by simp at hm),h5⟩
 refine sQ hC (o::W) i _ _ _ a w hr h hI (fun hk a1 D hI1=> ?_);obtain⟨h1,h2,ρ,hS,h4,_,h5⟩:=hI1;obtain⟨hlen,hn0,h62,O,Y⟩:=hk;obtain⟨f,hnews⟩:∃f,f=y::ys:=⟨_,rfl⟩;rw[<-hnews] at Y O hel h62;have hnpos:0<f.length:=(by rw[hnews];simp);have hw:Region.wanted o (yielded ops a1.tmps)=true:=(by simp[Region.wanted,e3]);unfold wpList;rw[jg hw];refine .inl ?_;have F:=k8 (P:=P) (ρ:=ρ) h4 b;rw[hb] at F;have hsrc:=pD hS hel (k8 (P:=P) (ρ:=ρ) h4 x);obtain⟨p,hp,k1,k0,k2⟩:=hS.obs q _ ho;simp only[SV.den] at F;have F:=F p hp;obtain⟨_,hte,_,hokE,hund,hka,hks,hpos⟩:=wR hC hsl;obtain⟨iE,z,g0,g1,g2,g3,g4,g5⟩:=hokE.info;rw[hte] at g0;have hsz:iE.size=te.ty.size:=(by rw[g1,hks]);have hzs:z.cells.size=te.ty.size:=(by rw[<-jZ,g4,hokE.zlen,hks]);have hbp:0<te.bytes:=(hokE.pos (nU hsl)).2;have hsm:(n+f.length)*1<=(n+f.length)*te.bytes:=zW _ hbp;cases p with
 |none=>have:=F.2;omega
 |some bc=>
 obtain⟨bl,Cp⟩:=bc;obtain⟨ad0,I,f1,f2,f3,f4,f5⟩:=F;have f5:=f5 (.inr (by omega));subst f5;obtain⟨k3,vs,hwb,hvs,hlC,hCm,hrd,hHb⟩:=k2;simp only[fzH] at hHb;obtain⟨hsl2,⟨_,hnil⟩|⟨ad,cs,us,f6,u1,u2,u3,u4⟩⟩:=hsrc
 .rw[hnil] at hnpos;simp at hnpos
 have noref:qY rs.st.obj q:=by
  intro o' T fz cs' N;have:(o',some (.box T fz cs'))∈rs.st.ob:=by
   unfold St.obj at N
   split at N
   .rename_i y0 hy;subst N;exact wO _ _ _ hy
   .cases N
  exact gy _ _ _ _ _ _ hfq this
 have hE1:Ext σ rs.st:=yL _ _ _ _ hr;have fin:∀(w2:World) (g u:Nat) (pre:List te.ty.Data),(execOp a1.eval o).run P D= .ok (.value (.slice (some ⟨g,pre.length*te.ty.size,none⟩) (n+f.length) (u-pre.length))) w2->
  D.grownBy w2 (some bl)->D.drawn<=w2.drawn->(g=bl\/g=D.heap.size)->pre.length+n+f.length<=u->u<=maxLen->pre.length<=lo->
  (∃vs2,w2.heap[g]? =some (.cells vs2 ti.elem (0,0))/\vs2.size=u*te.ty.size/\∀(j:Nat) x,(pre++l.drop lo++f)[j]? =some x->te.ty.rd ρ.H (fun k=>vs2[j*te.ty.size+k]?) x)->
  o.wp P a1 D (wpList P ops Q W) Q:=by
  intro w2 g u pre hrun hgr hdr hgn hfit hcm hple ⟨vs2,m1,m2,m3⟩;have hsmall:pre.length+n+f.length<4611686018427387904:=(by omega);have hrl:(pre++l.drop lo++f).length=pre.length+n+f.length:=(by simp;omega);have hHg:ρ.H g=none:=by
   rcases hgn with rfl|rfl
   .exact hHb
   .cases hc:ρ.H D.heap.size with
    |none=>rfl
    |some c=>have:=hS.good.lt hc;omega
  obtain⟨ρ',q1,q2,q3,q4,q5⟩:=VT hS hp hHb noref hgr hdr g u hgn (pre.length+n+f.length) (.row ti.elem te.ty false nl (pre++l.drop lo++f)) (fun ρ' hH hlen' _=>by
   refine⟨by rw[hlen',hrl],by rw[hrl];exact hsmall,fun _ hnil=> ?_,vs2,m1,m2,by rw[hrl];exact hfit,hcm,fun j x G=>by rw[hH];exact m3 j x G,?_⟩
   .rw[hnil] at hrl;simp at hrl;omega
   .rw[hH];simpa[fzH] using hHg)
  unfold Oper.wp;rw[hrun];simp only[Oper.upon];obtain⟨σ2,V⟩:∃σ2:St,σ2=⟨(d,.osl q te.ty pre.length (n+f.length))::(mE rs.st (SV.refs q) rs.st.sl++rs.st.sl),(q,some (.row ti.elem te.ty false nl (pre++l.drop lo++f)))::rs.st.ob⟩:=⟨_,rfl⟩;have hv:=Y pre hple;rw[<-V] at hv;have hR2:Rel P B C.n σ2 (a1.put o.dst (.slice (some ⟨g,pre.length*te.ty.size,none⟩) (n+f.length) (u-pre.length))) w2:=by
   refine⟨?_,?_,ρ',?_,?_,h5.mono q2 (fun d hd=>by simp at hd;subst hd;exact hqlt)⟩
   .rw[Z];simp only[Act.put];exact h1
   .rw[Z];simp only[Act.put];simpa using h2
   .have:σ2.obj=sC rs.st.obj q (some (.row ti.elem te.ty false nl (pre++l.drop lo++f))):=by
     rw[V];exact vw ⟨(d,.osl q te.ty pre.length (n+f.length))::(mE rs.st (SV.refs q) rs.st.sl++rs.st.sl),rs.st.ob⟩ q _
    rw[this];exact q1
   .intro s v S;rw[V] at S;rw[Z];simp only[Act.put];by_cases hsd:s=d
    .subst hsd;rw[kX] at S;simp only[jv] at S;subst S;simp only[jm,jG];simp only[if_true];rw[jg (by rw[h2];exact hfr)];simp only[Option.getD_some,SV.den];intro p' hp';rw[q3] at hp';simp at hp';subst hp';exact⟨_,_,rfl,by omega,by omega,by rw[q4];omega,fun _=>rfl⟩
    .rw[kL (fun h=>hsd h.symm)] at S;simp only[jm,jG];rw[jc (fun h=>hsd h.symm)];rw[kw] at S;cases hsc:kN (mE rs.st (SV.refs q) rs.st.sl) s with
     |some v'=>
      rw[hsc] at S;simp only[jv] at S;subst S;rw[gB _ _ _ _ _ hsc];exact vz _
     |none=>
      rw[hsc] at S;simp only at S;have hrf:=q8 _ _ _ s hsc (by rw[S];simp);have hgv:rs.st.get s=v:=(by unfold St.get;rw[S]);rw[hgv] at hrf;have:=SV.den_mono q2 v _ (fun r hr=>by simp at hr;subst hr;exact hrf) (h4 s v S);simpa only[jm] using this
  have hE2:Ext rs.st σ2:=(by rw[V];exact⟨⟨(d,.osl q te.ty pre.length (n+f.length))::mE rs.st (SV.refs q) rs.st.sl,by simp⟩,⟨[_],rfl⟩⟩);unfold iN at hv
  split at hv
  .exact hv.elim
  rename_i ss2 rs2 hr2;obtain⟨j1,j2,ρ2,j3,j4,j5⟩:=hR2;refine v6 hC _ _ _ _ _ _ hr2 hv ⟨j1,j2,ρ2,j3,j4,(fun s g v hm=>by simp at hm),j5⟩ (fun hk' a' w' hI'=> ?_);obtain⟨i1,i2,ρ3,i3,i4,_,i5⟩:=hI';have e1:=yL _ _ _ _ hr2;exact hQ _ a' w' ((hE1.trans hE2).trans (e1.trans ((nv _ _).trans (wQ _ _)))) hk' (wP _ (nr ⟨i1,i2,ρ3,i3,i4,i5⟩))
 have M:∀(v':Value) (w2:World),(Builtin.append_ #[U,U] o.type #[a1.eval b,a1.eval x]).run P D= .ok v' w2->(execOp a1.eval o).run P D= .ok (.value v') w2:=by
  intro v' w2 hrun;simp only[execOp,e1,jA,resolve,e2,L,htys,jO,jq,invoke,builtin];simp[hrun]
 have hlo:(l.take lo).length=lo:=(by simp;omega);have hmulC:(lo+n)*te.ty.size<=Cp*te.ty.size:=jH _ (by omega);by_cases hroom:n+f.length<=I
 .--there is room
  have hf:=run_firstCells_some (P:=P) D iE.size f.length ad f.length cs us (by rw[hsz];exact u1) u2;have hmul:(lo+n+f.length)*te.ty.size<=Cp*te.ty.size:=jH _ (by omega);rw[zn,zn] at hmul;have hst:=run_storeCells_at P bl (lo*te.ty.size+n*te.ty.size) ti.elem us 0 vs D hwb (by rw[u1,hvs];omega) u3;simp only[zK] at hst;obtain⟨m1,m2⟩:=gU D hwb (vs.toList.take (lo*te.ty.size+n*te.ty.size)++us++vs.toList.drop (lo*te.ty.size+n*te.ty.size+us.length)).toArray;obtain⟨m3,m4,m5,m6,m7,m8⟩:=m1;have hrunA:(Builtin.append_ #[U,U] o.type #[a1.eval b,a1.eval x]).run P D= .ok (.slice (some ⟨bl,lo*te.ty.size,none⟩) (n+f.length) I) (D.setRow bl (vs.toList.take (lo*te.ty.size+n*te.ty.size)++us++vs.toList.drop (lo*te.ty.size+n*te.ty.size+us.length)).toArray):=by
   rw[f1,f6];have hadd:(⟨bl,lo*te.ty.size,none⟩:Addr).add (n*iE.size)=⟨bl,lo*te.ty.size+n*te.ty.size,none⟩:=(by rw[hsz];simp[yV]);simp[Builtin.append_,jB hund,sizeOf,typeInfo,g0,Builtin.lenOf,hroom,hf,hadd,hst]
  have hl1:(vs.toList.take (lo*te.ty.size+n*te.ty.size)).length=lo*te.ty.size+n*te.ty.size:=(by simp;omega);refine fin _ bl Cp (l.take lo) (by rw[hlo,show Cp-lo=I by omega];exact M _ _ hrunA) ⟨m3,m4,m5,by rw[m7];exact jk _,fun k hk hne=>m8 k (fun e=>hne (by rw[e]))⟩ m6 (.inl rfl) (by omega) hCm (by omega) ⟨_,m2,?_,?_⟩
  .simp only[List.size_toArray,jJ,hl1,u1,zY,jZ];omega
  .intro j x G;rw[zZ] at G;simp only[zO,jL];by_cases hj:j<l.length
   .rw[jz hj] at G;refine te.ty.rd_congr _ _ _ (fun k hk=> ?_) (hrd j x G);have:(j+1)*te.ty.size<=(lo+n)*te.ty.size:=jH _ (by omega);rw[zj,zn] at this;rw[jz (by omega),jP (by omega)];simp
   .have hjl:j<(l++f).length:=(jl.1 G).1;rw[jx (by omega)] at G;obtain⟨J,rfl⟩:∃J,j=lo+n+J:=⟨j-(lo+n),by omega⟩;rw[show lo+n+J-l.length=J by omega] at G;refine te.ty.rd_congr _ _ _ (fun k hk=> ?_) (u4 J x G);have hd:J<f.length:=(jl.1 G).1;have:(J+1)*te.ty.size<=f.length*te.ty.size:=jH _ hd;rw[zj] at this;rw[zn,zn,jx (by omega),hl1,jz (by omega)];congr 1;omega
 .--it moves
  have hml:n+f.length<=maxLen:=(by simp only[maxLen];omega);have hmp:I<n+f.length:=(by omega);obtain⟨A,hol⟩:∃A,A=(vs.toList.drop (lo*te.ty.size)).take (n*te.ty.size):=⟨_,rfl⟩;rw[zn] at hmulC;have R:A.length=n*te.ty.size:=(by rw[hol];simp;omega);have hol2:∀j v,A[j]? =some v->D.cell? ((⟨bl,lo*te.ty.size,none⟩:Addr).add j)=some v:=by
   intro j v hj;rw[hol,zQ] at hj
   split at hj
   .rw[zc,zk] at hj;have:(⟨bl,lo*te.ty.size,none⟩:Addr).add j=⟨bl,lo*te.ty.size+j,none⟩:=(by simp[yV]);rw[this];simp[World.cell?,hwb,hj]
   .cases hj
  have hr:=run_append_grow (P:=P) D U o.type ti.elem iE z hund g0 g3 ⟨bl,lo*te.ty.size,none⟩ n I A (by rw[hsz];exact R) hol2 ad f.length cs us (by rw[hsz];exact u1) u2 hmp (by simp only[maxLen] at hml;omega) (growslice_fits hmp (by rw[g2];exact O));have hge:=grownCap_ge D (n+f.length) I ti.elem;have hcm:=grownCap_le_maxLen D (n+f.length) I ti.elem hml;generalize hcap:grownCap D (n+f.length) I ti.elem=u at hr hge hcm;have hlen2:(A++us).length=(n+f.length)*te.ty.size:=(by rw[jJ,R,u1,zn]);refine fin (D.drew.alloc (.cells (A.toArray++us.toArray++Builtin.zeroCells z.cells (u-(n+f.length))) ti.elem)) D.heap.size u [] (by rw[f1,f6] at M;have:=M _ _ hr;simp only[zo,Nat.zero_mul,Nat.sub_zero];exact this) ⟨rfl,rfl,rfl,by simp,fun k hk _=>heap_alloc_old D.drew _ k hk⟩ (Nat.le_succ _) (.inr rfl) (by simp;exact hge) hcm (by simp) ⟨_,heap_alloc_new D.drew _,?_,?_⟩
  .simp only[Array.size_append,List.size_toArray,size_zeroCells,hzs,R,u1,<-zn];congr 1;omega
  .intro j x G;rw[jW] at G;have X:∀m,m<(A++us).length->(A.toArray++us.toArray++Builtin.zeroCells z.cells (u-(n+f.length)))[m]? =(A++us)[m]? :=by
    intro m hm;rw[zh (by simpa using hm)];simp
   have hjl:j<(l.drop lo++f).length:=(jl.1 G).1;have hdl:(l.drop lo).length=n:=(by simp;omega);rw[jJ,hdl] at hjl;by_cases hj:j<n
   .rw[jz (by omega),zc] at G;refine te.ty.rd_congr _ _ _ (fun k hk=> ?_) (hrd (lo+j) x G);have:(j+1)*te.ty.size<=n*te.ty.size:=jH _ hj;rw[zj] at this;rw[X _ (by rw[jJ];omega),jz (by omega),hol,jP (by omega),zc,zk,zn];congr 1;omega
   .obtain⟨J,rfl⟩:∃J,j=n+J:=⟨j-n,by omega⟩;rw[jx (by omega),hdl,show n+J-n=J by omega] at G;refine te.ty.rd_congr _ _ _ (fun k hk=> ?_) (u4 J x G);have hd:J<f.length:=(jl.1 G).1;have:(J+1)*te.ty.size<=f.length*te.ty.size:=jH _ hd;rw[zj] at this;rw[X _ (by rw[jJ,zn];omega),zn,jx (by omega),R];congr 1;omega
def V2:Option Nat->Option Nat->Prop
 |some m,some n=>m<n
 |some _,none=>True
 |none,_=>False
theorem N7:WellFounded V2:=by
 have b:∀n,Acc V2 (some n):=by
  intro n
  induction n using Nat.strongRecOn with
  |_ n c=>
   refine⟨_,fun y a=> ?_⟩;cases y with
   |none=>exact a.elim
   |some m=>exact c m a
 refine⟨fun x=> ?_⟩;cases x with
 |some n=>exact b n
 |none=>
  refine⟨_,fun y a=> ?_⟩;cases y with
  |none=>exact a.elim
  |some m=>exact b m
theorem E4 {α:Type} (r:α->α->Prop) (z:WellFounded r) {Q:Exit->Act->World->Prop} {c:Code} {a:Act} {w:World} (I:α->Act->World->Prop) (j:α) (t:I j a w)
 (o:∀x a w,I x a w->c.wp P (Exit.then (fun p w'=>∃v,r v x/\I v p w') Q) a w):(Code.loop c).wp P Q a w:=by
 intro b k cs;have key:∀x a w,I x a w->∃e p w',Q e p w'/\Arrives P (lone (b.at a (.code c:: .inLoop c::k)) cs w) b k cs e p w':=by
  intro x
  induction x using z.induction with
  |_ x B=>
   intro a w A;obtain⟨e,f,g,i,d⟩:=o x a w A b (.inLoop c::k) cs;cases e with
   |normal=>
    obtain⟨v,y,m⟩:=i;obtain⟨s,q,u,n,h⟩:=B v y f g m;exact⟨s,q,u,n,.of_steps (Steps.trans d (.one step_inLoop)) h⟩
   |exit id=>exact⟨_,f,g,i,.pass (x:= .inLoop c) rfl (fun _ _=> .inl (by simp)) d⟩
   |goto l=>exact⟨_,f,g,i,.pass (x:= .inLoop c) rfl (fun _ _=> .inl (by simp)) d⟩
   |ret=>exact⟨_,f,g,i,.pass (x:= .inLoop c) rfl (fun _ _=> .inl (by simp)) d⟩
   |panic C=>exact⟨_,f,g,i,.pass (x:= .inLoop c) rfl (fun _ _=> .inl (by simp)) d⟩
   |outgrown=>exact⟨_,f,g,i,.pass (x:= .inLoop c) rfl (fun _ _=> .inl (by simp)) d⟩
 obtain⟨e,p,w',i,d⟩:=key j a w t;exact⟨e,p,w',i,.of_steps (.one step_loop) d⟩
def IB (P:Program) (B:wY) (C:Ctx) (A:Ann) (x:Code) (K:Ex->St->Prop) (σ:St) (n:Nat) (a:Act) (w:World):Prop:=
 ∃L,A (nc x)=some L/\(∀y:(L σ).X,(L σ).inv y->vcg C A x (wW (L σ) (ql x) σ y) (fun e b=>match e with
  | .normal=>∃c:(L σ).X,sub b (wW (L σ) (ql x) σ c) (gj (qz ((L σ).sl c)) (gj (qz ((L σ).sl y)) (iM b.sl (wW (L σ) (ql x) σ y).sl.length)))
   (gj (qz ((L σ).ob c)) (gj (qz ((L σ).ob y)) (iM b.ob (wW (L σ) (ql x) σ y).ob.length)))/\(L σ).inv c/\(L σ).mu c<(L σ).mu y
  |e=>K e b))/\
  ∃y,(L σ).inv y/\(L σ).mu y=n/\Rel P B C.n (wW (L σ) (ql x) σ y) a w
theorem uo {A:Ann} {x:Code} {K:Ex->St->Prop} {a:Act} {σ:St} {w:World} (h:NP A x (vcg C A x) σ K) (f:Rel P B C.n σ a w):∃n,IB P B C A x K σ n a w:=by
 unfold NP at h
 split at h
 exact h.elim;rename_i L e;obtain⟨⟨x0,d,c⟩,b⟩:=h;exact⟨_,L,e,b,x0,c,rfl,Lt d (fun s i=>N5 (L σ) (ql x) σ x0 s i) (fun o g=>N6 (L σ) (ql x) σ x0 o g) f⟩
theorem uq {A:Ann} {x:Code} {K:Ex->St->Prop} {Q:Exit->Act->World->Prop} {n:Nat} {a:Act} {σ:St} {w:World} {J:Act->World->Prop}
 (l:∀(σ:St) (K:Ex->St->Prop) (Q:Exit->Act->World->Prop) (a:Act) (w:World),vcg C A x σ K->Rel P B C.n σ a w->(∀e b d w',Ext σ b->K e b->Rel P B C.n b d w'->Q (nu e) d w')->x.wp P Q a w)
 (R:IB P B C A x K σ n a w) (I:∀e b d w',Ext σ b->K e b->Rel P B C.n b d w'->Q (nu e) d w')
 (S:∀O,O<n->∀d w',IB P B C A x K σ O d w'->J d w'):x.wp P (Exit.then J Q) a w:=by
 obtain⟨L,T,c,y,z,rfl,i⟩:=R;generalize m:ql x=ws at c i;refine l _ _ _ a w (c y z) i (fun e b d w' q u f=> ?_);have h:Ext σ (wW (L σ) ws σ y):=⟨⟨(L σ).sl y++ws.map (fun s=>(s,SV.any)),by simp[wW]⟩,⟨(L σ).ob y++ws.map (fun s=>(s,none)),by simp[wW]⟩⟩;cases e with
 |ret=>exact I .ret b d w' (h.trans q) u f
 |exit id=>exact I (.exit id) b d w' (h.trans q) u f
 |normal=>
  obtain⟨r,E,v,D⟩:=u;have k:Rel P B C.n (wW (L σ) ws σ r) d w':=by
   refine Lt E (fun s N=> ?_) (fun o M=> ?_) f;simp only[qm,not_or] at N;obtain⟨F,G,H⟩:=N;refine .inr ?_;obtain⟨p,j⟩:=q.sl;have g:s∉qz p:=fun hk=>H (by rw[j];exact dl p _ s hk)
   have t:kN b.sl s=kN (ws.map (fun s=>(s,SV.any))++σ.sl) s:=by
    rw[j,kw,kH _ _ g];exact pR (L σ) ws σ y s G
   unfold St.get;rw[t,pR (L σ) ws σ r s F];simp only[qm,not_or] at M;obtain⟨F,G,H⟩:=M;refine .inr ?_;obtain⟨p,j⟩:=q.ob;have g:o∉qz p:=fun hk=>H (by rw[j];exact dl p _ o hk)
   have t:kN b.ob o=kN (ws.map (fun s=>(s,(none:Option Ob)))++σ.ob) o:=by
    rw[j,kw,kH _ _ g];exact dm (L σ) ws σ y o G
   simp only[St.obj];rw[t,dm (L σ) ws σ r o F]
  exact S _ D d w' ⟨L,T,by rw[m];exact c,r,v,rfl,by rw[m];exact k⟩
theorem LA (l:C.ok P) {ops:Array Oper} {σ:St} {K:Ex->St->Prop} {Q:Exit->Act->World->Prop} {a:Act} {w:World}
 (h:La C ops.toList σ K) (p:Rel P B C.n σ a w) (o:∀b c w',Ext σ b->K .normal b->Rel P B C.n b c w'->Q .normal c w'):Pv P ops false Q a w:=by
 unfold La at h;obtain⟨e,f,ρ,i,j,k⟩:=p;exact EX l (σ0:=σ) (fun rs c w' s1 s2 hk m=>by
  obtain⟨r,t,d,u,x,_,y⟩:=m;exact o _ c w' (Ext.trans ⟨s1,s2⟩ ((nv _ _).trans (wQ _ _))) hk (wP _ (nr ⟨r,t,d,u,x,y⟩))) ops.toList [] _ a w ⟨[],rfl⟩ ⟨[],rfl⟩ h ⟨e,f,ρ,i,j,(fun s g v q=>by simp at q),k⟩
theorem PH (o:C.ok P) {ops:Array Oper} {σ:St} {K:Ex->St->Prop} {Q:Exit->Act->World->Prop} {a:Act} {w:World}
 (h:R0 C ops.toList σ K) (p:Rel P B C.n σ a w) (v:∀j k w',Ext σ j->K .normal j->Rel P B C.n j k w'->Q .normal k w'):Pv P ops true Q a w:=by
 unfold R0 at h
 split at h
 case h_2=>exact h.elim
 rename_i g ps F c
 split at h
 case h_2=>exact h.elim
 rename_i d r
 split at h
 case h_2=>exact h.elim
 rename_i aZ rs z E q y m
 split at h
 case h_2=>exact h.elim
 rename_i β s x l;obtain⟨e,t,u⟩:=h;have ex:∀{aZ:List qA} {rs:RS},rs=bld (fun _=>true) aZ ⟨σ,[]⟩->Ext σ rs.st:=fun h=>by
  rw[h];exact⟨⟨_,rfl⟩,⟨_,rfl⟩⟩
 by_cases b:β=g.2
 .have:=Gr (γ:=true) (Q:=Q) o r c q y x b (t b) p (fun hk k w' i=>by
   have e2:=(Gr (γ:=true) (Q:=fun _ _ _=>True) o r c q y x b (t b) p (fun _ _ _ _=>trivial)).2;exact v _ k w' ((ex e2).trans ((nv _ _).trans (wQ _ _))) hk (wP _ (nr i)))
  exact this.1
 .have f:s= !g.2:=by rw[e];cases A:g.2<;>cases D:β<;>simp_all
  have:=Gr (γ:=false) (Q:=Q) o r c q m l f (u b) p (fun hk k w' i=>by
   have e2:=(Gr (γ:=false) (Q:=fun _ _ _=>True) o r c q m l f (u b) p (fun _ _ _ _=>trivial)).2;exact v _ k w' ((ex e2).trans ((nv _ _).trans (wQ _ _))) hk (wP _ (nr i)))
  exact this.1
theorem E5 (e:C.ok P) {A:Ann} {id:Nat} {ops:Array Oper} {c:Bool} {σ:St} {K:Ex->St->Prop} {Q:Exit->Act->World->Prop} {a:Act} {w:World}
 (h:vcg C A (.region id ops c) σ K) (g:Rel P B C.n σ a w) (f:∀j k w',Ext σ j->K .normal j->Rel P B C.n j k w'->Q .normal k w'):Pv P ops c Q a w:=by
 simp only[vcg] at h
 split at h
 rename_i d it r b;exact PF e b h g f
 split at h
 rename_i i U t d b _;exact Sy e b h g f
 split at h
 split at h
 exact cH e h g f;exact LA e h g f
 split at h
 rename_i i o l b;exact PG e b h g f;exact h.elim
 split at h
 exact cH e h g f;exact PH e h g f
theorem vG (l:C.ok P) (o:P.follows .mixedOrders=true) (A:Ann):∀(c:Code) (σ:St) (K:Ex->St->Prop) (Q:Exit->Act->World->Prop) (a:Act) (w:World),vcg C A c σ K->Rel P B C.n σ a w->
 (∀e b f w',Ext σ b->K e b->Rel P B C.n b f w'->Q (nu e) f w')->c.wp P Q a w
 | .skip,σ,K,Q,a,w,h,k,g=>wp_skip (g .normal σ a w (Ext.refl _) h k)
 | .region id ops L,σ,K,Q,a,w,h,k,g=>YN o (E5 l h k (fun b f w' j i d=>g .normal b f w' j i d))
 | .seq x y,σ,K,Q,a,w,h,k,g=>by
  simp only[vcg] at h
  refine wp_seq (vG l o A x σ _ _ a w h k (fun e b f w' j i d=> ?_))
  cases e with
  |normal=>exact vG l o A y b K Q f w' i d (fun e2 I N S D=>g e2 I N S (j.trans D))
  |ret=>exact g .ret b f w' j i d
  |exit id=>exact g (.exit id) b f w' j i d
 | .cond c x y,σ,K,Q,a,w,h,k,g=>by
  simp only[vcg] at h
  split at h
  case h_2=>exact h.elim
  rename_i β O
  have R:a.eval c= .bool β:=by
   obtain⟨_,_,ρ,_,F,_⟩:=k;have:=k8 (P:=P) (ρ:=ρ) F c;rw[O] at this;exact qe (by simpa only[SV.den] using this)
  refine wp_cond_split R (fun r=>vG l o A x σ K Q a w (h.1 r) k g) (fun r=>vG l o A y σ K Q a w (h.2 r) k g)
 | .block id x,σ,K,Q,a,w,h,k,g=>by
  simp only[vcg] at h;refine wp_block (vG l o A x σ _ _ a w h k (fun e b f w' j i d=> ?_));cases e with
  |normal=>exact g .normal b f w' j i d
  |ret=>exact g .ret b f w' j i d
  |exit G=>
   simp only[nu,Exit.inBlock];simp only at i
   split at i
   .rename_i r;have:=ja r;subst this;rw[jg rfl];exact g .normal b f w' j i d
   .rename_i r;rw[jc (fun e=>ww r e.symm)];exact g (.exit G) b f w' j i d
 | .loop x,σ,K,Q,a,w,h,k,g=>by
  simp only[vcg] at h;have q:=fun(σ:St) (K:Ex->St->Prop) (Q:Exit->Act->World->Prop) (a:Act) (w:World)=>vG l o A x σ K Q a w
  split at h
  .obtain⟨H,z⟩:=uo h k;refine E4 V2 N7 (fun n f w'=>∃m,n=some m/\IB P B C A x K σ m f w') (some H) ⟨_,rfl,z⟩ ?_;rintro n J M ⟨m,rfl,E⟩;exact uq q E (fun e b f w' j i d=>g e b f w' j i d) (fun u s f w' v=>⟨some u,s,u,rfl,v⟩)
  .refine E4 V2 N7 (fun n f w'=>(n=none/\f=a/\w'=w)\/∃m p,n=some m/\Ext σ p/\IB P B C A x K p m f w') none (.inl ⟨rfl,rfl,rfl⟩) ?_;rintro n J M (⟨rfl,rfl,rfl⟩|⟨m,p,rfl,t,E⟩)
   .refine vG l o A x σ _ _ J M h k (fun e b f w' j i d=> ?_);cases e with
    |ret=>exact g .ret b f w' j i d
    |exit id=>exact g (.exit id) b f w' j i d
    |normal=>
     obtain⟨H,z⟩:=uo i d;exact⟨some H,trivial,.inr ⟨_,b,rfl,j,z⟩⟩
   .exact uq q E (fun e b f w' j i d=>g e b f w' (t.trans j) i d) (fun u s f w' v=>⟨some u,s,.inr ⟨u,p,rfl,t,v⟩⟩)
 | .exit id,σ,K,Q,a,w,h,k,g=>wp_exit (g (.exit id) σ a w (Ext.refl _) h k)
 | .ret,σ,K,Q,a,w,h,k,g=>wp_ret (g .ret σ a w (Ext.refl _) h k)
 | .rangeFunc ..,_,_,_,_,_,h,_,_=>h.elim
 | .scope x,σ,K,Q,a,w,h,k,g=>by
  simp only[vcg] at h;refine wp_scope_straight (vG l o A x σ K _ a w h k (fun e b f w' j i d=> ?_));cases e with
  |normal=>exact g .normal b f w' j i d
  |ret=>exact g .ret b f w' j i d
  |exit id=>exact g (.exit id) b f w' j i d
 | .label _,σ,K,Q,a,w,h,k,g=>wp_label (g .normal σ a w (Ext.refl _) h k)
 | .goto _,_,_,_,_,_,h,_,_=>h.elim
 | .refuse _,_,_,_,_,_,h,_,_=>h.elim
end
end Go.X
