/-
  Part 2 of the road: a checked reading of bodies, and what the functions on it do (XM X11 X12 X13 X14 X15 X16 X17 X18 X19 X20 XL XG XS X21).
-/
import Derived.Test.YtnkahkkofmoipaaGreatDoorK01
import Derived.Orders
import Derived.Tactics
import Derived.Control
namespace Go.X
open Go.RowKit (Below)
section
variable {P:Program} {B:zF} {C:Ctx} {σ:St} {ρ:Env} {w:World} {o:Oper} {ev:Operand→Value} {out:Out}
theorem qS (w:World) (y:Obj):(w.alloc y).heap[w.heap.size]? =some y:=by
  show(w.heap.push y)[w.heap.size]? =some y;simp
theorem jsU {U dst:Nat} (hC:C.ok P) (hop:o.op= .makeMap U none) (h:jB C σ dst (.makeMap U none)=some out) (hS:Sat P B ρ σ.obj w)
    (hd:σ.obj dst=none) (hn:kz σ.obj dst):jC P o ev w (jz P B ρ σ out):=by
  simp only[jB,hC.lit] at h
  split at h
  case h_2=>rename_i e _;cases e
  case h_3=>cases h
  rename_i ti tk te _ hmp;simp at h;subst h;obtain⟨ρ',h1,h2,h3,_,_⟩:=jqm hS hd hn (.map #[] 0) 0 0 (.map false tk.ty te.ty []) (fun ρ' hH _ _=>by
    simp only[j9,fzM];refine⟨w.heap.size,0,#[],0,rfl,qS w _,⟨rfl,jGU _,fun i e he=>by simp at he,fun i j e e' he=>by simp at he,fun i x hx=>by simp at hx⟩,?_⟩;rw[hH];cases hc:ρ.H w.heap.size with
    |none=>rfl
    |some c=>have:=hS.good.lt hc;omega)
  refine j6 (v:= .map (some w.heap.size)) (w':=w.alloc (.map #[] 0)) (by simp[execOp,hop,Instr.makeMap]) ⟨ρ',?_,h2,?_,trivial⟩
  · simpa[q6,←wt] using h1
  · simp only[SV.den];intro p hp;rw[h3] at hp;simp at hp;subst hp;exact⟨_,_,rfl,rfl⟩
def jcD {α β:Type}:List (α×β)→List α
  |[]=>[]
  |x::r=>x.1::jcD r
theorem jsp {H:Imm} {kt vt:Ty}:∀(es:List MapEntry) (l:List (kt.Data×vt.Data)),es.length=l.length→(∀(i:Nat) (x:kt.Data×vt.Data),l[i]? =some x→∃e:MapEntry,es[i]? =some e∧kt.rv H e.key x.1∧vt.rv H e.val x.2)→jpz H kt es (jcD l)
  |[],[],_,_=>trivial
  |[],_::_,h,_=>by simp at h
  |_::_,[],h,_=>by simp at h
  |e::es,x::l,h,hx=>by
    refine⟨?_,jsp es l (by simpa using h) (fun i y hy=>by simpa using hx (i+1) y (by simpa using hy))⟩
    obtain⟨e',h1,h2,_⟩:=hx 0 x rfl
    simp at h1;subst h1
    exact h2
theorem v6 {H:Imm} {kt vt:Ty} (a:kt.Data):∀(es:List MapEntry) (l:List (kt.Data×vt.Data)) (i:Nat),es.length=l.length→(∀(i:Nat) (x:kt.Data×vt.Data),l[i]? =some x→∃e:MapEntry,es[i]? =some e∧kt.rv H e.key x.1∧vt.rv H e.val x.2)→
    (yB kt a (jcD l) es i=none∧zC kt a l=none∧(∀v:vt.Data,jgi kt a v l=l++[(a,v)]))∨
    ∃(j:Nat) (e:MapEntry) (x:kt.Data×vt.Data),yB kt a (jcD l) es i=some (i+j,e.val)∧zC kt a l=some x.2∧es[j]? =some e∧l[j]? =some x∧x.1=a∧kt.rv H e.key x.1∧vt.rv H e.val x.2∧∀v:vt.Data,jgi kt a v l=l.set j (a,v)
  |[],[],i,_,_=> .inl ⟨rfl,rfl,fun _=>rfl⟩
  |[],_::_,_,h,_=>by simp at h
  |_::_,[],_,h,_=>by simp at h
  |e::es,x::l,i,h,hx=>by
    obtain⟨e',h1,h2,h3⟩:=hx 0 x rfl
    simp at h1;subst h1
    by_cases hk: @decide (a=x.1) (kt.decEq a x.1)=true
    · refine .inr ⟨0,e,x,by simp only[jcD,yB,hk,if_true];rfl,by simp only[zC,hk,if_true],rfl,rfl,(@of_decide_eq_true _ (_) hk).symm,h2,h3,fun v=>by simp only[jgi,hk,if_true];rfl⟩
    · rcases v6 (H:=H) a es l (i+1) (by simpa using h) (fun i y hy=>by simpa using hx (i+1) y (by simpa using hy)) with⟨g1,g2,g3⟩|⟨j,e',x',g1,g2,g3,g4,g5,g6,g7,g8⟩
      · exact .inl ⟨by simp only[jcD,yB,hk];exact g1,by simp only[zC,hk];exact g2,fun v=>by simp only[jgi,hk];rw[show jgi kt a v l=_ from g3 v];rfl⟩
      · refine .inr ⟨j+1,e',x',by simp only[jcD,yB,hk];rw[show yB kt a (jcD l) es (i+1)=_ from g1];simp;omega,by simp only[zC,hk];exact g2,by simpa using g3,by simpa using g4,g5,g6,g7,fun v=>by simp only[jgi,hk];rw[show jgi kt a v l=_ from g8 v];rfl⟩
theorem jyk {ti:TI} (h:ti.ok P) (hk:zW ti.ty=true) (H:Imm):∃z,(∀w,(zeroValue ti.id).run P w= .ok z w)∧ti.ty.rv H z ti.ty.dflt:=by
  obtain⟨i,z,_,_,_,_,hz,hc,ha⟩:=qP h;obtain⟨k1,k2⟩:=h.known hk;refine⟨z,hz,by rw[ha,k1],?_,?_⟩
  · rw[←jHm,hc,h.zlen,k2]
  · refine Ty.rd_congr _ _ _ _ (fun j _=> ?_) (h.zd hk H);rw[←hc];simp
theorem ju2 {U dst:Nat} {x ix:Operand} {ok:Bool} (hC:C.ok P) (hop:o.op= .lookup U x ix ok) (h:jB C σ dst (.lookup U x ix ok)=some out) (hS:Sat P B ρ σ.obj w)
    (hx:SV.den P ρ (jL σ x) (ev x)) (hix:SV.den P ρ (jL σ ix) (ev ix)):jC P o ev w (jz P B ρ σ out):=by
  simp only[jB] at h
  split at h
  case h_2=>cases h
  rename_i ti tk te hmp;obtain⟨_,ok2,ok3,hund,hkq,hte⟩:=jbe hC hmp;obtain⟨q1,q2,_⟩:=ok2.keyq hkq
  split at h
  case h_2=>cases h
  rename_i l k hl hk;have hkr:=jM hS (fz:=[]) (fun o=>⟨.inl rfl,fun ho=>by simp at ho⟩) hk (fun o ho=>ho) hix;obtain⟨z,hz,hzr⟩:=jyk ok3 hte ρ.H;have key:∃v:Value,te.ty.rv ρ.H v (wc te.ty.dflt (zC tk.ty k l))∧(execOp ev o).run P w= .ok (.value (if ok then .tuple #[v,.bool (jFs (zC tk.ty k l))] else v)) w:=by
    rcases jmv hS hl hx with⟨e,rfl⟩|⟨b,es,clock,e,e1,e2⟩
    · refine⟨z,hzr,?_⟩;have c1:=q1 ρ.H (ev ix) k w true hkr;have c2:=q2 ρ.H [] [] (ev ix) k w hkr trivial;simp[execOp,hop,Instr.lookup,run_underlying hund,e,c1,c2,yB,hz,zC,jFs]
    · have hg:(getObj b).run P w= .ok (.map es clock) w:=(by simp[getObj,Sem.run,e1]);have c1:=q1 ρ.H (ev ix) k w es.isEmpty hkr;have hlen:es.toList.length=l.length:=(by simpa using e2.1);have hget:∀(i:Nat) (x:tk.ty.Data×te.ty.Data),l[i]? =some x→∃e:MapEntry,es.toList[i]? =some e∧tk.ty.rv ρ.H e.key x.1∧te.ty.rv ρ.H e.val x.2:=fun i x hx=>by simpa using e2.2.2.2.2 i x hx
      have c2:=q2 ρ.H es.toList (jcD l) (ev ix) k w hkr (jsp _ _ hlen hget);rcases v6 (H:=ρ.H) k es.toList l 0 hlen hget with⟨g1,g2,_⟩|⟨j,e',x',g1,g2,g3,g4,g5,g6,g7,_⟩
      · refine⟨z,by rw[g2];exact hzr,?_⟩;rw[g1] at c2;simp[execOp,hop,Instr.lookup,run_underlying hund,e,hg,c1,c2,hz,g2,jFs]
      · refine⟨e'.val,by rw[g2];exact g7,?_⟩;rw[g1] at c2;simp[execOp,hop,Instr.lookup,run_underlying hund,e,hg,c1,c2,g2,jFs]
  obtain⟨v,hv,hrun⟩:=key
  split at h
  · simp only[Out.pure,Option.some.injEq] at h;subst h;refine jj hS (v:=_) (by simpa using hrun) ?_ trivial;simp only[SV.den,SV.denL];exact⟨_,rfl,_,_,rfl,hv,_,_,rfl,w5 _,rfl⟩
  · simp only[Out.pure,Option.some.injEq] at h;subst h;exact jj hS (v:=v) (by simpa using hrun) (by simpa only[SV.den] using hv) trivial
theorem jfo {U:Nat} {m ix x:Operand} (hC:C.ok P) (hop:o.op= .mapUpdate U m ix x∨o.op= .insert U m ix x) (h:jBp C σ U m ix x=some out) (hS:Sat P B ρ σ.obj w)
    (hm:SV.den P ρ (jL σ m) (ev m)) (hix:SV.den P ρ (jL σ ix) (ev ix)) (hx:SV.den P ρ (jL σ x) (ev x)):jC P o ev w (jz P B ρ σ out):=by
  unfold jBp at h
  split at h
  case h_2=>cases h
  rename_i ti tk te hmp;obtain⟨_,ok2,ok3,hund,hkq,hte⟩:=jbe hC hmp;obtain⟨q1,q2,q3⟩:=ok2.keyq hkq
  split at h
  case h_2=>cases h
  rename_i ob hob;rw[hob] at hm
  split at h
  case h_2=>cases h
  rename_i kt vt l ho
  split at h
  case h_2=>cases h
  rename_i l' k v fz hc hk hv
  split at h
  case h_2=>cases h
  rename_i hmem;have hmem:=yP hmem;simp at h;subst h;obtain⟨e,rfl⟩:=jl hc;obtain⟨e1,e2⟩:kt=tk.ty∧vt=te.ty:=by injection e with a b;exact⟨a,b⟩
  subst e1;subst e2;have hcast:qU e l=l:=rfl;rw[hcast];obtain⟨ρ1,hS1,hle1,hb1,hn1⟩:=jP (σ:=σ) fz hS;have hkr:=jM hS (fz:=[]) (fun o=>⟨.inl rfl,fun ho=>by simp at ho⟩) hk (fun o ho=>ho) hix;have hkr1:=Ty.rv_mono hle1.H hkr;have hvr:=jM hS1 (qa σ fz) hv (fun o ho=>ho) (SV.den_mono hle1 _ _ (fun r hr=>by simp at hr) hx);have ho1:(σ.frz fz).obj ob=some (.map false tk.ty te.ty l):=(by rw[ku,if_neg hmem];exact ho);obtain⟨p,hp,hs⟩:=hS1.obs ob _ ho1;simp only[j9,fzM] at hs;obtain⟨b,Cp,es,clock,rfl,k1,k2,k3⟩:=hs;simp only[SV.den] at hm;obtain⟨b',C',f1,f2⟩:=hm _ (by rw[←hb1];exact hp);simp at f1;obtain⟨rfl,rfl⟩:=f1;have hg:(getObj b).run P w= .ok (.map es clock) w:=(by simp[getObj,Sem.run,k1]);have hset:∀y:Obj,(setObj b y).run P w= .ok () {w with heap:=w.heap.setIfInBounds b y}:=fun y=>by simp[setObj,Sem.run,k1]
  have hblt:b<w.heap.size:=(jGZ.1 k1).1;have c1:=q1 ρ.H (ev ix) k w false hkr;obtain⟨m1,m2,m3,m4,m5⟩:=k2;have hlen:es.toList.length=l.length:=(by simpa using m1);have hget:∀(i:Nat) (x:tk.ty.Data×te.ty.Data),l[i]? =some x→∃e:MapEntry,es.toList[i]? =some e∧tk.ty.rv ρ1.H e.key x.1∧te.ty.rv ρ1.H e.val x.2:=fun i x hx=>by simpa using m5 i x hx
  have c2:=q2 ρ1.H es.toList (jcD l) (ev ix) k w hkr1 (jsp _ _ hlen hget);have fin:∀(es':Array MapEntry) (clock':Nat),jei ρ1.H tk.ty te.ty es' clock' (jgi tk.ty k v l)→(execOp ev o).run P w= .ok .skip {w with heap:=w.heap.setIfInBounds b (.map es' clock')}→jC P o ev w (jz P B ρ σ ⟨[],[],.any,fz,[(ob,some (.map false tk.ty te.ty (jgi tk.ty k v l)))],[]⟩):=by
    intro es' clock' hrd hrun;refine jh4 hrun ⟨ρ1,?_,hle1,wg _,trivial⟩;have:=jdz hS1 hp k3 (.map false tk.ty te.ty (jgi tk.ty k v l)) (w':={w with heap:=w.heap.setIfInBounds b (.map es' clock')}) ⟨rfl,rfl,rfl,jGU _,by simp,fun j hj=>(by show(w.heap.setIfInBounds b _)[j]? =_;rw[jG7,if_neg (fun h=>hj h.symm)])⟩ (by
      simp only[j9,fzM];exact⟨b,Cp,es',clock',rfl,by simp[hblt],hrd,k3⟩)
    rw[jHi,jHh];show Sat P B ρ1 ({(σ.frz fz) with ob:=(ob,_)::(σ.frz fz).ob}:St).obj _;rw[wt];exact this
  rcases v6 (H:=ρ1.H) k es.toList l 0 hlen hget with⟨g1,g2,g3⟩|⟨j,e',x',g1,g2,g3,g4,g5,g6,g7,g8⟩
  · rw[g1] at c2;refine fin (es.push {key:=ev ix,val:=ev x,born:=clock}) (clock+1) ?_ ?_
    · rw[g3];have hlt:∀(i:Nat) (e:MapEntry),(es.push {key:=ev ix,val:=ev x,born:=clock})[i]? =some e→(i<es.size∧es[i]? =some e)∨(i=es.size∧e={key:=ev ix,val:=ev x,born:=clock}):=by
        intro i e he;rw[jH8] at he
        split at he
        · rename_i hi;simp at he;exact .inr ⟨hi,he.symm⟩
        · exact .inl ⟨(jGZ.1 he).1,he⟩
      refine⟨by simp[m1],by simp;omega,fun i e he=> ?_,fun i j e e' he he' hb=> ?_,fun i y hy=> ?_⟩
      · rcases hlt i e he with⟨_,h⟩|⟨_,rfl⟩
        · have:=m3 i e h;omega
        · simp
      · rcases hlt i e he with⟨h0,h⟩|⟨h0,rfl⟩<;>rcases hlt j e' he' with⟨h0',h'⟩|⟨h0',rfl⟩
        · exact m4 i j e e' h h' hb
        · have:=m3 i e h;simp at hb;omega
        · have:=m3 j e' h';simp at hb;omega
        · omega
      · by_cases hi:i<l.length
        · rw[jG4 hi] at hy;obtain⟨e,h1,h2,h3⟩:=m5 i y hy;exact⟨e,by rw[jH8,if_neg (by omega)];exact h1,h2,h3⟩
        · rw[jG3 (by omega)] at hy;have:i-l.length=0:=by
            by_cases e:i-l.length=0
            · exact e
            · obtain⟨q,hq⟩:∃q,i-l.length=q+1:=⟨i-l.length-1,by omega⟩;rw[hq] at hy;simp at hy
          rw[this] at hy;simp at hy;subst hy;exact⟨{key:=ev ix,val:=ev x,born:=clock},by rw[jH8,if_pos (by omega)],hkr1,hvr⟩
    · rcases hop with hop|hop<;>simp[execOp,hop,Instr.mapUpdate,run_underlying hund,f2,hg,c1,c2,hset]
  · rw[g1] at c2;have hsb:=q3 ρ1.H e'.key (ev ix) k (g5▸g6) hkr1;have g3':es[j]? =some e':=(by simpa using g3);refine fin (es.modify j fun e=>{e with key:=ev ix,val:=ev x}) clock ?_ ?_
    · rw[g8];have hmod:∀(i:Nat) (e:MapEntry),(es.modify j fun e=>{e with key:=ev ix,val:=ev x})[i]? =some e→(i≠j∧es[i]? =some e)∨(i=j∧e={e' with key:=ev ix,val:=ev x}):=by
        intro i e he;rw[jHK] at he
        split at he
        · rename_i hi;subst hi;rw[g3'] at he;simp at he;exact .inr ⟨rfl,he.symm⟩
        · rename_i hi;exact .inl ⟨fun h=>hi h.symm,he⟩
      refine⟨by simp[m1],by simpa using m2,fun i e he=> ?_,fun i i' e e2 he he' hb=> ?_,fun i y hy=> ?_⟩
      · rcases hmod i e he with⟨_,h⟩|⟨rfl,rfl⟩
        · exact m3 i e h
        · exact m3 i e' g3'
      · rcases hmod i e he with⟨h0,h⟩|⟨rfl,rfl⟩<;>rcases hmod i' e2 he' with⟨h0',h'⟩|⟨rfl,rfl⟩
        · exact m4 i i' e e2 h h' hb
        · exact m4 i i' e e' h g3' hb
        · exact m4 i i' e' e2 g3' h' hb
        · rfl
      · rw[List.getElem?_set] at hy;by_cases hij:j=i
        · subst hij;rw[if_pos rfl] at hy;have hjl:j<l.length:=(by have:=(jGW.1 g4).1;exact this);rw[if_pos hjl] at hy;simp at hy;subst hy;exact⟨{e' with key:=ev ix,val:=ev x},by rw[jHK,if_pos rfl,g3'];rfl,hkr1,hvr⟩
        · rw[if_neg hij] at hy;obtain⟨e,h1,h2,h3⟩:=m5 i y hy;exact⟨e,by rw[jHK,if_neg hij];exact h1,h2,h3⟩
    · have hks:(Instr.keyThatStays e'.key (ev ix)).run P w= .ok (ev ix) w:=(by simp[Instr.keyThatStays,hsb]);rcases hop with hop|hop<;>simp[execOp,hop,Instr.mapUpdate,run_underlying hund,f2,hg,c1,c2,hset,g3',hks]
theorem jzf {H:Imm} {kt vt:Ty} {es:Array MapEntry} {clock:Nat} {l:List (kt.Data×vt.Data)} (h:jei H kt vt es clock l) {kv vv:Value} {k:kt.Data} {v:vt.Data} (hk:kt.rv H kv k) (hv:vt.rv H vv v):
    jei H kt vt (es.push {key:=kv,val:=vv,born:=clock}) (clock+1) (l++[(k,v)]):=by
  obtain⟨m1,m2,m3,m4,m5⟩:=h;have hlt:∀(i:Nat) (e:MapEntry),(es.push {key:=kv,val:=vv,born:=clock})[i]? =some e→(i<es.size∧es[i]? =some e)∨(i=es.size∧e={key:=kv,val:=vv,born:=clock}):=by
    intro i e he;rw[jH8] at he
    split at he
    · rename_i hi;simp at he;exact .inr ⟨hi,he.symm⟩
    · exact .inl ⟨(jGZ.1 he).1,he⟩
  refine⟨by simp[m1],by simp;omega,fun i e he=> ?_,fun i j e e' he he' hb=> ?_,fun i y hy=> ?_⟩
  · rcases hlt i e he with⟨_,h⟩|⟨_,rfl⟩
    · have:=m3 i e h;omega
    · simp
  · rcases hlt i e he with⟨h0,h⟩|⟨h0,rfl⟩<;>rcases hlt j e' he' with⟨h0',h'⟩|⟨h0',rfl⟩
    · exact m4 i j e e' h h' hb
    · have:=m3 i e h;simp at hb;omega
    · have:=m3 j e' h';simp at hb;omega
    · omega
  · by_cases hi:i<l.length
    · rw[jG4 hi] at hy;obtain⟨e,h1,h2,h3⟩:=m5 i y hy;exact⟨e,by rw[jH8,if_neg (by omega)];exact h1,h2,h3⟩
    · rw[jG3 (by omega)] at hy;have:i-l.length=0:=by
        by_cases e:i-l.length=0
        · exact e
        · obtain⟨q,hq⟩:∃q,i-l.length=q+1:=⟨i-l.length-1,by omega⟩;rw[hq] at hy;simp at hy
      rw[this] at hy;simp at hy;subst hy;exact⟨{key:=kv,val:=vv,born:=clock},by rw[jH8,if_pos (by omega)],hk,hv⟩
theorem jC7 {H:Imm} {kt vt:Ty} {es:Array MapEntry} {clock:Nat} {l:List (kt.Data×vt.Data)} (h:jei H kt vt es clock l) {j:Nat} {e':MapEntry} (hj:es[j]? =some e') {f:MapEntry→MapEntry} (hb:(f e').born=e'.born)
    {k:kt.Data} {v:vt.Data} (hk:kt.rv H (f e').key k) (hv:vt.rv H (f e').val v):jei H kt vt (es.modify j f) clock (l.set j (k,v)):=by
  obtain⟨m1,m2,m3,m4,m5⟩:=h;have hmod:∀(i:Nat) (e:MapEntry),(es.modify j f)[i]? =some e→(i≠j∧es[i]? =some e)∨(i=j∧e=f e'):=by
    intro i e he;rw[jHK] at he
    split at he
    · rename_i hi;subst hi;rw[hj] at he;simp at he;exact .inr ⟨rfl,he.symm⟩
    · rename_i hi;exact .inl ⟨fun h=>hi h.symm,he⟩
  refine⟨by simp[m1],by simpa using m2,fun i e he=> ?_,fun i i' e e2 he he' hbb=> ?_,fun i y hy=> ?_⟩
  · rcases hmod i e he with⟨_,h⟩|⟨rfl,rfl⟩
    · exact m3 i e h
    · rw[hb];exact m3 i e' hj
  · rcases hmod i e he with⟨h0,h⟩|⟨rfl,rfl⟩<;>rcases hmod i' e2 he' with⟨h0',h'⟩|⟨rfl,rfl⟩
    · exact m4 i i' e e2 h h' hbb
    · exact m4 i i' e e' h hj (hbb.trans hb)
    · exact m4 i i' e' e2 hj h' (hb.symm.trans hbb)
    · rfl
  · rw[List.getElem?_set] at hy;by_cases hij:j=i
    · subst hij;have hjl:j<l.length:=(by have:=(jGZ.1 hj).1;omega);rw[if_pos rfl,if_pos hjl] at hy;simp at hy;subst hy;exact⟨f e',by rw[jHK,if_pos rfl,hj];rfl,hk,hv⟩
    · rw[if_neg hij] at hy;obtain⟨e,h1,h2,h3⟩:=m5 i y hy;exact⟨e,by rw[jHK,if_neg hij];exact h1,h2,h3⟩
theorem jyW {U:Nat} {ti tk te:TI} (hC:C.ok P) (hmp:C.mapT U=some (ti,tk,te)) {H:Imm} {b:Nat} {es:Array MapEntry} {clock:Nat} {l:List (tk.ty.Data×te.ty.Data)} (hw:w.heap[b]? =some (.map es clock))
    (hrd:jei H tk.ty te.ty es clock l) {kv:Value} {k:tk.ty.Data} (hk:tk.ty.rv H kv k):
    ∃(v:Value) (s:Int) (es':Array MapEntry) (clock':Nat),(Instr.mapEntry U (.map (some b)) kv).run P w= .ok (.tuple #[v,.int .i64 s]) {w with heap:=w.heap.setIfInBounds b (.map es' clock')}∧
      jei H tk.ty te.ty es' clock' (jbc tk.ty te.ty.dflt k l)∧te.ty.rv H v (wc te.ty.dflt (zC tk.ty k l))∧
      ∃(j:Nat) (e:MapEntry),es'[j]? =some e∧(e.born:Int)=s∧∀v,jgi tk.ty k v l=(jbc tk.ty te.ty.dflt k l).set j (k,v):=by
  obtain⟨_,ok2,ok3,hund,hkq,hte⟩:=jbe hC hmp;obtain⟨q1,q2,q3⟩:=ok2.keyq hkq;have hg:(getObj b).run P w= .ok (.map es clock) w:=(by simp[getObj,Sem.run,hw]);have hset:∀y:Obj,(setObj b y).run P w= .ok () {w with heap:=w.heap.setIfInBounds b y}:=fun y=>by simp[setObj,Sem.run,hw]
  have c1:=q1 H kv k w false hk;have hlen:es.toList.length=l.length:=(by simpa using hrd.1);have hget:∀(i:Nat) (x:tk.ty.Data×te.ty.Data),l[i]? =some x→∃e:MapEntry,es.toList[i]? =some e∧tk.ty.rv H e.key x.1∧te.ty.rv H e.val x.2:=fun i x hx=>by simpa using hrd.2.2.2.2 i x hx
  have c2:=q2 H es.toList (jcD l) kv k w hk (jsp _ _ hlen hget);rcases v6 (H:=H) k es.toList l 0 hlen hget with⟨g1,g2,g3⟩|⟨j,e',x',g1,g2,g3,g4,g5,g6,g7,g8⟩
  · rw[g1] at c2;obtain⟨z,hz,hzr⟩:=jyk ok3 hte H;have hl:jbc tk.ty te.ty.dflt k l=l++[(k,te.ty.dflt)]:=(by unfold jbc;rw[g2,g3];rfl);refine⟨z,clock,es.push {key:=kv,val:=z,born:=clock},clock+1,?_,?_,by rw[g2];exact hzr,l.length,{key:=kv,val:=z,born:=clock},?_,rfl,fun v=> ?_⟩
    · simp[Instr.mapEntry,run_underlying hund,hg,c1,c2,hset,hz,goInt]
    · rw[hl];exact jzf hrd hk hzr
    · rw[jH8,if_pos hrd.1.symm]
    · rw[hl,g3,List.set_append_right _ _ (jGU _)];simp
  · rw[g1] at c2;have g3':es[j]? =some e':=(by simpa using g3);have hsb:=q3 H e'.key kv k (g5▸g6) hk;have hl:jbc tk.ty te.ty.dflt k l=l.set j (k,x'.2):=(by unfold jbc;rw[g2,g8];rfl);have hks:(Instr.keyThatStays e'.key kv).run P w= .ok kv w:=(by simp[Instr.keyThatStays,hsb]);refine⟨e'.val,e'.born,es.modify j fun e=>{e with key:=kv},clock,?_,?_,by rw[g2];exact g7,j,{e' with key:=kv},?_,rfl,fun v=> ?_⟩
    · simp[Instr.mapEntry,run_underlying hund,hg,c1,c2,hset,g3',hks,goInt]
    · rw[hl];exact jC7 hrd g3' rfl hk g7
    · rw[jHK,if_pos rfl,g3'];rfl
    · rw[hl,g8,List.set_set]
theorem jm6 {U dst:Nat} {m st x:Operand} (hC:C.ok P) (hop:o.op= .entryStore U m st x) (h:jB C σ dst (.entryStore U m st x)=some out) (hS:Sat P B ρ σ.obj w)
    (hm:SV.den P ρ (jL σ m) (ev m)) (hst:SV.den P ρ (jL σ st) (ev st)) (hx:SV.den P ρ (jL σ x) (ev x)) (hvc:kR out.vc):jC P o ev w (jz P B ρ σ out):=by
  simp only[jB] at h
  split at h
  case h_2=>cases h
  rename_i ti tk te hmp
  split at h
  case h_2=>cases h
  rename_i ob s hob hs;rw[hob] at hm
  split at h
  case h_2=>cases h
  rename_i kt vt l k s' ho
  split at h
  case h_2=>cases h
  rename_i l' k' v fz hc hk hv
  split at h
  case h_2=>cases h
  rename_i hmem;have hmem:=yP hmem;simp at h;subst h;obtain⟨e,rfl⟩:=jl hc;obtain⟨e1,e2⟩:kt=tk.ty∧vt=te.ty:=by injection e with a b;exact⟨a,b⟩
  subst e1;subst e2;obtain⟨ek,hkk⟩:=jl hk;have hkk:k=k':=(by first|exact hkk|exact hkk.symm);subst hkk;have hcast:qU e l=l:=rfl;rw[hcast];simp only[kR] at hvc;obtain⟨hss,_⟩:=hvc;have hsv:ev st= .int .i64 s:=wk (i:=s) (by rw[hs];rfl) hst;obtain⟨ρ1,hS1,hle1,hb1,hn1⟩:=jP (σ:=σ) fz hS;have hvr:=jM hS1 (qa σ fz) hv (fun o ho=>ho) (SV.den_mono hle1 _ _ (fun r hr=>by simp at hr) hx);have ho1:(σ.frz fz).obj ob=some (.mape tk.ty te.ty l k s'):=(by rw[ku,if_neg hmem];exact ho);obtain⟨p,hp,hs1⟩:=hS1.obs ob _ ho1;simp only[j9] at hs1;obtain⟨b,Cp,es,clock,rfl,k1,k2,k3,j,e',j1,j2,j3⟩:=hs1;simp only[SV.den] at hm;obtain⟨b',C',f1,f2⟩:=hm _ (by rw[←hb1];exact hp);simp at f1;obtain⟨rfl,rfl⟩:=f1;have hg:(getObj b).run P w= .ok (.map es clock) w:=(by simp[getObj,Sem.run,k1]);have hset:∀y:Obj,(setObj b y).run P w= .ok () {w with heap:=w.heap.setIfInBounds b y}:=fun y=>by simp[setObj,Sem.run,k1]
  have hblt:b<w.heap.size:=(jGZ.1 k1).1;obtain⟨hjlt,hje⟩:=jGZ.1 j1;have hfind:es.findIdx? (fun e=>(e.born:Int)==s)=some j:=by
    rw[Array.findIdx?_eq_some_iff_getElem];refine⟨hjlt,by rw[hje];simp[j2,hss],fun i hi=> ?_⟩;have hil:i<es.size:=(by omega);intro hbad;have hbad:((es[i]).born:Int)=s:=(by simpa using hbad);have:=k2.2.2.2.1 i j es[i] e' (jHe hil) j1 (by
      have h1:((es[i]).born:Int)=(e'.born:Int):=by rw[hbad,j2,hss]
      exact_mod_cast h1)
    omega
  have hjl:j<(jbc tk.ty te.ty.dflt k l).length:=(by have:=k2.1;omega);have hkey:tk.ty.rv ρ1.H e'.key k:=by
    obtain⟨e2,h1,h2,_⟩:=k2.2.2.2.2 j _ (jGY hjl);rw[j1] at h1;simp at h1;subst h1;have h3:=j3 (wc te.ty.dflt (zC tk.ty k l));have h4:((jbc tk.ty te.ty.dflt k l)[j]).1=k:=by
      have:(jbc tk.ty te.ty.dflt k l)[j]? =some (k,wc te.ty.dflt (zC tk.ty k l)):=by
        conv=>lhs;rw[show jbc tk.ty te.ty.dflt k l=_ from h3]
        rw[List.getElem?_set,if_pos rfl,if_pos hjl]
      rw[jGY hjl] at this;simp at this;rw[this]
    rw[h4] at h2;exact h2
  have hrun:(execOp ev o).run P w= .ok .skip {w with heap:=w.heap.setIfInBounds b (.map (es.modify j fun e=>{e with val:=ev x}) clock)}:=by
    simp[execOp,hop,Instr.entryStore,f2,hg,hsv,Go.asInt,asIntOf,hfind,hset]
  refine jh4 hrun ⟨ρ1,?_,hle1,wg _,trivial⟩;have:=jdz hS1 hp k3 (.map false tk.ty te.ty (jgi tk.ty k v l)) (w':={w with heap:=w.heap.setIfInBounds b (.map (es.modify j fun e=>{e with val:=ev x}) clock)}) ⟨rfl,rfl,rfl,jGU _,by simp,fun j hj=>(by show(w.heap.setIfInBounds b _)[j]? =_;rw[jG7,if_neg (fun h=>hj h.symm)])⟩ (by
    simp only[j9,fzM];refine⟨b,Cp,es.modify j fun e=>{e with val:=ev x},clock,rfl,by simp[hblt],?_,k3⟩;rw[j3];exact jC7 k2 j1 rfl hkey hvr)
  rw[jHi,jHh];show Sat P B ρ1 ({(σ.frz fz) with ob:=(ob,_)::(σ.frz fz).ob}:St).obj _;rw[wt];exact this
theorem jxL {U dst:Nat} {x:Operand} (hC:C.ok P) (hop:o.op= .range U x) (h:jB C σ dst (.range U x)=some out) (hS:Sat P B ρ σ.obj w)
    (hd:σ.obj dst=none) (hn:kz σ.obj dst) (hx:SV.den P ρ (jL σ x) (ev x)):jC P o ev w (jz P B ρ σ out):=by
  simp only[jB] at h
  split at h
  case h_2=>cases h
  rename_i ti tk te hmp;obtain⟨_,_,_,hund,_,_⟩:=jbe hC hmp
  split at h
  case h_2=>cases h
  rename_i l fz hl;simp at h;subst h;obtain⟨ρ1,hS1,hle1,hb1,hn1⟩:=jP (σ:=σ) fz hS;have hr:=jM hS1 (qa σ fz) hl (fun o ho=>ho) (SV.den_mono hle1 _ _ (fun r hr=>by simp at hr) hx);obtain⟨p,h1,h2,h3⟩:=zb (t:= .map tk.ty te.ty) rfl hr;simp at h1;have hd1:(σ.frz fz).obj dst=none:=(by rw[ku,hd];simp);have hn1:kz (σ.frz fz).obj dst:=by
    intro r T f cs hr;rw[ku] at hr
    split at hr
    · cases hx:σ.obj r with
      |none=>rw[hx] at hr;cases hr
      |some y=>
        rw[hx] at hr;cases y<;>simp[z8] at hr
        obtain⟨rfl,_,rfl⟩:=hr;exact hn r _ _ _ hx
    · exact hn r T f cs hr
  have fin:∀(y:Obj),jfu ρ1.H tk.ty te.ty l none y→(execOp ev o).run P w= .ok (.value (.pointer (some ⟨w.heap.size,0,none⟩))) (w.alloc y)→jC P o ev w (jz P B ρ σ ⟨[],[],.ip dst,fz,[(dst,some (.iter tk.ty te.ty l none))],[dst]⟩):=by
    intro y hy hrun;obtain⟨ρ',g1,g2,g3,_,_⟩:=jqm hS1 hd1 hn1 y 0 0 (.iter tk.ty te.ty l none) (fun ρ' hH _ _=>by
      simp only[j9];refine⟨w.heap.size,0,y,rfl,qS w _,by rw[hH];exact hy,?_⟩;rw[hH];cases hc:ρ1.H w.heap.size with
      |none=>rfl
      |some c=>have:=hS1.good.lt hc;omega)
    refine j6 hrun ⟨ρ',?_,(hle1.weaken (fun o ho=>by simp at ho)).trans g2,?_,trivial⟩
    · rw[jHi,jHh];show Sat P B ρ' ({(σ.frz fz) with ob:=(dst,_)::(σ.frz fz).ob}:St).obj _;rw[wt];exact g1
    · simp only[SV.den];intro p hp;rw[g3] at hp;simp at hp;subst hp;exact⟨_,_,rfl,rfl⟩
  cases p with
  |none=>
    have:=h2 rfl;subst this;refine fin (.mapIter none 0 #[] 0) ⟨rfl,rfl⟩ ?_;simp[execOp,hop,Instr.range,run_underlying hund,h1]
  |some b=>
    obtain⟨es,clock,e1,e2,e3,e4,e5,e6⟩:=h3 b rfl;have hw:=hS1.good.1 b _ e1;have hg:(getObj b).run P w= .ok (.map es clock) w:=by
      have:w.heap[b]? =some (.map es clock):=hw;simp[getObj,Sem.run,this]
    refine fin (.mapIter (some b) clock #[] clock) ⟨es,clock,e1,rfl,e4,e5,.inl rfl,⟨es.toList,?_,by simpa using e2,fun i x hx=> ?_⟩,trivial⟩ ?_
    · rw[List.filter_eq_self.2];intro e _;simp
    · obtain⟨e,q1,q2,q3⟩:=e6 i x hx;exact⟨e,by simpa using q1,q2,q3⟩
    · simp[execOp,hop,Instr.range,run_underlying hund,h1,hg]
theorem jxP {dst:Nat} {it:Operand} (hop:o.op= .entry it) (h:jB C σ dst (.entry it)=some out) (hS:Sat P B ρ σ.obj w)
    (hit:SV.den P ρ (jL σ it) (ev it)):jC P o ev w (jz P B ρ σ out):=by
  simp only[jB] at h
  split at h
  case h_2=>cases h
  rename_i ob hob;rw[hob] at hit
  split at h
  case h_2=>cases h
  rename_i kt vt left x ho;simp only[Out.pure,Option.some.injEq] at h;subst h;obtain⟨p,hp,hs⟩:=hS.obs ob _ ho;simp only[j9] at hs;obtain⟨b,Cp,y,rfl,k1,k2,k3⟩:=hs;simp only[SV.den] at hit;obtain⟨b',C',e1,e2⟩:=hit _ hp;simp at e1;obtain⟨rfl,rfl⟩:=e1;unfold jfu at k2
  split at k2
  · exact absurd k2.2 (by simp)
  · rename_i m since seen stepped;obtain⟨es,clock,h1,h2,h3,h4,h5,_,h7,e,g1,g2,g3,g4⟩:=k2;have hm:w.heap[m]? =some (.map es clock):=hS.good.1 m _ h1;have hg1:(getObj b).run P w= .ok (.mapIter (some m) since seen stepped) w:=(by simp[getObj,Sem.run,k1]);have hg2:(getObj m).run P w= .ok (.map es clock) w:=(by simp[getObj,Sem.run,hm]);have hfind:es.find? (·.born==e.born)=some e:=by
      cases hf:es.find? (·.born==e.born) with
      |none=>
        have:=Array.find?_eq_none.1 hf e (by simpa using g1);simp at this
      |some e'=>
        have hb:=Array.find?_some hf;simp at hb;have hmem:=Array.mem_of_find?_eq_some hf;obtain⟨i,hi⟩:=Array.getElem?_of_mem hmem;obtain⟨j,hj⟩:=Array.getElem?_of_mem (show e∈es by simpa using g1);have:=h4 i j e' e hi hj hb;subst this;rw[hi] at hj;exact hj
    refine jj hS (v:= .tuple #[e.key,e.val]) ?_ ?_ trivial
    · simp[execOp,hop,Instr.entry,e2,hg1,hg2,g2,h7,hfind]
    · simp only[SV.den,SV.denL];exact⟨_,rfl,_,_,rfl,g3,_,_,rfl,g4,rfl⟩
  · exact k2.elim
theorem joj {U dst:Nat} {l c:Operand} (hC:C.ok P) (hop:o.op= .makeSlice U l c) (h:jB0 C σ dst U l c=some out) (hS:Sat P B ρ σ.obj w) (hd:σ.obj dst=none) (hn:kz σ.obj dst)
    (hev:∀x,SV.den P ρ (jL σ x) (ev x)) (hvc:kR out.vc):jC P o ev w (jz P B ρ σ out):=by
  unfold jB0 at h
  split at h
  case h_2=>cases h
  rename_i ti te n m hsl hl hc;simp at h;subst h;simp only[kR] at hvc;obtain⟨h0,hnm,hbytes,_⟩:=hvc;subst hnm;obtain⟨_,hte,_,hokE,hund,hka,hks,hpos⟩:=zn hC hsl;obtain⟨i,z,g0,g1,g2,g3,g4,g5⟩:=hokE.info;rw[hte] at g0;have hlv:=wk hl (hev l);have hcv:=wk hc (hev c);obtain⟨k,hnk⟩:∃k:Nat,n=(k:Int):=Int.eq_ofNat_of_zero_le h0;subst hnk;rw[jGX] at hbytes⊢;have hkn:=jf0 hsl;have hbpos:0<te.bytes:=(hokE.pos hkn).2;have hk2:k≤140737488355328:=by
    have:k*1≤k*te.bytes:=jH7 _ hbpos;omega
  have hzs:z.cells.size=te.ty.size:=(by rw[←jHm,g4,hokE.zlen,hks]);have hsz:i.size=te.ty.size:=(by rw[g1,hks]);have hby:(i.bytes:Int)*(k:Int)≤281474976710656:=by
    have:i.bytes*k≤281474976710656:=(by rw[g2,Nat.mul_comm];omega);have h2:((i.bytes*k:Nat):Int)≤281474976710656:=by omega
    rwa [Int.natCast_mul] at h2
  have hrunA:=run_make (P:=P) w U ti.elem i z hund g0 g3 .i64 .i64 (k:Int) (k:Int) (by omega) (jHT _) hby (by omega);rw[jGX] at hrunA;have hrun:(execOp ev o).run P w= .ok (.value (.slice (some ⟨w.heap.size,0,none⟩) k k)) (w.alloc (.cells (madeCells z.cells (k*i.size)) ti.elem)):=by
    simp only[execOp,hop,hlv,hcv,Sem.run_bind,hrunA,Result.andThen_ok,Sem.run_pure]
  have hm1:(madeCells z.cells (k*i.size)).size=k*te.ty.size:=(by rw[size_madeCells,hsz]);obtain⟨ρ',q1,q2,q3,q4,q5⟩:=jl8 hS (own:=none) hd hn (World.grownBy_alloc w (.cells (madeCells z.cells (k*i.size)) ti.elem) none) (jGU _) (by simp) (some (w.heap.size,k)) (fun b C hbC=>by simp at hbC;exact .inr hbC.1.symm) k
    (.row ti.elem te.ty false .no (List.replicate k te.ty.dflt)) (fun ρ' hH hlen' _=>by
      refine⟨by rw[hlen'];simp,by simp;omega,fun _=> ?_,_,qS w _,hm1,by simp,by simp only[maxLen];omega,fun j x hx=> ?_,?_⟩
      · rename_i hh;cases hh
      · rw[hH];have hi:j<k:=(by have:=(jGW.1 hx).1;simpa using this);have hx':x=te.ty.dflt:=by
          rw[List.getElem?_replicate,if_pos hi] at hx;simpa using hx.symm
        subst hx';refine te.ty.rd_congr _ _ _ (fun q hq=> ?_) (hokE.zd hkn ρ.H);have hlt:j*te.ty.size+q<k*te.ty.size:=by
          have:(j+1)*te.ty.size≤k*te.ty.size:=jG8 _ hi;rw[jHA] at this;omega
        have hj':q<z.cells.size:=(by rw[hzs];exact hq);have hmod:(j*te.ty.size+q)%z.cells.size=q:=(by rw[hzs,Nat.mul_comm,Nat.mul_add_mod,Nat.mod_eq_of_lt hq]);rw[jHe (by rw[hm1];exact hlt)];simp only[madeCells,Array.getElem_map,Array.getElem_range,hmod];rw[getElem!_pos z.cells q hj',←g4,jHB,jHe hj']
      · rw[hH];simp only[fzH];cases hc:ρ.H w.heap.size with
        |none=>rfl
        |some c=>have:=hS.good.lt hc;omega)
  refine j6 hrun ⟨ρ',?_,q2,?_,trivial⟩
  · show Sat P B ρ' ({σ with ob:=[(dst,_)]++(q6 σ []++σ.ob)}:St).obj _;simp only[q6,jHh];rw[jaW];exact q1
  · simp only[SV.den];intro p hp;rw[q3] at hp;simp at hp;subst hp;exact⟨by rw[q4],by rw[q4];exact jGU _⟩
theorem jyI {t:Ty} {v:Value} {l:List t.Data} {k:Nat} (h:Src ρ.H w t v l) (hk:k≤l.length) {size:Nat} (hs:size=t.size):
    ∃cs:List Value,(Builtin.firstCells size k v).run P w= .ok cs.toArray w∧cs.length=k*t.size∧(∀u∈cs,u.oneCell'=true)∧∀(i:Nat) x,i<k→l[i]? =some x→t.rd ρ.H (fun j=>cs[i*t.size+j]?) x:=by
  subst hs;obtain⟨_,⟨rfl,rfl⟩|⟨ad,c,us,rfl,h1,h2,h3,h4⟩⟩:=h
  · have hk0:k=0:=(by simpa using hk);subst hk0;exact⟨[],by simp[run_firstCells_none],by simp,by simp,fun i x hi=>by omega⟩
  · have hle:k*t.size≤us.length:=(by rw[h1];exact jG8 _ hk);refine⟨us.take (k*t.size),run_firstCells_some w t.size k ad l.length c _ (by rw[jHj];omega) (fun j v hj=>h2 j v ?_),by rw[jHj];omega,fun u hu=>h3 u (jIb hu),fun i x hi hx=> ?_⟩
    · rw[jH3] at hj
      split at hj
      · exact hj
      · cases hj
    · refine t.rd_congr _ _ _ (fun j hj=> ?_) (h4 i x hx);have:(i+1)*t.size≤k*t.size:=jG8 _ hi;rw[jHA] at this;rw[jHd (by omega)]
theorem ju9 {α:Type} (l:List α) (lo n:Nat) (news:List α) (h:lo+n≤l.length):(jyi l lo n news).length=l.length:=by
  simp only[jyi,jHa,jHj,jHR];omega
theorem jAH {c:Call} (hC:C.ok P) (hop:o.op= .call c) (hc:c.callee= .builtin .copy) (h:jEy C σ c.args.toList c.argTypes.toList=some out) (hS:Sat P B ρ σ.obj w)
    (hev:∀x,SV.den P ρ (jL σ x) (ev x)) (hvc:kR out.vc):jC P o ev w (jz P B ρ σ out):=by
  unfold jEy at h
  split at h
  case h_2=>cases h
  rename_i x y U U' hargs htys;have hargs:c.args= #[x,y]:=(by rw[←jHb];exact hargs);have htys:c.argTypes= #[U,U']:=by rw[←jHb];exact htys
  split at h
  case h_2=>cases h
  rename_i ti te hUU hsl;have hUU:=jGP hUU;subst hUU
  split at h
  case h_2=>cases h
  rename_i news ob lo n hel hvw het
  split at h
  case h_2=>cases h
  rename_i E t nl l hob
  split at h
  case h_2=>cases h
  rename_i l' hl';simp only[Option.some.injEq] at h;subst h;obtain⟨e,rfl⟩:=jl hl';have e':t=te.ty:=(by injection e);subst e';have hcast:qU e l=l:=rfl;rw[hcast] at hvc⊢;have hlen:lo+n≤l.length:=hvc.1;obtain⟨p,hp,k1,k0,k2⟩:=hS.obs ob _ hob;have hden:=hev x;have hsrc:=jh3 hS hel (hev y);obtain⟨_,hte,_,hokE,hund,hka,hks,hpos⟩:=zn hC hsl;obtain⟨_,_,_,_,_,hsz,_⟩:=qP hokE;rw[hte] at hsz;have hn2:=hsrc.1;have hview:match p with
    |none=>ev x= .slice none 0 0∧n=0
    |some (b,Cp)=>∃a cap,ev x= .slice (some a) n cap∧(0<n→a=⟨b,lo*te.ty.size,none⟩):=by
    unfold jCU at hvw
    split at hvw
    · rename_i o' u hx;rw[hx] at hden
      split at hvw
      · rename_i E' t' fz' nl' l2 ho';simp at hvw;obtain⟨rfl,rfl,rfl⟩:=hvw;rw[hob] at ho';simp at ho';obtain⟨_,rfl,_,_,hll⟩:=ho';have hll:=eq_of_heq hll;subst hll;simp only[SV.den] at hden;have hden:=hden p hp;cases p with
        |none=>
          obtain⟨e1,e2⟩:=hden;exact⟨e1,by rw[←k1];exact e2⟩
        |some q=>
          obtain⟨b,Cp⟩:=q;obtain⟨e1,e2⟩:=hden;rw[k1] at e1;exact⟨_,_,e1,fun _=>by simp⟩
      · cases hvw
    · rename_i o' u lo2 n2 hx;simp at hvw;obtain⟨rfl,rfl,rfl⟩:=hvw;rw[hx] at hden het;have hu:u=te.ty:=yQ het;subst hu;simp only[SV.den] at hden;have hden:=hden p hp;cases p with
      |none=>exact hden
      |some q=>
        obtain⟨b,Cp⟩:=q;obtain⟨a,cap,e1,e2,e3,e4,e5⟩:=hden;exact⟨a,cap,e1,fun h0=>e5 (.inr (by omega))⟩
    · cases hvw
  have hkk:(news.take n).length≤news.length:=(by rw[jHj];omega);obtain⟨cs,c1,c2,c3,c4⟩:=jyI (P:=P) (k:=(news.take n).length) (size:=te.size) hsrc hkk hks.symm;have hmin:Nat.min news.length n=(news.take n).length:=by
    rw[jHj];exact Nat.min_comm _ _
  have hlenOf:∀w,(Builtin.lenOf (ev y)).run P w= .ok news.length w:=by
    intro w;obtain⟨_,⟨e1,e2⟩|⟨ad,c,us,e1,_⟩⟩:=hsrc
    · rw[e1,e2];simp[Builtin.lenOf]
    · rw[e1];simp[Builtin.lenOf]
  have hsame:∀(w':World) (row:List te.ty.Data),row=l→({σ with ob:=(ob,some (.row E te.ty false nl row))::(q6 σ []++σ.ob)}:St).obj=σ.obj:=by
    intro w' row hr;subst hr;simp only[q6,jHh];rw[wt];exact funext fun k=>by
      unfold jij
      split
      · rename_i hk;rw[hk];exact hob.symm
      · rfl
  cases p with
  |none=>
    obtain⟨e1,e2⟩:=hview;subst e2;have hcs:cs=[]:=jHy (by rw[c2];simp);subst hcs;refine j6 (v:= .int .i64 ((news.take 0).length:Int)) (w':=w) ?_ ⟨ρ,?_,Env.le.refl _ _,?_,trivial⟩
    · simp only[execOp,hop,Sem.run_bind,resolve,hc,hargs,htys,Sem.run_pure,Result.andThen_ok,invoke,builtin];have hm0:Nat.min news.length 0=0:=Nat.min_zero _;simp only[List.take_zero,jHI] at c1;simp[Builtin.copy_,e1,run_underlying hund,hlenOf,hsz,hm0,c1,goInt]
    · show Sat P B ρ ({σ with ob:=(ob,_)::(q6 σ []++σ.ob)}:St).obj _;rw[hsame w _ (by simp[jyi])];exact hS
    · simp only[SV.den];exact w9 _
  |some q=>
    obtain⟨b,Cp⟩:=q;obtain⟨a,cap,e1,e2⟩:=hview;obtain⟨k3,vs,hw,hvs,hlC,hCm,hr,hH⟩:=k2;simp only[fzH] at hH;obtain⟨m,hm⟩:∃m,m=(news.take n).length:=⟨_,rfl⟩;have hmn:m≤n:=(by rw[hm,jHj];omega);rw[←hm] at c1 c2 c4 hmin;rcases jH2 m with h0|h0
    · have hcs:cs=[]:=jHy (by rw[c2,h0];simp);subst hcs;refine j6 (v:= .int .i64 ((news.take n).length:Int)) (w':=w) ?_ ⟨ρ,?_,Env.le.refl _ _,?_,trivial⟩
      · simp only[execOp,hop,Sem.run_bind,resolve,hc,hargs,htys,Sem.run_pure,Result.andThen_ok,invoke,builtin];simp[Builtin.copy_,e1,run_underlying hund,hlenOf,hsz,hmin,c1,goInt,storeCells,←hm]
      · show Sat P B ρ ({σ with ob:=(ob,_)::(q6 σ []++σ.ob)}:St).obj _;rw[hsame w _ (by
          have:news.take n=[]:=jHy (by omega);simp[jyi,this])]
        exact hS
      · simp only[SV.den];exact w9 _
    · have e2:=e2 (by omega);subst e2;have hmul:(lo+m)*te.ty.size≤Cp*te.ty.size:=jG8 _ (by omega);rw[jHD] at hmul;have hrun:=run_storeCells_at P b (lo*te.ty.size) E cs 0 vs w hw (by rw[c2,hvs];omega) c3;simp only[jH4,c2] at hrun;obtain⟨f1,f2⟩:=vT w hw (vs.toList.take (lo*te.ty.size)++cs++vs.toList.drop (lo*te.ty.size+m*te.ty.size)).toArray;refine j6 (v:= .int .i64 ((news.take n).length:Int)) (w':=w.setRow b (vs.toList.take (lo*te.ty.size)++cs++vs.toList.drop (lo*te.ty.size+m*te.ty.size)).toArray) ?_ ⟨ρ,?_,Env.le.refl _ _,?_,trivial⟩
      · simp only[execOp,hop,Sem.run_bind,resolve,hc,hargs,htys,Sem.run_pure,Result.andThen_ok,invoke,builtin];simp[Builtin.copy_,e1,run_underlying hund,hlenOf,hsz,hmin,c1,goInt,hrun,←hm]
      · show Sat P B ρ ({σ with ob:=(ob,_)::(q6 σ []++σ.ob)}:St).obj _;simp only[q6,jHh];rw[wt];refine jdz hS hp hH _ f1 ?_;have hnl:(jyi l lo n news).length=l.length:=ju9 l lo n news hlen;have hl1:(vs.toList.take (lo*te.ty.size)).length=lo*te.ty.size:=(by simp;omega);refine⟨by rw[hnl];exact k1,by rw[hnl];exact k0,fun hy hn=> ?_,_,f2,?_,by rw[hnl];exact hlC,hCm,?_,by simpa[fzH] using hH⟩
        · rw[hn] at hnl;simp at hnl;omega
        · simp only[List.size_toArray,jHa,hl1,c2,jHR,jHm];omega
        · intro k y hy;have htl:(l.take lo).length=lo:=(by simp;omega);simp only[jH1,jHc];unfold jyi at hy;rw[←hm,jHc] at hy;by_cases hk:k<lo
          · rw[jG4 (by omega),jHd hk] at hy;refine te.ty.rd_congr _ _ _ (fun j hj=> ?_) (hr k y hy);have:(k+1)*te.ty.size≤lo*te.ty.size:=jG8 _ hk;rw[jHA] at this;rw[jG4 (by omega),jHd (by omega)];simp
          · obtain⟨d,rfl⟩:∃d,k=lo+d:=⟨k-lo,by omega⟩;rw[jG3 (by omega),htl,Nat.add_sub_cancel_left] at hy;by_cases hd:d<m
            · rw[jG4 (by omega),jHd (by omega)] at hy;refine te.ty.rd_congr _ _ _ (fun j hj=> ?_) (c4 d y hd hy);have h1:(d+1)*te.ty.size≤m*te.ty.size:=jG8 _ hd;rw[jHA] at h1;rw[jHD,jG3 (by omega),hl1,jG4 (by omega)];congr 1;omega
            · rw[jG3 (by omega),←hm,jHw] at hy;have hke:lo+m+(d-m)=lo+d:=(by omega);rw[hke] at hy;refine te.ty.rd_congr _ _ _ (fun j hj=> ?_) (hr (lo+d) y hy);have h1:m*te.ty.size≤d*te.ty.size:=jG8 _ (by omega);rw[jHD,jG3 (by omega),hl1,jG3 (by omega),c2,jHw,jHB];congr 1;omega
      · simp only[SV.den];exact w9 _
end
end Go.X
namespace Go.X
open Go.RowKit (Below)
section
variable {P:Program} {B:zF} {C:Ctx} {σ:St} {ρ:Env} {w:World} {o:Oper} {ev:Operand→Value} {out:Out}
def jGs (P:Program) (ρ:Env) (fz:List Nat) (tf:(ps rs:List Ty)→SV→Option (FnD ps rs×List Nat)):Prop:=
  ∀(ps rs:List Ty) (sv:SV) (d:FnD ps rs) (fz':List Nat),tf ps rs sv=some (d,fz')→(∀o,o∈fz'→o∈fz)→∀v,SV.den P ρ sv v→FnV P ρ.H ps rs d.pre d.F v
theorem jmY {τ:St} (hS:Sat P B ρ τ.obj w) {fz:List Nat} (hF:Frz σ τ fz) {tf:(ps rs:List Ty)→SV→Option (FnD ps rs×List Nat)} (ht:jGs P ρ fz tf) {ps rs:List Ty} {sv:SV} {d:FnD ps rs} {fz':List Nat} (h:jCn tf σ ps rs sv=some (d,fz'))
    (hs:∀o,o∈fz'→o∈fz) {v:Value} (hv:SV.den P ρ sv v):jDY P ρ.H (.rfn ps rs) v d:=by
  unfold jCn at h
  split at h
  · split at h
    · rename_i e;obtain⟨e1,e2⟩:=e;subst e1 e2;simp at h;obtain⟨rfl,rfl⟩:=h;simpa[SV.den,jDY] using hv
    · cases h
  · rename_i o
    split at h
    · rename_i T f c hx
      split at h
      · rename_i x f2 hc;simp at h;obtain⟨rfl,rfl⟩:=h;have hτ:τ.obj o=some (.box T true [c]):=(by rw[(hF o).2 (hs o (by simp)),hx];rfl);obtain⟨p,hp,b,C',vs,rfl,hw,hdl,_,hH⟩:=hS.obs o _ hτ;simp only[SV.den] at hv;obtain⟨b',C2,e,rfl⟩:=hv _ hp;simp at e;obtain⟨rfl,rfl⟩:=e;simp only[SV.denL] at hdl;obtain⟨u,r,evs,hdu,rfl⟩:=hdl;have evs:vs= #[u]:=jHb.1 (by simpa using evs);subst evs;exact⟨b,u,rfl,by simpa[fzH] using hH,ht _ _ _ _ _ hc (fun o ho=>hs o (jGV _ ho)) _ hdu⟩
      · cases h
    · cases h
  · cases h
theorem jbx {τ:St} (hS:Sat P B ρ τ.obj w) {fz:List Nat} (hF:Frz σ τ fz) {tf:(ps rs:List Ty)→SV→Option (FnD ps rs×List Nat)} (ht:jGs P ρ fz tf):
    ∀{ps:List Par} {svs:List SV} {d:PD ps} {fz':List Nat},jgT tf σ ps svs=some (d,fz')→(∀o,o∈fz'→o∈fz)→∀{vs:List Value},SV.denL P ρ svs vs→pvs P ρ.H ps vs d
  |[],[],d,fz',h,_,vs,hv=>by simpa[SV.denL,pvs] using hv
  |[],_::_,d,fz',h,_,vs,hv=>by simp[jgT] at h
  | .val _::_,[],d,fz',h,_,vs,hv=>by simp[jgT] at h
  | .ref _::_,[],d,fz',h,_,vs,hv=>by simp[jgT] at h
  | .fn _ _::_,[],d,fz',h,_,vs,hv=>by simp[jgT] at h
  | .fn _ _::_,_::_,d,fz',h,_,vs,hv=>by simp[jgT] at h
  | .rfn _ _::_,[],d,fz',h,_,vs,hv=>by simp[jgT] at h
  | .val t::ps,sv::svs,d,fz',h,hs,vs,hv=>by
    simp only[jgT] at h
    split at h
    · rename_i x f hx
      split at h
      · rename_i xs f' hr
        simp at h
        obtain⟨rfl,rfl⟩:=h
        simp only[SV.denL] at hv
        obtain⟨v,r,rfl,h1,h2⟩:=hv
        exact⟨jM hS hF hx (fun o ho=>hs o (jGR _ ho)) h1,jbx hS hF ht hr (fun o ho=>hs o (jGQ _ ho)) h2⟩
      · cases h
    · cases h
  | .ref t::ps,sv::svs,d,fz',h,hs,vs,hv=>by
    simp only[jgT] at h
    split at h
    · rename_i x f hx
      split at h
      · rename_i xs f' hr
        simp at h
        obtain⟨rfl,rfl⟩:=h
        simp only[SV.denL] at hv
        obtain⟨v,r,rfl,h1,h2⟩:=hv
        exact⟨jbG hS hF hx (fun o ho=>hs o (jGR _ ho)) h1,jbx hS hF ht hr (fun o ho=>hs o (jGQ _ ho)) h2⟩
      · cases h
    · cases h
  | .rfn aZ rs::ps,sv::svs,d,fz',h,hs,vs,hv=>by
    simp only[jgT] at h
    split at h
    · rename_i x f hx
      split at h
      · rename_i xs f' hr
        simp at h
        obtain⟨rfl,rfl⟩:=h
        simp only[SV.denL] at hv
        obtain⟨v,r,rfl,h1,h2⟩:=hv
        exact⟨jmY hS hF ht hx (fun o ho=>hs o (jGR _ ho)) h1,jbx hS hF ht hr (fun o ho=>hs o (jGQ _ ho)) h2⟩
      · cases h
    · cases h
theorem jfL (hC:C.ok P) {τ:St} (hS:Sat P B ρ τ.obj w) {fz:List Nat} (hF:Frz σ τ fz):∀n,jGs P ρ fz (jru C σ n)
  |0=>fun ps rs sv d fz' h=>by simp[jru] at h
  |n+1=>by
    intro ps rs sv d fz' h hs v hv
    unfold jru at h
    split at h
    · rename_i ps' rs' pre F
      split at h
      · rename_i e
        obtain⟨e1,e2⟩:=e
        subst e1 e2
        simp at h
        obtain⟨rfl,rfl⟩:=h
        simpa[SV.den] using hv
      · cases h
    · rename_i f caps
      split at h
      · rename_i s hs'
        split at h
        · rename_i e
          obtain⟨e1,e2⟩:=e
          subst e1
          split at h
          · rename_i rest k hk
            split at h
            · rename_i y fz2 hz
              simp at h
              obtain⟨rfl,rfl⟩:=h
              simp only[SV.den] at hv
              obtain⟨vs,rfl,hd⟩:=hv
              have hfn:=hC.fs f s hs' e2
              refine⟨f,vs,rfl,hfn.enters,fun H' w' vals x hH hG hvals hpre=> ?_⟩
              have hp:=jbx hS hF (jfL hC hS hF n) hz hs hd
              have:=hfn.calls H' w' (vals++vs.toList) (k x y) hG (jfg hk hvals (pvs.mono hH hp)) hpre
              rwa [show(vals++vs.toList).toArray=vals.toArray++vs from by apply jHb.1;simp] at this
            · cases h
          · cases h
        · cases h
      · cases h
    · cases h
theorem joK (hC:C.ok P) {τ:St} (hS:Sat P B ρ τ.obj w) {fz:List Nat} (hF:Frz σ τ fz) {ps rs:List Ty} {sv:SV} {d:FnD ps rs} {fz':List Nat} (h:jDE C σ ps rs sv=some (d,fz')) (hs:∀o,o∈fz'→o∈fz)
    {v:Value} (hv:SV.den P ρ sv v):FnV P ρ.H ps rs d.pre d.F v:=jfL hC hS hF 4 ps rs sv d fz' h hs v hv
theorem wQ (hC:C.ok P) {τ:St} (hS:Sat P B ρ τ.obj w) {fz:List Nat} (hF:Frz σ τ fz):
    ∀{ps:List Par} {svs:List SV} {d:PD ps} {fz':List Nat},kV C σ ps svs=some (d,fz')→(∀o,o∈fz'→o∈fz)→∀{vs:List Value},SV.denL P ρ svs vs→pvs P ρ.H ps vs d
  |[],[],d,fz',h,_,vs,hv=>by simpa[SV.denL,pvs] using hv
  |[],_::_,d,fz',h,_,vs,hv=>by simp[kV] at h
  | .val _::_,[],d,fz',h,_,vs,hv=>by simp[kV] at h
  | .ref _::_,[],d,fz',h,_,vs,hv=>by simp[kV] at h
  | .fn _ _::_,[],d,fz',h,_,vs,hv=>by simp[kV] at h
  | .rfn _ _::_,[],d,fz',h,_,vs,hv=>by simp[kV] at h
  | .val t::ps,sv::svs,d,fz',h,hs,vs,hv=>by
    simp only[kV] at h
    split at h
    · rename_i x f hx
      split at h
      · rename_i xs f' hr
        simp at h
        obtain⟨rfl,rfl⟩:=h
        simp only[SV.denL] at hv
        obtain⟨v,r,rfl,h1,h2⟩:=hv
        exact⟨jM hS hF hx (fun o ho=>hs o (jGR _ ho)) h1,wQ hC hS hF hr (fun o ho=>hs o (jGQ _ ho)) h2⟩
      · cases h
    · cases h
  | .ref t::ps,sv::svs,d,fz',h,hs,vs,hv=>by
    simp only[kV] at h
    split at h
    · rename_i x f hx
      split at h
      · rename_i xs f' hr
        simp at h
        obtain⟨rfl,rfl⟩:=h
        simp only[SV.denL] at hv
        obtain⟨v,r,rfl,h1,h2⟩:=hv
        exact⟨jbG hS hF hx (fun o ho=>hs o (jGR _ ho)) h1,wQ hC hS hF hr (fun o ho=>hs o (jGQ _ ho)) h2⟩
      · cases h
    · cases h
  | .fn aZ rs::ps,sv::svs,d,fz',h,hs,vs,hv=>by
    simp only[kV] at h
    split at h
    · rename_i x f hx
      split at h
      · rename_i xs f' hr
        simp at h
        obtain⟨rfl,rfl⟩:=h
        simp only[SV.denL] at hv
        obtain⟨v,r,rfl,h1,h2⟩:=hv
        exact⟨joK hC hS hF hx (fun o ho=>hs o (jGR _ ho)) h1,wQ hC hS hF hr (fun o ho=>hs o (jGQ _ ho)) h2⟩
      · cases h
    · cases h
  | .rfn aZ rs::ps,sv::svs,d,fz',h,hs,vs,hv=>by
    simp only[kV] at h
    split at h
    · rename_i x f hx
      split at h
      · rename_i xs f' hr
        simp at h
        obtain⟨rfl,rfl⟩:=h
        simp only[SV.denL] at hv
        obtain⟨v,r,rfl,h1,h2⟩:=hv
        exact⟨jmY hS hF (jfL hC hS hF 4) hx (fun o ho=>hs o (jGR _ ho)) h1,wQ hC hS hF hr (fun o ho=>hs o (jGQ _ ho)) h2⟩
      · cases h
    · cases h
theorem jp0 {obj:Nat→Option Ob} (hS:Sat P B ρ obj w) (hlt:∀o b Cp,ρ.blk o=some (some (b,Cp))→b<w.heap.size) {H':Imm} {w':World} (hE:jDp ρ.H w H' w'):
    Sat P B {ρ with H:=H'} obj w'∧ρ.le {ρ with H:=H'} []:=by
  have hle:ρ.le {ρ with H:=H'} []:=⟨hE.mono hS.good,fun _ _ _ h=>h,fun _ _=>rfl⟩;refine⟨⟨hE.below.os.trans hS.os,hE.below.tape.trans hS.tape,hE.below.output.trans hS.output,jG5 hS.drawn hE.drawn,jG5 hS.size hE.below.size,hE.good,?_,?_,?_,hS.dead,hS.inj,hS.own⟩,hle⟩
  · intro b hb hbo;have:=hS.size;show H' b=_;rw[hE.old b (by omega)];exact hS.oldH b hb hbo
  · intro b hb hbo;have:=hS.size;rw[hE.below.block b (by omega)];exact hS.old b hb hbo
  · intro o x hx;obtain⟨p,hp,hs⟩:=hS.obs o x hx;refine⟨p,hp,jN hle (by simp) (fun _ _ _ _ o' ho'=>by simp at ho') (fun b C' hpb=> ?_) hs⟩;subst hpb;have:=hlt o b C' hp;exact⟨hE.old b this,hE.below.block b this⟩
theorem jzq {H:Imm} {t:Ty} (ht:t.agg=false) {v:Value} {d:t.Data} (h:t.rv H v d):v.oneCell'=true:=by
  have hs:0<t.size:=by cases t<;>simp_all [Ty.agg,Ty.size]
  obtain⟨u,e,h1⟩:=gn t _ d (zb ht h) 0 hs;simp at e;subst e;exact h1
theorem jyU {obj:Nat→Option Ob} (hS:Sat P B ρ obj w) (hlt:∀o b Cp,ρ.blk o=some (some (b,Cp))→b<w.heap.size) {o b Cp T:Nat} {cs:List SV} (hx:obj o=some (.box T false cs)) (hb:ρ.blk o=some (some (b,Cp)))
    {H':Imm} {w':World} {u:Value} {sv:SV} (hE:jEZ [b] ρ.H w H' w') (hH:H' b=none) (hw:w'.heap[b]? =some (.cells #[u] T (0,0))) (hd:SV.den P {ρ with H:=H'} sv u) (h1:u.oneCell'=true):
    Sat P B {ρ with H:=H'} (jij obj o (some (.box T false [sv]))) w'∧ρ.le {ρ with H:=H'} []:=by
  have hbn:ρ.H b=none:=by
    obtain⟨p,hp,b2,C2,vs,e,_,_,_,k⟩:=hS.obs o _ hx;rw[hb] at hp;simp at hp;subst hp;simp at e;obtain⟨rfl,rfl⟩:=e;exact k
  have hle:ρ.le {ρ with H:=H'} []:=⟨fun b' c hc=>by
    have hl:=hS.good.lt hc;show H' b'=_;rw[hE.old b' hl (by intro hm;simp at hm;subst hm;rw[hbn] at hc;cases hc)];exact hc,fun _ _ _ h=>h,fun _ _=>rfl⟩
  have out:∀b',b'<B.w.heap.size→b'∉B.bor→b'∉[b]:=by
    intro b' h2 h3 hm;simp at hm;subst hm;rcases hS.own o _ _ hb with h|h
    · omega
    · exact h3 h
  refine⟨⟨hE.os.trans hS.os,hE.tape.trans hS.tape,hE.output.trans hS.output,jG5 hS.drawn hE.drawn,jG5 hS.size hE.size,hE.good,?_,?_,?_,?_,hS.inj,hS.own⟩,hle⟩
  · intro b' h2 h3;have:=hS.size;show H' b'=_;rw[hE.old b' (by omega) (out b' h2 h3)];exact hS.oldH b' h2 h3
  · intro b' h2 h3;have:=hS.size;rw[hE.block b' (by omega) (out b' h2 h3)];exact hS.old b' h2 h3
  · intro o' x hx';unfold jij at hx'
    split at hx'
    · rename_i e;subst e;simp at hx';subst hx';refine⟨_,hb,b,Cp,#[u],rfl,hw,?_,by simpa using h1,hH⟩;simp only[SV.denL];exact⟨u,[],rfl,hd,rfl⟩
    · rename_i hne;obtain⟨p,hp,hs⟩:=hS.obs o' x hx';refine⟨p,hp,jN hle (by simp) (fun _ _ _ _ o2 ho'=>by simp at ho') (fun b' C' hpb=> ?_) hs⟩;subst hpb;have hl:=hlt o' b' C' hp;have hn:b'∉[b]:=by
        intro hm;simp at hm;subst hm;exact hne (hS.inj o' o _ _ _ hp hb)
      exact⟨hE.old b' hl hn,hE.block b' hl hn⟩
  · intro o' hx';unfold jij at hx'
    split at hx'
    · cases hx'
    · exact hS.dead o' hx'
theorem jbV {H:Imm} (hH:ρ.H=H):∀(rs:List Ty) (vs:List Value) (d:(Ty.st rs).Data),rvs H rs vs d→SV.denL P ρ (results rs d) vs
  |[],vs,d,h=>by simpa[results,SV.denL,rvs] using h
  |t::ts,[],d,h=>h.elim
  |t::ts,v::vs,d,h=>by
    simp only[results,SV.denL]
    exact⟨v,vs,rfl,by simp only[SV.den];rw[hH];exact h.1,jbV hH ts vs d.2 h.2⟩
theorem jl2 {H:Imm} (hH:ρ.H=H):∀{rs:List Ty} {v:Value} {d:(Ty.st rs).Data},jE3 H rs v d→SV.den P ρ (jrJ rs d) v
  |[t],v,d,h=>by
    simp only[jrJ,results,SV.den]
    rw[hH];exact h
  |[],v,d,h=>by
    obtain⟨vs,rfl,h⟩:=h
    simp only[jrJ,results,SV.den]
    exact⟨vs,rfl,jbV hH [] _ d h⟩
  |t::u::ts,v,d,h=>by
    obtain⟨vs,rfl,h⟩:=h
    have:=jbV (P:=P) hH (t::u::ts) _ d h
    simp only[jrJ,results,SV.den] at this⊢
    exact⟨vs,rfl,this⟩
theorem jyV {obj:Nat→Option Ob} (hS:Sat P B ρ obj w) {w':World} (hb:Below w.heap.size w w') (hdr:w.drawn≤w'.drawn):Sat P B ρ obj w':=by
  have hlt:∀o x,obj o=some x→∀b Cp,ρ.blk o=some (some (b,Cp))→b<w.heap.size:=by
    intro o x hx b Cp hp;obtain⟨p,hp',hs⟩:=hS.obs o x hx;rw[hp] at hp';simp at hp';subst hp';exact jkN hs
  refine⟨hb.os.trans hS.os,hb.tape.trans hS.tape,hb.output.trans hS.output,jG5 hS.drawn hdr,jG5 hS.size hb.size,?_,hS.oldH,?_,?_,hS.dead,hS.inj,hS.own⟩
  · refine⟨fun b c hc=> ?_,hS.good.2⟩;rw[hb.block b (hS.good.lt hc)];exact hS.good.1 b c hc
  · intro b h1 h2;have:=hS.size;rw[hb.block b (by omega)];exact hS.old b h1 h2
  · intro o x hx;obtain⟨p,hp,hs⟩:=hS.obs o x hx;refine⟨p,hp,jN (Env.le.refl ρ []) (by simp) (fun _ _ _ _ o' ho'=>by simp at ho') (fun b C' hpb=>⟨rfl,?_⟩) hs⟩;subst hpb;exact hb.block b (hlt o x hx b C' hp)
theorem jqK {H H':Imm}:∀(t:Ty) (f:Nat→Option Value) (d:t.Data),jsJ t=true→t.rd H f d→t.rd H' f d
  | .int,_,_,_,h=>h
  | .bool,_,_,_,h=>h
  | .uint _,_,_,_,h=>h
  | .unit,_,_,_,_=>trivial
  | .slice _,_,_,hf,_=>by cases hf
  | .map _ _,_,_,hf,_=>by cases hf
  | .ptr _,_,_,hf,_=>by cases hf
  | .pair a b,f,d,hf,h=>by
    simp only[jsJ] at hf
    split at hf
    · rename_i ha;exact⟨jqK a _ _ ha h.1,jqK b _ _ hf h.2⟩
    · cases hf
theorem jwh {H H':Imm}:∀(rs:List Ty) (vs:List Value) (d:(Ty.st rs).Data),jxB rs=true→rvs H rs vs d→rvs H' rs vs d
  |[],vs,d,_,h=>h
  |t::ts,[],d,_,h=>h.elim
  |t::ts,v::vs,d,hf,h=>by
    simp only[jxB] at hf
    split at hf
    · rename_i ht;exact⟨⟨h.1.1,h.1.2.1,jqK t _ _ ht h.1.2.2⟩,jwh ts vs d.2 hf h.2⟩
    · cases hf
theorem jAp {H H':Imm}:∀{rs:List Ty} {v:Value} {d:(Ty.st rs).Data},jxB rs=true→jE3 H rs v d→jE3 H' rs v d
  |[t],v,d,hf,h=>by
    simp only[jxB] at hf
    split at hf
    · rename_i ht;exact⟨h.1,h.2.1,jqK t _ _ ht h.2.2⟩
    · cases hf
  |[],v,d,hf,h=>h
  |t::u::ts,v,d,hf,h=>by
    obtain⟨vs,e,h⟩:=h
    exact⟨vs,e,jwh (t::u::ts) _ d hf h⟩
theorem jnj (hS:Sat P B ρ σ.obj w) (fz:List Nat) {rs:List Ty} {r:(Ty.st rs).Data} {vc:List Prop} {k:FuncId} {args:Array Value}
    (h:∀ρ',Sat P B ρ' (σ.frz fz).obj w→ρ.le ρ' []→Calls P k args w (jDn ρ'.H w rs r)):
    Calls P k args w (fun e w'=>∃v,e= .returned v∧jz P B ρ σ ⟨vc,[],jrJ rs r,jF7 rs fz,[],[]⟩ v w'):=by
  unfold jF7;obtain⟨ρ1,hS1,hle1,_,_⟩:=jP fz hS;refine(h ρ1 hS1 hle1).mono fun e w' he=> ?_
  obtain⟨v,H',rfl,hE,hr⟩:=he
  split
  · rename_i hfl;refine⟨v,rfl,ρ,?_,Env.le.refl _ _,jl2 rfl (jAp hfl hr),trivial⟩;exact jyV hS hE.below hE.drawn
  obtain⟨hS2,hle2⟩:=jp0 hS1 (fun o b Cp hb=>(yD (σ:=σ.frz fz) hS1 hb).1) hE;refine⟨v,rfl,_,?_,hle1.trans hle2,jl2 rfl hr,trivial⟩;show Sat P B _ (σ.frz fz).obj w';exact hS2
theorem jAI {dst:Nat} {c:Call} {f:Operand} (hC:C.ok P) (hop:o.op= .call c) (hc:c.callee= .value f) (h:jpr C σ dst (jL σ f) (c.args.toList.map (jL σ))=some out) (hS:Sat P B ρ σ.obj w)
    (hev:∀x,SV.den P ρ (jL σ x) (ev x)) (hvc:kR out.vc) (hd:σ.obj dst=none) (hn:kz σ.obj dst):jC P o ev w (jz P B ρ σ out):=by
  have hargs:=jan (P:=P) (ρ:=ρ) (σ:=σ) hev c.args.toList;have hfv:=hev f;have hrun:∀(k:Nat) (caps:Array Value),ev f= .func (.func k) #[] caps→enters P k→(execOp ev o).run P w= .ok (.enter k (c.args.map ev++caps)) w:=by
    intro k caps e hen;simp only[execOp,hop,Sem.run_bind,resolve,hc,Deferred.ofValue,e,Sem.run_pure,Result.andThen_ok,invoke];rw[←hen (c.args.map ev++caps) w];simp
  unfold jpr at h
  split at h
  · rename_i k caps hf;rw[hf] at hfv;simp only[SV.den] at hfv;obtain⟨vs,ef,hcaps⟩:=hfv;have hall:=wM _ _ _ _ hargs hcaps
    split at h
    · rename_i s hs
      split at h
      · rename_i d fz hz
        split at h
        · rename_i hown;simp at h;subst h;have hfn:=hC.fs k s hs hown;unfold jC;rw[hrun k vs ef hfn.enters];simp only;refine jnj hS fz fun ρ' hS' hle=> ?_
          have hall':SV.denL P ρ' (c.args.toList.map (jL σ)++caps) (c.args.toList.map ev++vs.toList):=SV.denL_mono hle _ _ (fun o ho=>by simp at ho) hall;have:=hfn.calls ρ'.H w _ d hS'.good (wQ hC hS' (qa σ fz) hz (fun o ho=>ho) hall') hvc
          rwa [show(c.args.toList.map ev++vs.toList).toArray=c.args.map ev++vs from by apply jHb.1;simp] at this
        · cases h
      · cases h
    · rename_i hs;obtain⟨hen,hcall⟩:=hC.eff k dst σ _ out h;unfold jC;rw[hrun k vs ef hen];simp only;have:=hcall B ρ w _ hS hall hvc hd hn
      rwa [show(c.args.toList.map ev++vs.toList).toArray=c.args.map ev++vs from by apply jHb.1;simp] at this
  · rename_i ps rs pre F hf;rw[hf] at hfv;simp only[SV.den] at hfv
    split at h
    · rename_i d fz hz;simp at h;subst h;obtain⟨k,caps,ef,hen,hk⟩:=hfv;unfold jC;rw[hrun k caps ef hen];simp only;refine jnj hS fz fun ρ' hS' hle=> ?_
      have hall':SV.denL P ρ' (c.args.toList.map (jL σ)) (c.args.toList.map ev):=SV.denL_mono hle _ _ (fun o ho=>by simp at ho) hargs;have:=hk ρ'.H w _ d hle.H hS'.good (jbw hS' (qa σ fz) hz (fun o ho=>ho) hall') hvc
      rwa [show(c.args.toList.map ev).toArray++caps=c.args.map ev++caps from by apply jHb.1;simp] at this
    · cases h
  · rename_i ob T st ps rs pre K hf;rw[hf] at hfv;simp only[SV.den] at hfv
    split at h
    · rename_i d fz T' sc hz hx
      split at h
      · rename_i s hT hm hst hs;simp at h;subst h;have:=jGP hT;subst this;obtain⟨ρ1,hS1,hle1,hblk1,_⟩:=jP fz hS;have hx1:(σ.frz fz).obj ob=some (.box T false [sc]):=(by rw[ku,if_neg (yP hm)];exact hx);obtain⟨p,hp,b,Cp,vs,rfl,hw,hdl,h1,hHb⟩:=hS1.obs ob _ hx1;have hHb:ρ1.H b=none:=hHb;simp only[SV.denL] at hdl;obtain⟨u,r,evs,hdu,rfl⟩:=hdl;have evs:vs= #[u]:=jHb.1 (by simpa using evs);subst evs;obtain⟨b2,C2,e2,u2,hF,hv2⟩:=hfv _ (by rw[←hblk1];exact hp);simp at e2;obtain⟨rfl,rfl⟩:=e2;obtain⟨k,caps,ef,hen,hk⟩:=hF;have ef:ev f= .func (.func k) #[] caps:=hv2.trans ef;unfold jC;rw[hrun k caps ef hen];simp only;have hall':SV.denL P ρ1 (c.args.toList.map (jL σ)) (c.args.toList.map ev):=SV.denL_mono hle1 _ _ (fun o ho=>by simp at ho) hargs;have hsu:=jM hS1 (qa σ fz) hs (fun o ho=>by simp at ho) hdu;have hc2:=hk ρ1.H w _ d s u hle1.H hS1.good hHb hw hsu (jbw hS1 (qa σ fz) hz (fun o ho=>ho) hall') hvc;rw[show(c.args.toList.map ev).toArray++caps=c.args.map ev++caps from by apply jHb.1;simp] at hc2;refine hc2.mono fun e w' he=> ?_
        obtain⟨v,H',u',rfl,hE,hH',hw',hu',hr⟩:=he;obtain⟨hS2,hle2⟩:=jyU hS1 (fun o b Cp hb=>(yD (σ:=σ.frz fz) hS1 hb).1) hx1 hp hE hH' hw' (sv:= .dat st (K d s).2) (by simp only[SV.den];exact hu') (jzq hst hu');refine⟨v,rfl,{ρ1 with H:=H'},?_,hle1.trans hle2,jl2 rfl hr,trivial⟩;show Sat P B _ ({(σ.frz fz) with ob:=(ob,some (.box T false [.dat st (K d s).2]))::(σ.frz fz).ob}:St).obj w';rw[wt];exact hS2
      · cases h
    · cases h
  · cases h
theorem jFt (a b:Int):(if b<a then b else a)=min a b:=by rw[Int.min_def];split<;>split<;>omega
theorem jFu (a b:Int):(if b>a then b else a)=max a b:=by rw[Int.max_def];split<;>split<;>omega
theorem jhZ:∀(l:List SV) (vs:List Value) (a m:Int),jmW l a=some m→SV.denL P ρ l vs→(vs.foldlM Builtin.min2 (.int .i64 a)).run P w= .ok (.int .i64 m) w
  |[],vs,a,m,h,hd=>by
    simp[jmW] at h;simp[SV.denL] at hd;subst h hd;simp
  |x::l,vs,a,m,h,hd=>by
    unfold jmW at h
    split at h
    · rename_i e;cases e
    · rename_i a _ _ b r e1
      cases e1
      simp only[SV.denL] at hd
      obtain⟨v,r',rfl,h1,h2⟩:=hd
      have hv:=zl (by simpa[SV.den] using h1)
      subst hv
      have:=jhZ l r' (min a b) m h h2
      rw[List.foldlM_cons]
      simp only[Builtin.min2,Sem.run_bind,Sem.run_pure,Result.andThen_ok]
      have e:=jFt a b
      exact Eq.trans (by rw[←e]) this
    · cases h
theorem jh0:∀(l:List SV) (vs:List Value) (a m:Int),jmX l a=some m→SV.denL P ρ l vs→(vs.foldlM Builtin.max2 (.int .i64 a)).run P w= .ok (.int .i64 m) w
  |[],vs,a,m,h,hd=>by
    simp[jmX] at h;simp[SV.denL] at hd;subst h hd;simp
  |x::l,vs,a,m,h,hd=>by
    unfold jmX at h
    split at h
    · rename_i e;cases e
    · rename_i a _ _ b r e1
      cases e1
      simp only[SV.denL] at hd
      obtain⟨v,r',rfl,h1,h2⟩:=hd
      have hv:=zl (by simpa[SV.den] using h1)
      subst hv
      have:=jh0 l r' (max a b) m h h2
      rw[List.foldlM_cons]
      simp only[Builtin.max2,Sem.run_bind,Sem.run_pure,Result.andThen_ok]
      have e:=jFu a b
      exact Eq.trans (by rw[←e]) this
    · cases h
theorem jh5 {T:Nat} {x:Operand} {ti:TI} (hC:C.ok P) (hop:o.op= .makeInterface T x) (hti:C.info T=some ti) (hS:Sat P B ρ σ.obj w):jC P o ev w (jz P B ρ σ (.pure .any)):=by
  obtain⟨rfl,hok⟩:=hC.ti _ _ hti;have hu:∃d,P.underlying ti.id=some d∧∀ms,d≠.interface ms:=by
    cases hg:ti.agg with
    |true=>
      cases hr:ti.arr with
      |false=>obtain⟨fs,e,_⟩:=hok.str hg hr;exact⟨_,e,by simp⟩
      |true=>obtain⟨_,n,ie,e,_⟩:=hok.arrk hr;exact⟨_,e,by simp⟩
    |false=>obtain⟨d,e,_,_,h,_⟩:=hok.flat hg;exact⟨_,e,h⟩
  obtain⟨d,hd,hne⟩:=hu;refine jj hS (v:= .iface ti.id (ev x)) ?_ (wg _) trivial;simp only[execOp,hop,Instr.makeInterface,Sem.run_bind,run_underlying hd,Result.andThen_ok];cases d<;>simp_all
theorem ju3 {U n:Nat} {parts:Array (Nat×Operand)} (hC:C.ok P) (hop:o.op= .buildSlice U n parts) (h:jAY C σ U n parts.toList=some out) (hS:Sat P B ρ σ.obj w)
    (hev:∀x,SV.den P ρ (jL σ x) (ev x)):jC P o ev w (jz P B ρ σ out):=by
  unfold jAY at h
  split at h
  case h_2=>cases h
  rename_i ti te hsl
  split at h
  case h_2=>cases h
  rename_i l fz hl
  split at h
  case h_2=>cases h
  rename_i hln hsm;simp at h;subst h;have hln:=jGP hln;subst hln;have hsm:=jG6 hsm;obtain⟨_,hte,_,hokE,hund,hka,hks,hpos⟩:=zn hC hsl;obtain⟨i,z,g0,g1,g2,g3,g4,_⟩:=hokE.info;rw[hte] at g0;obtain⟨ρ1,hS1,hle1,hb1,hl1⟩:=jP fz hS;have hev1:∀x,SV.den P ρ1 (jL σ x) (ev x):=fun x=>SV.den_mono hle1 _ _ (fun o ho=>by simp at ho) (hev x)
  obtain⟨vs,e1,e2,e3,e4⟩:=jaK hS1 (qa σ fz) hev1 parts.toList 0 l fz hl (fun o ho=>ho);have hzs:z.cells.size=te.size:=(by rw[←hokE.zlen,←g4];simp);have hsz:0<te.size:=hpos;have hfill:Instr.fill (fun i=>some (i*te.size,te.size)) ((Array.range (l.length*te.size)).map (z.cells[·%z.cells.size]!)) (parts.map fun(i,x)=>(i,ev x)).toList=
      some (vs.flatMap fun v=>v.cells.toList).toArray:=by
    have:=Great.fill_whole hsz vs ((Array.range (l.length*te.size)).map (z.cells[·%z.cells.size]!)) (fun v hv=>by rw[e3 v hv,hks]) (by simp[e2]);rw[←this];congr 1;simpa using e1
  have hcells:=jqL vs e3;have hrun:(execOp ev o).run P w= .ok (.value (.slice (some ⟨w.heap.size,0,none⟩) l.length l.length)) (w.alloc (.cells (vs.flatMap fun v=>v.cells.toList).toArray ti.elem)):=by
    have:(Instr.buildSlice U l.length (parts.map fun(i,x)=>(i,ev x))).run P w= .ok (.slice (some ⟨w.heap.size,0,none⟩) l.length l.length) (w.alloc (.cells (vs.flatMap fun v=>v.cells.toList).toArray ti.elem)):=by
      have g1':i.size=te.size:=g1;by_cases h0:l.length=0
      · have hv0:vs=[]:=jHy (by omega);have hp0:parts= #[]:=by
          subst hv0;simp at e1;exact e1
        subst hp0 hv0;simp[Instr.buildSlice,run_underlying hund,sizeOf,typeInfo,g0,h0,newRow,Instr.fill,show Array.range 0= #[] from rfl]
      · exact run_buildSlice w U ti.elem l.length _ _ i z hund g0 g3 (by rw[g1'];omega) (by rw[g1'];have:=Nat.mul_pos (Nat.pos_of_ne_zero h0) hsz;omega) (by rw[g1'];exact hfill)
    simp only[execOp,hop,Sem.run_bind];rw[this];simp
  refine j6 hrun ?_;have hsmall:l.length≤16777216:=by
    have:l.length*1≤l.length*te.size:=jH7 _ hsz;omega
  have hnew:=heap_alloc_new w (.cells (vs.flatMap fun v=>v.cells.toList).toArray ti.elem);have hg:=w.grownBy_alloc (.cells (vs.flatMap fun v=>v.cells.toList).toArray ti.elem) none;have hHn:ρ1.H w.heap.size=none:=by
    cases hc:ρ1.H w.heap.size with
    |none=>rfl
    |some c=>have:=hS1.good.lt hc;omega
  have hE:jDp ρ1.H w (fun b=>if b=w.heap.size then some (.cells (vs.flatMap fun v=>v.cells.toList).toArray) else ρ1.H b) (w.alloc (.cells (vs.flatMap fun v=>v.cells.toList).toArray ti.elem)):=by
    refine⟨⟨hg.os,hg.tape,hg.output,hg.size,fun k hk=>hg.block k (by omega) (by simp)⟩,⟨fun b c hb=> ?_,hS1.good.2.mono (fun b c hb=>by
      have hlt:=hS1.good.lt hb;show(if b=w.heap.size then _ else _)=_;rw[if_neg (by omega)];exact hb)⟩,fun b hb=>if_neg (by omega),jGU _⟩
    dsimp only at hb
    by_cases he:b=w.heap.size
    · subst he;rw[if_pos rfl] at hb;simp at hb;subst hb;exact⟨_,_,hnew⟩
    · rw[if_neg he] at hb;have hlt:=hS1.good.lt hb;have:=hS1.good.1 b c hb;rw[hg.block b hlt (by simp)];exact this
  obtain⟨hS2,hle2⟩:=jp0 hS1 (fun o b Cp hb=>(yD (σ:=σ.frz fz) hS1 hb).1) hE;refine⟨_,?_,hle1.trans hle2,?_,trivial⟩
  · show Sat P B _ (σ.frz fz).obj _;exact hS2
  · simp only[SV.den];refine⟨rfl,rfl,_,_,_,rfl,rfl,jGU _,by omega,by simp,fun _=>⟨_,0,_,rfl,if_pos rfl,fun k x hx=> ?_⟩⟩;have hi:k<vs.length:=(by have:=(jGW.1 hx).1;omega);have hv:=e4 k _ x (jGY hi) hx;refine te.ty.rd_mono (hE.mono hS1.good) _ _ (te.ty.rd_congr _ _ _ (fun j hj=> ?_) hv.2.2);have:=jmZ vs e3 k j _ (jGY hi) hj;simpa using this.symm
theorem jxQ {c:Call} (hC:C.ok P) (hop:o.op= .call c) (hc:c.callee= .builtin .clear) (h:jED C σ c.args.toList c.argTypes.toList=some out) (hS:Sat P B ρ σ.obj w)
    (hev:∀x,SV.den P ρ (jL σ x) (ev x)) (hvc:kR out.vc):jC P o ev w (jz P B ρ σ out):=by
  unfold jED at h
  split at h
  case h_2=>cases h
  rename_i x U hargs htys;have hargs:c.args= #[x]:=(by rw[←jHb];exact hargs);have htys:c.argTypes= #[U]:=by rw[←jHb];exact htys
  split at h
  case h_2=>cases h
  rename_i ti te ob u lo n hsl hx
  split at h
  case h_2=>cases h
  rename_i E t nl l hob
  split at h
  case h_2=>cases h
  rename_i l' hl' hu;simp at h;subst h;obtain⟨e,rfl⟩:=jl hl';have e':t=te.ty:=(by injection e);subst e';have hu:u=te.ty:=by
    unfold yr at hu
    split at hu
    · assumption
    · cases hu
  subst hu;obtain⟨p,hp,k1,k0,k2⟩:=hS.obs ob _ hob;have hden:=hev x;rw[hx] at hden;simp only[SV.den] at hden;have hden:=hden p hp;have hlen:lo+n=l.length:=hvc.1;obtain⟨_,hte,_,hokE,hund,hka,hks,hpos⟩:=zn hC hsl;obtain⟨_,z,_,_,_,_,hz,hzc,_⟩:=qP hokE;rw[hte] at hz;have hzs:z.cells.size=te.ty.size:=(by rw[hks,←hokE.zlen,←hzc];simp);have hcast:qU e l=l:=rfl;rw[hcast];rcases jH2 n with h0|h0
  · subst h0;have hev0:∃a cap,ev x= .slice a 0 cap:=by
      cases p with
      |none=>obtain⟨e,_⟩:=hden;exact⟨_,_,e⟩
      |some q=>obtain⟨b,Cp⟩:=q;obtain⟨a,cap,e,_⟩:=hden;exact⟨_,_,e⟩
    obtain⟨a,cap,hev0⟩:=hev0;have hl:l.take lo++List.replicate 0 te.ty.dflt=l:=by
      rw[List.replicate_zero,jHf,jHH (by omega)]
    refine j6 (v:= .tuple #[]) (w':=w) ?_ ⟨ρ,?_,Env.le.refl _ _,wg _,trivial⟩
    · simp only[execOp,hop,Sem.run_bind,resolve,hc,hargs,htys,Sem.run_pure,Result.andThen_ok,invoke,builtin];cases a<;>simp[Builtin.clear_,hev0,run_underlying hund]
    · show Sat P B ρ ({σ with ob:=(ob,_)::(q6 σ []++σ.ob)}:St).obj _;simp only[q6,jHh];rw[wt,hl];have:jij σ.obj ob (some (.row E te.ty false nl l))=σ.obj:=funext fun k=>by
        unfold jij
        split
        · rename_i hk;rw[hk];exact hob.symm
        · rfl
      rw[this];exact hS
  · cases p with
    |none=>obtain⟨_,e⟩:=hden;omega
    |some q=>
      obtain⟨b,Cp⟩:=q;obtain⟨a,cap,hv,v2,v3,v4,v5⟩:=hden;have v5:=v5 (.inr (by omega));subst v5;obtain⟨k3,vs,hw,hvs,hlC,hCm,hr,hH⟩:=k2;simp only[fzH] at hH;have hzl:(Builtin.zeroCells z.cells n).toList.length=n*te.ty.size:=(by rw[jHm,vI,hzs]);have hmul:(lo+n)*te.ty.size≤Cp*te.ty.size:=jG8 _ (by omega);rw[jHD] at hmul;have hone:∀v∈(Builtin.zeroCells z.cells n).toList,v.oneCell'=true:=by
        intro v hv;obtain⟨m,hm⟩:=List.mem_iff_getElem?.1 hv;rw[jHB,jc0] at hm
        split at hm
        · simp at hm;have hlt:m%z.cells.size<z.cells.size:=Nat.mod_lt _ (by omega);rw[getElem!_pos z.cells _ hlt] at hm;refine hokE.one v ?_;rw[←hzc,←hm];simp
        · cases hm
      have hrun:=run_storeCells_at P b (lo*te.ty.size) E (Builtin.zeroCells z.cells n).toList 0 vs w hw (by rw[hzl,hvs];omega) hone;simp only[jH4,hzl] at hrun;obtain⟨f1,f2⟩:=vT w hw (vs.toList.take (lo*te.ty.size)++(Builtin.zeroCells z.cells n).toList++vs.toList.drop (lo*te.ty.size+n*te.ty.size)).toArray;refine j6 (v:= .tuple #[]) (w':=w.setRow b (vs.toList.take (lo*te.ty.size)++(Builtin.zeroCells z.cells n).toList++vs.toList.drop (lo*te.ty.size+n*te.ty.size)).toArray) ?_ ⟨ρ,?_,Env.le.refl _ _,wg _,trivial⟩
      · simp only[execOp,hop,Sem.run_bind,resolve,hc,hargs,htys,Sem.run_pure,Result.andThen_ok,invoke,builtin];obtain⟨n',rfl⟩:∃n',n=n'+1:=⟨n-1,by omega⟩;simp[Builtin.clear_,hv,run_underlying hund,hz,hrun]
      · show Sat P B ρ ({σ with ob:=(ob,_)::(q6 σ []++σ.ob)}:St).obj _;simp only[q6,jHh];rw[wt];refine jdz hS hp hH _ f1 ?_;have hnl:(l.take lo++List.replicate n te.ty.dflt).length=l.length:=(by simp;omega);have hl1:(vs.toList.take (lo*te.ty.size)).length=lo*te.ty.size:=(by simp;omega);refine⟨by rw[hnl];exact k1,by rw[hnl];exact k0,fun _ hn=> ?_,_,f2,?_,by rw[hnl];exact hlC,hCm,?_,by simpa[fzH] using hH⟩
        · rw[hn] at hnl;simp at hnl;omega
        · simp only[List.size_toArray,jHa,hl1,hzl,jHR,jHm];omega
        · intro k y hy;by_cases hk:k<lo
          · rw[jG4 (by simp;omega),jHd hk] at hy;refine te.ty.rd_congr _ _ _ (fun j hj=> ?_) (hr k y hy);have:(k+1)*te.ty.size≤lo*te.ty.size:=jG8 _ hk;rw[jHA] at this;simp only[jH1,jHc];rw[jG4 (by omega),jHd (by omega)];simp
          · have hlt:k<(l.take lo++List.replicate n te.ty.dflt).length:=(jGW.1 hy).1;rw[hnl] at hlt;have htl:(l.take lo).length=lo:=(by simp;omega);rw[jG3 (by omega),htl,List.getElem?_replicate,if_pos (by omega)] at hy;simp at hy;subst hy;have hkn:zW te.ty=true:=by
              unfold Ctx.slice at hsl
              split at hsl
              · split at hsl
                · split at hsl
                  · split at hsl
                    · rename_i hk;simp at hsl;rw[←hsl.2];exact hk
                    · cases hsl
                  · cases hsl
                · cases hsl
              · cases hsl
            refine te.ty.rd_congr _ _ _ (fun j hj=> ?_) (hokE.zd hkn ρ.H);obtain⟨d,rfl⟩:∃d,k=lo+d:=⟨k-lo,by omega⟩;have h1:(d+1)*te.ty.size≤n*te.ty.size:=jG8 _ (by omega);rw[jHA] at h1;simp only[jH1,jHc];rw[jHD,jG3 (by omega),hl1,jG4 (by omega),jHB,jc0,hzs,if_pos (by omega)];have hmod:(lo*te.ty.size+d*te.ty.size+j-lo*te.ty.size)%te.ty.size=j:=by
              rw[show lo*te.ty.size+d*te.ty.size+j-lo*te.ty.size=j+d*te.ty.size by omega,Nat.add_mul_mod_self_right,Nat.mod_eq_of_lt hj]
            rw[hmod,getElem!_pos z.cells j (by omega),←hzc];rw[jHB,jHe (by omega)]
theorem jsR {dst:Nat} (hC:C.ok P) (h:jB C σ dst o.op=some out) (hS:Sat P B ρ σ.obj w) (hev:∀x,SV.den P ρ (jL σ x) (ev x)) (hvc:kR out.vc)
    (hd:out.nw≠[]→σ.obj dst=none∧kz σ.obj dst∧∀x cs,cells σ (jL σ x)=some cs→SV.refs.refsL dst cs=false) (hcall:∀c,o.op= .call c→c.callee≠.builtin .clear→σ.obj dst=none∧kz σ.obj dst):jC P o ev w (jz P B ρ σ out):=by
  cases hop:o.op with
  |move x=>rw[hop] at h;simp[jB] at h;subst h;exact jsT (.inl hop) hS (hev x)
  |assign x=>rw[hop] at h;simp[jB] at h;subst h;exact jsT (.inr hop) hS (hev x)
  |alloc E=>
    rw[hop] at h;have hn:out.nw≠[]:=by
      simp only[jB] at h
      split at h
      · simp at h;subst h;simp
      · cases h
    exact jxS hC hop h hS (hd hn).1 (hd hn).2.1
  |box E x=>
    rw[hop] at h;have hn:out.nw≠[]:=by
      simp only[jB] at h
      split at h
      · split at h
        · simp at h;subst h;simp
        · cases h
      · cases h
    exact jCv hC hop h hS (hev x) (hd hn).1 (hd hn).2.1 (fun cs=>(hd hn).2.2 x cs)
  |build U parts=>rw[hop] at h;exact jxR hC hop h hS hev
  |buildSlice U n parts=>
    rw[hop] at h;have hn:out.nw≠[]:=by
      simp only[jB] at h
      split at h
      · split at h
        · split at h
          · simp at h;subst h;simp
          · cases h
        · cases h
      · cases h
    exact jm7 hC hop h hS hev (hd hn).1 (hd hn).2.1
  |load U a=>rw[hop] at h;exact jAG hC hop h hS (hev a) hvc
  |store U a x=>rw[hop] at h;exact jxI hC hop h hS (hev a) (hev x)
  |nilCheck x=>rw[hop] at h;exact jqU hop h hS (hev x) hvc
  |fieldAddr U x f=>rw[hop] at h;exact jol hC hop h hS (hev x) hvc
  |field U x f=>rw[hop] at h;exact jxO hC hop h hS (hev x)
  |indexAddr U x ix=>rw[hop] at h;exact jok hC hop h hS (hev x) (hev ix) hvc
  |binOp op U x y t=>rw[hop] at h;simp only[jB] at h;exact jCw hC hop h hS (hev x) (hev y) hvc
  |index U x ix=>rw[hop] at h;exact jxN hC hop h hS (hev x) (hev ix) hvc
  |unOp op T x=>rw[hop] at h;exact jAE hop h hS (hev x) hvc
  |convert V U x=>rw[hop] at h;exact jsW hC hop h hS (hev x) hvc
  |makeFunc f fs cs=>rw[hop] at h;exact jqV hop h hS hev
  |slice U x lo hi mx=>
    rw[hop] at h;cases mx with
    |none=>exact jxJ hC hop h hS hev hvc
    |some m=>
      cases lo with
      |some l=>simp[jB] at h
      |none=>
        cases hi with
        |none=>simp[jB] at h
        |some hi=>exact ju1 hC hop h hS hev hvc
  |extract x i=>rw[hop] at h;exact jsV hop h hS (hev x)
  |panic x=>rw[hop] at h;simp[jB] at h;subst h;exact jxM hvc
  |makeMap U r=>
    rw[hop] at h;cases r with
    |some r=>simp[jB] at h
    |none=>
      have hn:out.nw≠[]:=by
        simp only[jB,hC.lit] at h
        split at h
        · simp at h;subst h;simp
        · rename_i e _;cases e
        · cases h
      exact jsU hC hop h hS (hd hn).1 (hd hn).2.1
  |lookup U x ix ok=>rw[hop] at h;exact ju2 hC hop h hS (hev x) (hev ix)
  |mapUpdate U m ix x=>rw[hop] at h;exact jfo hC (.inl hop) h hS (hev m) (hev ix) (hev x)
  |insert U m ix x=>rw[hop] at h;simp only[jB,hC.lit] at h;exact jfo hC (.inr hop) h hS (hev m) (hev ix) (hev x)
  |makeSlice U l c=>
    rw[hop] at h;have hn:out.nw≠[]:=by
      simp only[jB,jB0] at h
      split at h
      · simp at h;subst h;simp
      · cases h
    exact joj hC hop h hS (hd hn).1 (hd hn).2.1 hev hvc
  |entryStore U m st x=>rw[hop] at h;exact jm6 hC hop h hS (hev m) (hev st) (hev x) hvc
  |range U x=>
    rw[hop] at h;have hn:out.nw≠[]:=by
      simp only[jB] at h
      split at h
      · split at h
        · simp at h;subst h;simp
        · cases h
      · cases h
    exact jxL hC hop h hS (hd hn).1 (hd hn).2.1 (hev x)
  |entry it=>rw[hop] at h;exact jxP hop h hS (hev it)
  |makeInterface T x=>
    rw[hop] at h;simp only[jB] at h
    split at h
    · rename_i ti hti;simp at h;subst h;exact jh5 hC hop hti hS
    · cases h
  |call c=>
    rw[hop] at h;simp only[jB] at h
    split at h
    · rename_i f hf;have hcl:=hcall c hop (by rw[hf];simp);exact jAI hC hop hf h hS hev hvc hcl.1 hcl.2
    · rename_i hb;exact jCt hC hop hb h hS hev
    · rename_i hb;have hcl:=hcall c hop (by rw[hb];simp);exact ju4 hC hop hb h hS hev hvc hcl.1 hcl.2
    · rename_i hb;exact jxQ hC hop hb h hS hev hvc
    · rename_i hb;exact jAH hC hop hb h hS hev hvc
    · rename_i hb;exact jCu hC hop hb h hS hev
    · rename_i hb
      split at h
      · rename_i a r hl
        split at h
        · rename_i m hm;simp at h;subst h;have hd:=jan (P:=P) (ρ:=ρ) (σ:=σ) hev c.args.toList;rw[hl] at hd;simp only[SV.denL] at hd;obtain⟨v,r',e,h1,h2⟩:=hd;have hv:=zl (by simpa[SV.den] using h1);subst hv;refine jj hS (v:= .int .i64 m) ?_ (w9 m) trivial;have e':(c.args.map ev).toList= .int .i64 a::r':=(by simpa using e);simp only[execOp,hop,Sem.run_bind,resolve,hb,Sem.run_pure,Result.andThen_ok,invoke,builtin,Builtin.min_,e',jhZ r r' a m hm h2]
        · cases h
      · cases h
    · rename_i hb
      split at h
      · rename_i a r hl
        split at h
        · rename_i m hm;simp at h;subst h;have hd:=jan (P:=P) (ρ:=ρ) (σ:=σ) hev c.args.toList;rw[hl] at hd;simp only[SV.denL] at hd;obtain⟨v,r',e,h1,h2⟩:=hd;have hv:=zl (by simpa[SV.den] using h1);subst hv;refine jj hS (v:= .int .i64 m) ?_ (w9 m) trivial;have e':(c.args.map ev).toList= .int .i64 a::r':=(by simpa using e);simp only[execOp,hop,Sem.run_bind,resolve,hb,Sem.run_pure,Result.andThen_ok,invoke,builtin,Builtin.max_,e',jh0 r r' a m hm h2]
        · cases h
      · cases h
    · cases h
  |_=>rw[hop] at h;simp[jB] at h
end
end Go.X
namespace Go.X
open Go.RowKit (Below)
theorem kA:∀(l:List Nat) (k:Nat),jaH l k=true↔k∈l
  |[],k=>by simp[jaH]
  |j::r,k=>by
    simp only[jaH]
    cases h:Nat.beq j k with
    |true=>have:=jGP h;subst this;simp
    |false=>
      have hne:j≠k:=jS h
      simp only[kA r k,jGS]
      constructor
      · exact .inr
      · rintro(e|e)
        · exact absurd e.symm hne
        · exact e
theorem zP:∀(l r:List Nat) (k:Nat),k∈qX l r↔k∈l∨k∈r
  |[],r,k=>by simp[qX]
  |o::l,r,k=>by
    simp only[qX]
    cases h:jaH r o with
    |true=>
      have:=(kA r o).1 h
      rw[zP l r k]
      constructor
      · rintro(e|e)
        · exact .inl (jGV _ e)
        · exact .inr e
      · rintro(e|e)
        · rcases jGS.1 e with rfl|e
          · exact .inr this
          · exact .inl e
        · exact .inr e
    |false=>
      rw[zP l (o::r) k]
      simp only[jGS]
      constructor
      · rintro(e|e|e)
        · exact .inl (.inr e)
        · exact .inl (.inl e)
        · exact .inr e
      · rintro((e|e)|e)
        · exact .inr (.inl e)
        · exact .inl e
        · exact .inr (.inr e)
theorem vk:∀(l r:List Nat),jdj l r=true→∀k,k∈l→k∈r
  |[],r,_,k,hk=>by simp at hk
  |o::l,r,h,k,hk=>by
    simp only[jdj] at h
    cases hm:jaH r o with
    |false=>rw[hm] at h;cases h
    |true=>
      rw[hm] at h
      rcases jGS.1 hk with rfl|hk
      · exact(kA r k).1 hm
      · exact vk l r h k hk
mutual
theorem jt4:∀(sv:SV) (o:Nat),sv.refs o=true→o∈sv.rl
  | .any,o,h=>by simp[SV.refs] at h
  | .dat _ _,o,h=>by simp[SV.refs] at h
  | .ep _ _,o,h=>by simp[SV.refs] at h
  | .bp o' _,o,h=>by simp only[SV.refs] at h;simp[SV.rl,jGP h]
  | .own o' _,o,h=>by simp only[SV.refs] at h;simp[SV.rl,jGP h]
  | .osl o' _ _ _,o,h=>by simp only[SV.refs] at h;simp[SV.rl,jGP h]
  | .rp o' _ _ _,o,h=>by simp only[SV.refs] at h;simp[SV.rl,jGP h]
  | .mp o',o,h=>by simp only[SV.refs] at h;simp[SV.rl,jGP h]
  | .ip o',o,h=>by simp only[SV.refs] at h;simp[SV.rl,jGP h]
  | .fe _ o' _ _ _ _ _ _,o,h=>by simp only[SV.refs] at h;simp[SV.rl,jGP h]
  | .fn _ _ _ _,o,h=>by simp[SV.refs] at h
  | .fnp _ _ _ _,o,h=>by simp[SV.refs] at h
  | .fcl _ _,o,h=>by simp[SV.refs] at h
  | .clo _ caps,o,h=>by simp only[SV.refs] at h;simp only[SV.rl];exact ja2 caps o h
  | .agg cs,o,h=>by simp only[SV.refs] at h;simp only[SV.rl];exact ja2 cs o h
  | .tup cs,o,h=>by simp only[SV.refs] at h;simp only[SV.rl];exact ja2 cs o h
  | .lit _,o,h=>by simp[SV.refs] at h
theorem ja2:∀(cs:List SV) (o:Nat),SV.refs.refsL o cs=true→o∈SV.rl.rlL cs
  |[],o,h=>by simp[SV.refs.refsL] at h
  |c::cs,o,h=>by
    simp only[SV.refs.refsL] at h
    simp only[SV.rl.rlL,jG1]
    cases hc:c.refs o with
    |true=>exact .inl (jt4 c o hc)
    |false=>rw[hc] at h;exact .inr (ja2 cs o h)
end
section
variable {P:Program} {B:zF} {σ:St} {ρ:Env} {w:World}
def jzo (os:List Nat) (obj:Nat→Option Ob):Nat→Option Ob:=fun o=>if o∈os then obj o else none
def jiJ (os:List Nat) (ρ:Env):Env:={ρ with blk:=fun o=>if o∈os then ρ.blk o else none}
def j8 (ρ:Env):List Nat→List Nat
  |[]=>[]
  |o::r=>match ρ.blk o with|some (some (b,_))=>b::j8 ρ r|_=>j8 ρ r
theorem jX {b:Nat}:∀(os:List Nat),b∈j8 ρ os↔∃o Cp,o∈os∧ρ.blk o=some (some (b,Cp))
  |[]=>by simp[j8]
  |o::r=>by
    simp only[j8]
    constructor
    · intro h
      split at h
      · rename_i b' C' hb
        rcases jGS.1 h with rfl|h
        · exact⟨o,C',jHv,hb⟩
        · obtain⟨o',Cp,h1,h2⟩:=(jX r).1 h;exact⟨o',Cp,jGV _ h1,h2⟩
      · obtain⟨o',Cp,h1,h2⟩:=(jX r).1 h;exact⟨o',Cp,jGV _ h1,h2⟩
    · rintro⟨o',Cp,h1,h2⟩
      rcases jGS.1 h1 with rfl|h1
      · rw[h2];exact jHv
      · have:=(jX r).2 ⟨o',Cp,h1,h2⟩
        split
        · exact jGV _ this
        · exact this
theorem jkM (os:List Nat) (ρ:Env):ρ.le (jiJ os ρ) []:=by
  refine⟨fun _ _ h=>h,fun o p _ hp=> ?_,fun _ _=>rfl⟩;simp only[jiJ] at hp
  split at hp
  · exact hp
  · cases hp
theorem jwg (hS:Sat P B ρ σ.obj w) (os:List Nat):Sat P ⟨w,ρ.H,j8 ρ os,fun _=>none,fun _=>0⟩ (jiJ os ρ) (jzo os σ.obj) w:=by
  refine⟨rfl,rfl,rfl,jGU _,jGU _,hS.good,fun _ _ _=>rfl,fun _ _ _=>rfl,?_,?_,?_,?_⟩
  · intro o x hx;unfold jzo at hx
    split at hx
    · rename_i ho;obtain⟨p,hp,hs⟩:=hS.obs o x hx;exact⟨p,by simp[jiJ,ho,hp],jN (jkM os ρ) (by simp) (fun _ _ _ _ o' ho'=>by simp at ho') (fun _ _ _=>⟨rfl,rfl⟩) hs⟩
    · cases hx
  · intro o ho;unfold jzo at ho;by_cases hm:o∈os
    · rw[if_pos hm] at ho;simp[jiJ,hm,hS.dead o ho]
    · simp[jiJ,hm]
  · intro o o' b C C' h h';simp only[jiJ] at h h'
    split at h
    · split at h'
      · exact hS.inj o o' b C C' h h'
      · cases h'
    · cases h
  · intro o b C h;simp only[jiJ] at h
    split at h
    · rename_i hm;exact .inr ((jX os).2 ⟨o,C,hm,h⟩)
    · cases h
theorem jsH (hS:Sat P B ρ σ.obj w) (os nw:List Nat) (hnw:∀d,d∈nw→kz σ.obj d) {ρ':Env} {obj':Nat→Option Ob} {w':World}
    (hS':Sat P ⟨w,ρ.H,j8 ρ os,fun _=>none,fun _=>0⟩ ρ' obj' w') (hle:(jiJ os ρ).le ρ' nw) (hrefs:∀o T fz cs,obj' o=some (.box T fz cs)→∀r,SV.refs.refsL r cs=true→r∈nw∨r∈os):
    ∃ρ'',Sat P B ρ'' (fun o=>if o∈nw∨o∈os then obj' o else σ.obj o) w'∧ρ.le ρ'' nw∧
      ∀sv v,(∀r,sv.refs r=true→r∈nw∨r∈os)→SV.den P ρ' sv v→SV.den P ρ'' sv v:=by
  let ρ'':Env:={ρ' with blk:=fun o=>if o∈nw∨o∈os then ρ'.blk o else ρ.blk o}
  have hle2:ρ.le ρ'' nw:=by
    refine⟨fun b c h=>hle.H b c h,fun o p ho hp=> ?_,fun o ho=>hle.len o ho⟩;simp only[ρ''] at hp;by_cases hm:o∈os
    · rw[if_pos (.inr hm)] at hp;have:=hle.blk o p ho hp;simpa[jiJ,hm] using this
    · rw[if_neg (by rintro(h|h);exact ho h;exact hm h)] at hp;exact hp
  let bad:List Nat:=((σ.ob.map Prod.fst).filter fun o=>decide ¬(o∈nw∨o∈os))
  have hbad:∀o,ρ.blk o≠none→¬(o∈nw∨o∈os)→o∈bad:=by
    intro o hb hn;simp only[bad,jHg];refine⟨?_,by simpa using hn⟩;cases hobj:σ.obj o with
    |none=>exact absurd (hS.dead o hobj) hb
    |some x=>
      simp only[St.obj] at hobj
      split at hobj
      · rename_i y hy;exact jHs.2 ⟨(o,y),zk _ _ _ hy,rfl⟩
      · cases hobj
  have hle3:ρ'.le ρ'' bad:=by
    refine⟨fun _ _ h=>h,fun o p ho hp=> ?_,fun _ _=>rfl⟩;simp only[ρ''] at hp;by_cases hm:o∈nw∨o∈os
    · rw[if_pos hm] at hp;exact hp
    · rw[if_neg hm] at hp;exact absurd (hbad o (by rw[hp];simp) hm) ho
  have hbadn:∀r,r∈bad→¬(r∈nw∨r∈os):=fun r hr=>by
    simp only[bad,jHg] at hr;simpa using hr.2
  have hsame:∀b,b<w.heap.size→b∉j8 ρ os→ρ'.H b=ρ.H b∧w'.heap[b]? =w.heap[b]? :=fun b hb hn=>⟨hS'.oldH b hb hn,hS'.old b hb hn⟩
  have hout:∀b,b<B.w.heap.size→b∉B.bor→b∉j8 ρ os:=by
    intro b hb hn hm;obtain⟨o,Cp,_,h2⟩:=(jX os).1 hm;rcases hS.own o b Cp h2 with h|h
    · omega
    · exact hn h
  have hsz:=hS.size;have hmem:∀o b Cp,o∈nw∨o∈os→ρ'.blk o=some (some (b,Cp))→∀o2 C2,¬(o2∈nw∨o2∈os)→ρ.blk o2=some (some (b,C2))→False:=by
    intro o b Cp _ h2 o2 C2 h3 h4;rcases hS'.own o b Cp h2 with h|h
    · have:=(yD hS h4).1;simp only at h;omega
    · obtain⟨o3,C3,h5,h6⟩:=(jX os).1 h;exact h3 (.inr (by rw[hS.inj o2 o3 b C2 C3 h4 h6];exact h5))
  refine⟨ρ'',⟨hS'.os.trans hS.os,hS'.tape.trans hS.tape,hS'.output.trans hS.output,jG5 hS.drawn hS'.drawn,jG5 hsz hS'.size,hS'.good,?_,?_,?_,?_,?_,?_⟩,hle2,?_⟩
  · intro b hb hn;show ρ'.H b=_;rw[(hsame b (by omega) (hout b hb hn)).1];exact hS.oldH b hb hn
  · intro b hb hn;rw[(hsame b (by omega) (hout b hb hn)).2];exact hS.old b hb hn
  · intro o x hx;by_cases hm:o∈nw∨o∈os
    · simp only[hm,if_true] at hx;obtain⟨p,hp,hs⟩:=hS'.obs o x hx;refine⟨p,by simp[ρ'',hm,hp],jN hle3 (fun h=>hbadn o h hm) (fun T fz cs hcs r hr=> ?_) (fun _ _ _=>⟨rfl,rfl⟩) hs⟩;cases hc:SV.refs.refsL r cs with
      |false=>rfl
      |true=>exact absurd (hrefs o T fz cs (by rw[hx,hcs]) r hc) (hbadn r hr)
    · simp only[hm,if_false] at hx;obtain⟨p,hp,hs⟩:=hS.obs o x hx;refine⟨p,by simp[ρ'',hm,hp],jN hle2 (fun h=>hm (.inl h)) (fun T fz cs hcs r hr=>hnw r hr o T fz cs (by rw[hx,hcs])) (fun b C hpb=> ?_) hs⟩;subst hpb;refine hsame b (yD hS hp).1 fun hb=> ?_
      obtain⟨o3,C3,h5,h6⟩:=(jX os).1 hb;exact hm (.inr (by rw[hS.inj o o3 b C C3 hp h6];exact h5))
  · intro o ho;by_cases hm:o∈nw∨o∈os
    · simp only[hm,if_true] at ho;simp[ρ'',hm,hS'.dead o ho]
    · simp only[hm,if_false] at ho;simp[ρ'',hm,hS.dead o ho]
  · intro o o' b C C' h h';simp only[ρ''] at h h';by_cases hm:o∈nw∨o∈os<;>by_cases hm':o'∈nw∨o'∈os
    · rw[if_pos hm] at h;rw[if_pos hm'] at h';exact hS'.inj o o' b C C' h h'
    · rw[if_pos hm] at h;rw[if_neg hm'] at h';exact(hmem o b C hm h o' C' hm' h').elim
    · rw[if_neg hm] at h;rw[if_pos hm'] at h';exact(hmem o' b C' hm' h' o C hm h).elim
    · rw[if_neg hm] at h;rw[if_neg hm'] at h';exact hS.inj o o' b C C' h h'
  · intro o b C h;simp only[ρ''] at h;by_cases hm:o∈nw∨o∈os
    · rw[if_pos hm] at h;rcases hS'.own o b C h with h1|h1
      · simp only at h1;exact .inl (by omega)
      · obtain⟨o3,C3,_,h6⟩:=(jX os).1 h1;exact hS.own o3 b C3 h6
    · rw[if_neg hm] at h;exact hS.own o b C h
  · intro sv v hr hd;refine SV.den_mono hle3 sv v (fun r hrb=> ?_) hd;cases hc:sv.refs r with
    |false=>rfl
    |true=>exact absurd (hr r hc) (hbadn r hrb)
end
end Go.X
namespace Go.X
open Go.RowKit (Below)
section
variable {P:Program} {B:zF} {C:Ctx} {ρ:Env} {w:World} {ops:Array Oper} {a:Act}
def jkJ (ops:Array Oper) (a:Act) (g:Nat×Bool):Prop:=yielded ops a.tmps g.1=some g.2
def GL (P:Program) (ops:Array Oper) (ρ:Env) (gl:List (Nat×(Nat×Bool)×SV)) (a:Act):Prop:=
  ∀s g v,(s,g,v)∈gl→(jkJ ops a g→SV.den P ρ v (a.tmps.getD s undef))∧(¬jkJ ops a g→a.tmps.getD s undef=undef)
theorem jmx:∀(gl:List (Nat×(Nat×Bool)×SV)) (k:Nat) g v,jxf gl k=some (g,v)→(k,g,v)∈gl
  |[],_,_,_,h=>by simp[jxf] at h
  | (j,g',x)::r,k,g,v,h=>by
    simp only[jxf] at h
    cases hb:Nat.beq j k
    · rw[hb] at h;exact jGV _ (jmx r k g v h)
    · rw[hb] at h;simp at h;obtain⟨rfl,rfl⟩:=h;have:=jGP hb;subst this;exact jHv
theorem jwD (j:Nat):yielded ops a.tmps j=(match jcV ops.toList j with|some d=>(match a.tmps[d]? with|some (.bool b)=>some b|_=>none)|none=>none):=by
  unfold yielded jcV;rw[jHB];cases h:ops[j]? with
  |none=>simp
  |some o=>
    simp only[Option.bind_some];cases o.dst with
    |none=>rfl
    |some d=>rfl
theorem jhO {j:Nat} {want:Bool} {d:Nat} (h:jcV ops.toList j=some d):jkJ ops a (j,want)↔a.tmps[d]? =some (.bool want):=by
  unfold jkJ;rw[jwD,h];simp only;constructor
  · intro h
    split at h
    · rename_i b hb;simp at h;subst h;exact hb
    · cases h
  · intro h;rw[h]
theorem jpQ {d:Nat} {b:Bool} (h:a.tmps.getD d undef= .bool b):a.tmps[d]? =some (.bool b):=by
  rw[jG0] at h;cases hd:a.tmps[d]? with
  |none=>rw[hd] at h;simp[undef] at h
  |some v=>rw[hd] at h;simp at h;rw[h]
theorem jrv {d:Nat} (h:a.tmps.getD d undef=undef) (b:Bool):a.tmps[d]?≠some (.bool b):=by
  intro hd;rw[jG0,hd] at h;simp[undef] at h
theorem jam {R:RS} (hSl:jih P ρ R.st.sl a) (hG:GL P ops ρ R.gl a):∀(fuel:Nat) (g:Nat×Bool) (γ:Bool),jfl ops.toList R fuel g=some γ→(jkJ ops a g↔γ=true)
  |0,g,γ,h=>by simp[jfl] at h
  |fuel+1,(j,want),γ,h=>by
    simp only[jfl] at h
    split at h
    case h_2=>cases h
    rename_i d hd
    rw[jhO hd]
    split at h
    · rename_i g' β hl
      split at h
      case h_2=>cases h
      rename_i γ' hg
      simp at h;subst h
      have ih:=jam hSl hG fuel g' γ' hg
      obtain⟨h1,h2⟩:=hG d g' _ (jmx _ _ _ _ hl)
      cases γ' with
      |true=>
        have:=jpQ (zG (by simpa[SV.den] using h1 (ih.2 rfl)))
        rw[this]
        cases want<;>cases β<;>simp[sgn]
      |false=>
        have hn:¬jkJ ops a g':=fun h=>by have:=ih.1 h;cases this
        constructor
        · intro h;exact absurd h (jrv (h2 hn) want)
        · intro h;simp at h
    · cases h
    · split at h
      · rename_i β hv
        simp at h;subst h
        have hden:SV.den P ρ (R.st.get d) (a.tmps.getD d undef):=jK (a:=a) hSl (.tmp d)
        rw[hv] at hden
        have:=jpQ (zG (by simpa[SV.den] using hden))
        rw[this]
        cases want<;>cases β<;>simp[sgn]
      · cases h
theorem jgF {R:RS} (hG:GL P ops ρ R.gl a):∀(fuel:Nat) (g:Nat×Bool),jkJ ops a g→∀h,h∈jjd ops.toList R fuel g→jkJ ops a h
  |0,g,_,h,hm=>by simp[jjd] at hm
  |fuel+1,(j,want),hg,h,hm=>by
    simp only[jjd] at hm
    rcases jGS.1 hm with rfl|hm
    · exact hg
    · split at hm
      · rename_i d hd
        split at hm
        · rename_i g' v hl
          refine jgF hG fuel g' ?_ h hm
          obtain⟨_,h2⟩:=hG d g' _ (jmx _ _ _ _ hl)
          rw[jhO hd] at hg
          by_cases hh:jkJ ops a g'
          · exact hh
          · exact absurd hg (jrv (h2 hh) want)
        · simp at hm
      · simp at hm
theorem jBz {g h:Nat×Bool} (e:jBA g h=true):g=h:=by
  obtain⟨a,x⟩:=g;obtain⟨b,y⟩:=h;unfold jBA at e;simp only at e
  split at e
  · rename_i hb;have:=jGP hb;subst this;cases x<;>cases y<;>simp_all
  · cases e
theorem jmH:∀(ch:List (Nat×Bool)) (g:Nat×Bool),jiZ ch g=true→g∈ch
  |[],_,h=>by simp[jiZ] at h
  |x::r,g,h=>by
    simp only[jiZ] at h
    split at h
    · rename_i e;rw[jBz e];exact jHv
    · exact jGV _ (jmH r g h)
theorem jbz:∀(gl:List (Nat×(Nat×Bool)×SV)) (ch:List (Nat×Bool)) (s:Nat) (v:SV),(s,v)∈jbA gl ch→∃g,(s,g,v)∈gl∧g∈ch
  |[],_,_,_,h=>by simp[jbA] at h
  | (s',g,x)::r,ch,s,v,h=>by
    simp only[jbA] at h
    split at h
    · rename_i hc
      rcases jGS.1 h with e|h
      · simp at e;obtain⟨rfl,rfl⟩:=e;exact⟨g,jHv,jmH _ _ hc⟩
      · obtain⟨g',h1,h2⟩:=jbz r ch s v h;exact⟨g',jGV _ h1,h2⟩
    · obtain⟨g',h1,h2⟩:=jbz r ch s v h;exact⟨g',jGV _ h1,h2⟩
theorem yM {R:RS} (hSl:jih P ρ R.st.sl a) (hG:GL P ops ρ R.gl a) {ch:List (Nat×Bool)} (hch:∀g,g∈ch→jkJ ops a g):jih P ρ (zt R ch).sl a:=by
  intro s sv h;simp only[zt] at h;rw[jk] at h
  split at h
  · rename_i v hv;simp at h;subst h;obtain⟨g,h1,h2⟩:=jbz _ _ _ _ (zk _ _ _ hv);exact(hG s g _ h1).1 (hch g h2)
  · exact hSl s sv h
theorem jk2 (t:Nat):∀(l:List Oper) (j k:Nat),k∈jc1 t l j→∃o,l[k-j]? =some o∧o.dst=some t∧j≤k
  |[],_,_,h=>by simp[jc1] at h
  |o::r,j,k,h=>by
    have more:k∈jc1 t r (j+1)→∃o',(o::r)[k-j]? =some o'∧o'.dst=some t∧j≤k:=by
      intro h;obtain⟨o',h1,h2,h3⟩:=jk2 t r (j+1) k h;refine⟨o',?_,h2,by omega⟩;rw[show k-j=(k-(j+1))+1 by omega];simpa using h1
    simp only[jc1] at h
    split at h
    · rename_i d hd
      split at h
      · rename_i hb;rcases jGS.1 h with rfl|h
        · exact⟨o,by simp,by rw[hd,jGP hb],jGU _⟩
        · exact more h
      · exact more h
    · exact more h
theorem jqG {c:Operand} {β:Bool} (hv:a.eval c= .bool β):∀g,g∈jca ops.toList c β→jkJ ops a g:=by
  intro g hg;unfold jca at hg
  split at hg
  · rename_i t ht;obtain⟨j,hj,rfl⟩:=jHs.1 hg;obtain⟨o,h1,h2,_⟩:=jk2 t _ 0 j hj;have hd:jcV ops.toList j=some t:=(by unfold jcV;simp only[Nat.sub_zero] at h1;rw[h1];exact h2);rw[jhO hd];cases c<;>simp[jqu] at ht
    subst ht;exact jpQ (by simpa[Act.eval] using hv)
  · simp at hg
theorem jAF {R:RS} {o:Oper} {c x y:Operand} {ch:List (Nat×Bool)} {out:Out} (hop:o.op= .pick c x y) (h:jt7 ops.toList R ch c x y=some out) (hS:Sat P B ρ R.st.obj w) (hSl:jih P ρ R.st.sl a) (hG:GL P ops ρ R.gl a)
    (hch:∀g,g∈ch→jkJ ops a g):jC P o a.eval w (jz P B ρ R.st out):=by
  unfold jt7 at h
  split at h
  case h_2=>cases h
  rename_i β hc;have hcv:=jK (a:=a) (yM hSl hG hch) c;rw[hc] at hcv;have hcv:=zG (by simpa[SV.den] using hcv);have hrun:(execOp a.eval o).run P w= .ok (.value (if β then a.eval x else a.eval y)) w:=by
    simp[execOp,hop,hcv,asBool]
  have hch':∀b,β=b→∀g,g∈jca ops.toList c b++ch→jkJ ops a g:=by
    rintro b rfl g hg;rcases jG1.1 hg with hg|hg
    · exact jqG hcv g hg
    · exact hch g hg
  have hx:β=true→SV.den P ρ (jL (zt R (jca ops.toList c true++ch)) x) (a.eval x):=fun e=>jK (a:=a) (yM hSl hG (hch' true e)) x
  have hy:β=false→SV.den P ρ (jL (zt R (jca ops.toList c false++ch)) y) (a.eval y):=fun e=>jK (a:=a) (yM hSl hG (hch' false e)) y
  split at h
  · rename_i p q hp hq;rw[hp] at hx;rw[hq] at hy;have hx:β=true→a.eval x= .bool p:=fun e=>zG (by simpa[SV.den] using hx e)
    have hy:β=false→a.eval y= .bool q:=fun e=>zG (by simpa[SV.den] using hy e)
    have fin:∀r,(β=true→r=p)→(β=false→r=q)→jC P o a.eval w (jz P B ρ R.st (.pure (.dat .bool r))):=by
      intro r h1 h2;refine jj hS (v:= .bool r) ?_ (w5 r) trivial;rw[hrun];cases β with
      |true=>simp[hx rfl,h1 rfl]
      |false=>simp[hy rfl,h2 rfl]
    split at h
    · simp at h;subst h;refine fin _ (fun e=>by simp[e]) (fun e=> ?_);have:=hy e;simp[Act.eval] at this;simp[e,this]
    · split at h
      · simp at h;subst h;refine fin _ (fun e=> ?_) (fun e=>by simp[e]);have:=hx e;simp[Act.eval] at this;simp[e,this]
      · simp at h;subst h;exact fin _ (fun e=>by simp[e]) (fun e=>by simp[e])
  · rename_i p q hp hq;rw[hp] at hx;rw[hq] at hy;have hx:β=true→a.eval x= .int .i64 p:=fun e=>zl (by simpa[SV.den] using hx e)
    have hy:β=false→a.eval y= .int .i64 q:=fun e=>zl (by simpa[SV.den] using hy e)
    simp at h;subst h;refine jj hS (v:= .int .i64 (cond β p q)) ?_ (w9 _) trivial;rw[hrun];cases β with
    |true=>simp[hx rfl]
    |false=>simp[hy rfl]
  · cases h
end
end Go.X
namespace Go.X
open Go.RowKit (Below)
section
variable {P:Program} {B:zF} {C:Ctx} {w:World} {ops:Array Oper} {a:Act} {o:Oper}
def Inv (P:Program) (B:zF) (n:Nat) (ops:Array Oper) (rs:RS) (a:Act) (w:World):Prop:=
  a.defers=[]∧a.tmps.size=n∧∃ρ,Sat P B ρ rs.st.obj w∧jih P ρ rs.st.sl a∧GL P ops ρ rs.gl a∧Pin B ρ
def jDr (g:Option Bool) (l:List Prop):Prop:=match g with
  |none=>kR l
  |some γ=>γ=true→kR l
def jEs (e:Eff) (v:SV):Prop:=(∃s,(s,v)∈e.sl)∨∃s g,(s,g,v)∈e.gl
structure Fit (P:Program) (B:zF) (rs R:RS) (e:Eff):Prop where
  sl:∀s v,jF R.st.sl s=some v→jF rs.st.sl s=some v
  gl:∀x,x∈R.gl→x∈rs.gl
  obj:∀o x,R.st.obj o=some x→rs.st.obj o=some x
  go:∀ρ w,Sat P B ρ rs.st.obj w→(∀d,d∈e.nw→rs.st.obj d=none∧kz rs.st.obj d)→∃B' ρR,ρ.le ρR []∧Sat P B' ρR R.st.obj w∧
    ∀ρ' w',Sat P B' ρ' ({R.st with ob:=e.ob++R.st.ob}:St).obj w'→ρR.le ρ' e.nw→
      ∃ρ'',Sat P B ρ'' (zp e rs).st.obj w'∧ρ.le ρ'' e.nw∧∀v x,jEs e v→SV.den P ρ' v x→SV.den P ρ'' v x
theorem Fit.refl (P:Program) (B:zF) (rs:RS) (e:Eff):Fit P B rs rs e:=
  ⟨fun _ _ h=>h,fun _ h=>h,fun _ _ h=>h,fun ρ _ hS _=>⟨B,ρ,Env.le.refl _ _,hS,fun ρ' _ hS' hle=>⟨ρ',hS',hle,fun _ _ _ h=>h⟩⟩⟩
structure jBd (rs:RS) (d:Nat):Prop where
  obj:rs.st.obj d=none
  sl:∀s v,(s,v)∈rs.st.sl→v.refs d=false
  gl:∀s g v,(s,g,v)∈rs.gl→v.refs d=false
  ob:∀o T fz cs,(o,some (.box T fz cs))∈rs.st.ob→SV.refs.refsL d cs=false
  lt:d<1000000
theorem jBd.noRef {rs:RS} {d:Nat} (h:jBd rs d):kz rs.st.obj d:=by
  intro o T fz cs ho;simp only[St.obj] at ho
  split at ho
  · rename_i x hx;subst ho;exact h.ob o T fz cs (zk _ _ _ hx)
  · cases ho
theorem jgv:∀(sl:List (Nat×SV)) (d s:Nat) (v:SV),jgw d sl=true→(s,v)∈sl→v.refs d=false
  |[],_,_,_,_,h=>by simp at h
  | (j,x)::r,d,s,v,hf,h=>by
    simp only[jgw] at hf
    cases hx:x.refs d with
    |true=>rw[hx] at hf;cases hf
    |false=>
      rw[hx] at hf
      rcases jGS.1 h with e|h
      · simp at e;obtain⟨_,rfl⟩:=e;exact hx
      · exact jgv r d s v hf h
theorem jmV:∀(gl:List (Nat×(Nat×Bool)×SV)) (d s:Nat) g v,jqJ d gl=true→(s,g,v)∈gl→v.refs d=false
  |[],_,_,_,_,_,h=>by simp at h
  | (j,g',x)::r,d,s,g,v,hf,h=>by
    simp only[jqJ] at hf
    cases hx:x.refs d with
    |true=>rw[hx] at hf;cases hf
    |false=>
      rw[hx] at hf
      rcases jGS.1 h with e|h
      · simp at e;obtain⟨_,_,rfl⟩:=e;exact hx
      · exact jmV r d s g v hf h
theorem vE:∀(ob:List (Nat×Option Ob)) (d o T:Nat) fz cs,vF d ob=true→(o,some (.box T fz cs))∈ob→SV.refs.refsL d cs=false
  |[],_,_,_,_,_,_,h=>by simp at h
  | (j,y)::r,d,o,T,fz,cs,hf,h=>by
    have hr:vF d r=true∧∀T fz cs,y=some (.box T fz cs)→SV.refs.refsL d cs=false:=by
      unfold vF at hf
      split at hf
      · rename_i e;cases e
      · rename_i e;cases e
        split at hf
        · cases hf
        · rename_i hx;exact⟨hf,fun T fz cs e=>by simp at e;obtain⟨rfl,rfl,rfl⟩:=e;exact hx⟩
      · rename_i e;cases e;rename_i hne;exact⟨hf,fun T fz cs e=>by subst e;exact(hne _ _ _ _ rfl).elim⟩
    rcases jGS.1 h with e|h
    · simp at e;obtain⟨_,e⟩:=e;exact hr.2 T fz cs e.symm
    · exact vE r d o T fz cs hr.1 h
theorem gA {rs:RS} {d:Nat} (h:juu rs d=true):jBd rs d:=by
  unfold juu at h
  split at h
  · rename_i h1 h2 h3 h4;exact⟨h1,fun s v hv=>jgv _ _ s v h2 hv,fun s g v hv=>jmV _ _ s g v h3 hv,fun o T fz cs ho=>vE _ _ o T fz cs h4 ho,jG6 h⟩
  · cases h
theorem jgz (d:Nat):∀(t:Ty) (x:t.Data),SV.refs.refsL d (jpm t x)=false
  | .int,_=>rfl
  | .bool,_=>rfl
  | .uint _,_=>rfl
  | .slice _,_=>rfl
  | .map _ _,_=>rfl
  | .ptr _,_=>rfl
  | .unit,_=>rfl
  | .pair a b,x=>by
    have app:∀(l r:List SV),SV.refs.refsL d l=false→SV.refs.refsL d r=false→SV.refs.refsL d (l++r)=false:=by
      intro l r h1 h2
      induction l with
      |nil=>simpa using h2
      |cons v l ih=>
        simp only[jHi,SV.refs.refsL] at h1⊢;cases hv:v.refs d with
        |true=>rw[hv] at h1;cases h1
        |false=>rw[hv] at h1;exact ih h1
    exact app _ _ (jgz d a x.1) (jgz d b x.2)
theorem jxX {σ:St} {sv:SV} {cs:List SV} {d:Nat} (h:cells σ sv=some cs) (hr:sv.refs d=false):SV.refs.refsL d cs=false:=by
  have one:∀v:SV,v.refs d=false→SV.refs.refsL d [v]=false:=fun v hv=>by simp[SV.refs.refsL,hv]
  unfold cells at h
  split at h<;>first
    | (cases h;done)
    | (simp at h;subst h;simpa[SV.refs] using hr)
    | (simp at h;subst h;exact jgz d _ _)
    | (split at h
       · simp at h;subst h;exact one _ hr
       · cases h)
    | (simp at h;subst h;exact one _ hr)
theorem jvI (R:RS) (ch:List (Nat×Bool)):(zt R ch).obj=R.st.obj:=rfl
theorem jzl {rs R:RS} {e:Eff} (hF:Fit P B rs R e) {d:Nat} (hsl:∀s v,jF rs.st.sl s=some v→v.refs d=false) (hgl:∀s g v,(s,g,v)∈rs.gl→v.refs d=false) (ch:List (Nat×Bool)) (x:Operand):
    (jL (zt R ch) x).refs d=false:=by
  cases x with
  |tmp t=>
    simp only[jL,St.get,zt];rw[jk];cases hv:jF (jbA R.gl ch) t with
    |some v=>
      obtain⟨g,h1,_⟩:=jbz _ _ _ _ (zk _ _ _ hv);exact hgl t g v (hF.gl _ h1)
    |none=>
      simp only;cases hv:jF R.st.sl t with
      |some v=>exact hsl t v (hF.sl t v hv)
      |none=>rfl
  |const v=>cases v<;>simp only[jL,jn6]<;>first|rfl|(split<;>rfl)
  |global g=>rfl
  |func f=>rfl
theorem jrX {rs R:RS} {e:Eff} {ρ:Env} {B':zF} {ch:List (Nat×Bool)} {out:Out} (hC:C.ok P) (hF:Fit P B rs R e) (h:jkl C ops.toList o R ch=some out) (hS:Sat P B' ρ R.st.obj w) (hSl:jih P ρ R.st.sl a) (hG:GL P ops ρ R.gl a)
    (hch:∀g,g∈ch→jkJ ops a g) (hvc:kR out.vc) (hnew:(out.nw≠[]∨jdX o.op=true)→jBd rs (joi o)):jC P o a.eval w (jz P B' ρ R.st out):=by
  unfold jkl at h
  split at h
  · rename_i c x y hop;exact jAF hop h hS hSl hG hch
  case h_2 U n parts g hop hgd=>
    have hle:∀{v w'},jz P B' ρ (zt R ch) out v w'→jz P B' ρ R.st out v w':=fun h=>by
      obtain⟨ρ',h1,h2,h3,h4⟩:=h;refine⟨ρ',?_,h2,h3,h4⟩;have e:({(zt R ch) with ob:=out.wr++(q6 (zt R ch) out.fz++(zt R ch).ob)}:St).obj=({R.st with ob:=out.wr++(q6 R.st out.fz++R.st.ob)}:St).obj:=by
        have:∀l,q6 (zt R ch) l=q6 R.st l:=by
          intro l
          induction l with
          |nil=>rfl
          |cons k r ih=>simp only[q6,jvI,ih]
        funext k;simp only[St.obj,this];rfl
      rw[e] at h1;exact h1
    exact jC.mono (ju3 (σ:=zt R ch) hC hop h hS (fun x=>jK (a:=a) (yM hSl hG hch) x)) fun v w'=>hle
  · rename_i hnp _;have hle:∀{v w'},jz P B' ρ (zt R ch) out v w'→jz P B' ρ R.st out v w':=fun h=>by
      obtain⟨ρ',h1,h2,h3,h4⟩:=h;refine⟨ρ',?_,h2,h3,h4⟩;have e:({(zt R ch) with ob:=out.wr++(q6 (zt R ch) out.fz++(zt R ch).ob)}:St).obj=({R.st with ob:=out.wr++(q6 R.st out.fz++R.st.ob)}:St).obj:=by
        have:∀l,q6 (zt R ch) l=q6 R.st l:=by
          intro l
          induction l with
          |nil=>rfl
          |cons k r ih=>simp only[q6,jvI,ih]
        funext k;simp only[St.obj,this];rfl
      rw[e] at h1;exact h1
    have noref:jBd rs (joi o)→R.st.obj (joi o)=none∧kz R.st.obj (joi o)∧∀x cs,cells (zt R ch) (jL (zt R ch) x)=some cs→SV.refs.refsL (joi o) cs=false:=by
      intro hn;have h1:=hn.obj;refine⟨?_,fun k T fz cs hk=>hn.noRef k T fz cs (hF.obj _ _ hk),fun x cs hcs=>jxX hcs (jzl hF (fun s v h=>hn.sl s v (zk _ _ _ h)) hn.gl ch x)⟩;cases hx:R.st.obj (joi o) with
      |none=>rfl
      |some x=>rw[hF.obj _ _ hx] at h1;cases h1
    refine jC.mono (jsR (σ:=zt R ch) hC h hS (fun x=>jK (a:=a) (yM hSl hG hch) x) hvc (fun hne=> ?_) (fun c hc hne=> ?_)) fun v w'=>hle
    · exact noref (hnew (.inl hne))
    · have:=noref (hnew (.inr (by
        rw[hc];unfold jdX
        split
        · rename_i h;cases h;split
          · rename_i h;exact absurd h hne
          · rfl
        · rename_i h;exact absurd rfl (h c))))
      exact⟨this.1,this.2.1⟩
theorem jsG:∀(l:List Oper) (d:Nat) (gl:List (Nat×(Nat×Bool)×SV)),jCl l d gl=true→∀s j b v,(s,(j,b),v)∈gl→s≠d∧∃dj,jcV l j=some dj∧dj≠d
  |_,_,[],_,s,j,b,v,hm=>by simp at hm
  |l,d,(s',(j',b'),v')::r,h,s,j,b,v,hm=>by
    simp only[jCl] at h
    split at h
    · rename_i dj hb hd
      split at h
      · cases h
      · rename_i hb2
        rcases jGS.1 hm with e|hm
        · simp at e;obtain⟨rfl,⟨rfl,rfl⟩,rfl⟩:=e
          exact⟨jS hb,dj,hd,jS hb2⟩
        · exact jsG l d r h s j b v hm
    · cases h
theorem jp4 (a:Act) (d s:Nat) (v:Value):(a.put (some d) v).tmps.getD s undef=if s=d∧d<a.tmps.size then v else a.tmps.getD s undef:=by
  simp only[Act.put,jG0,jG7];by_cases e:s=d
  · subst e;by_cases hlt:s<a.tmps.size
    · simp[hlt]
    · simp[hlt]
  · rw[if_neg (fun h=>e h.symm),if_neg (fun h=>e h.1)]
theorem jvU {d j:Nat} {b:Bool} {v:Value} {dj:Nat} (hj:jcV ops.toList j=some dj) (hne:dj≠d):jkJ ops (a.put (some d) v) (j,b)↔jkJ ops a (j,b):=by
  rw[jhO hj,jhO hj];simp only[Act.put,jG7];rw[if_neg (fun h=>hne h.symm)]
structure jq8 (C:Ctx) (ops:Array Oper) (o:Oper) (rs:RS) (e:Eff):Prop where
  frame:∀d,o.dst=some d→d<C.n
  gl:∀d,o.dst=some d→∀s j b v,(s,(j,b),v)∈rs.gl→s≠d∧∃dj,jcV ops.toList j=some dj∧dj≠d
  guard:∀d,o.dst=some d→∀j b,o.guard=some (j,b)→∃dj,jcV ops.toList j=some dj∧dj≠d
  nw:∀d,d∈e.nw→jBd rs d
  dst:(e.nw≠[]∨jdX o.op=true)→jBd rs (joi o)
theorem jb3 {rs:RS} (h:jzz ops.toList o rs=true) {d:Nat} (hd:o.dst=some d):(∀s j b v,(s,(j,b),v)∈rs.gl→s≠d∧∃dj,jcV ops.toList j=some dj∧dj≠d)∧
    ∀j b,o.guard=some (j,b)→∃dj,jcV ops.toList j=some dj∧dj≠d:=by
  unfold jzz at h;rw[hd] at h;simp only at h
  split at h
  · rename_i hg;refine⟨jsG _ _ _ h,fun j b hgd=> ?_⟩;rw[hgd] at hg;simp only[jzy] at hg
    split at hg
    · rename_i dj hdj
      split at hg
      · cases hg
      · rename_i hb;exact⟨dj,hdj,jS hb⟩
    · cases hg
  · cases h
theorem jgo {rs:RS} {e:Eff} {ρ ρ'':Env} {w':World} {n:Nat} {v:Value} (hd:a.defers=[]) (hn:a.tmps.size=n) (hSl:jih P ρ rs.st.sl a) (hG:GL P ops ρ rs.gl a) (hPin:Pin B ρ)
    (hS:Sat P B ρ'' (zp e rs).st.obj w') (hle:ρ.le ρ'' e.nw) (hfit:jq8 C ops o rs e) (hfr:∀d,o.dst=some d→d<n)
    {sv gv:SV} (hsl:e.sl=jrC o sv) (hden:∀d,o.dst=some d→SV.den P ρ'' sv v) (hgl:∀x,x∈e.gl→∃d g,o.dst=some d∧o.guard=some g∧x=(d,g,gv))
    (hg:∀d g,o.dst=some d→o.guard=some g→(jkJ ops a g→SV.den P ρ'' gv v)∧(¬jkJ ops a g→v=undef)):
    Inv P B n ops (zp e rs) (a.put o.dst v) w':=by
  have hold1:∀s sv',jF rs.st.sl s=some sv'→SV.den P ρ'' sv' (a.tmps.getD s undef):=fun s sv' h=>
    SV.den_mono hle _ _ (fun r hr=>(hfit.nw r hr).sl s sv' (zk _ _ _ h)) (hSl s sv' h)
  have hold2:∀s g v',(s,g,v')∈rs.gl→SV.den P ρ v' (a.tmps.getD s undef)→SV.den P ρ'' v' (a.tmps.getD s undef):=fun s g v' h hdn=>
    SV.den_mono hle _ _ (fun r hr=>(hfit.nw r hr).gl s g v' h) hdn
  have hPin':Pin B ρ'':=hPin.mono hle (fun d hd=>(hfit.nw d hd).lt);cases hdst:o.dst with
  |none=>
    refine⟨hd,hn,ρ'',hS,?_,?_,hPin'⟩
    · intro s sv' h;simp only[zp,hsl,jrC,hdst,jHh] at h;exact hold1 s sv' h
    · intro s g v' hm;simp only[zp] at hm;rcases jG1.1 hm with hm|hm
      · obtain⟨d,_,h1,_⟩:=hgl _ hm;rw[hdst] at h1;cases h1
      · obtain⟨h1,h2⟩:=hG s g v' hm;exact⟨fun hh=>hold2 s g v' hm (h1 hh),h2⟩
  |some d=>
    have hlt:d<a.tmps.size:=(by rw[hn];exact hfr d hdst);have k1:=hfit.gl d hdst;have k2:=hfit.guard d hdst;refine⟨by simpa[Act.put] using hd,by simpa[Act.put] using hn,ρ'',hS,?_,?_,hPin'⟩
    · intro s sv' h;simp only[zp,hsl,jrC,hdst,List.singleton_append] at h;rw[jp4];by_cases e:s=d
      · subst e;rw[jH] at h;simp at h;subst h;rw[if_pos ⟨rfl,hlt⟩];exact hden s hdst
      · rw[jw (fun h=>e h.symm)] at h;rw[if_neg (fun h=>e h.1)];exact hold1 s sv' h
    · intro s g v' hm;simp only[zp] at hm;rcases jG1.1 hm with hm|hm
      · obtain⟨d',g',h1,h2,h3⟩:=hgl _ hm;rw[hdst] at h1;simp at h1 h3;obtain⟨rfl,rfl,rfl⟩:=h3;subst h1;obtain⟨j,b⟩:=g;obtain⟨dj,h4,h5⟩:=k2 j b h2;rw[jvU h4 h5,jp4,if_pos ⟨rfl,hlt⟩];exact hg d (j,b) hdst h2
      · obtain⟨j,b⟩:=g;obtain⟨h1,h2⟩:=hG s (j,b) v' hm;obtain⟨k3,dj,k4,k5⟩:=k1 s j b v' hm;rw[jvU k4 k5,jp4,if_neg (fun h=>k3 h.1)];exact⟨fun hh=>hold2 s (j,b) v' hm (h1 hh),h2⟩
theorem jew {rs:RS}:∀(l:List Nat),jo1 rs l=true→∀d,d∈l→juu rs d=true
  |[],_,d,h=>by simp at h
  |x::r,h,d,hm=>by
    simp only[jo1] at h
    split at h
    · rename_i hx
      rcases jGS.1 hm with rfl|hm
      · exact hx
      · exact jew r h d hm
    · cases h
theorem vG {rs:RS} {e:Eff} (h:fits C ops.toList o rs e=true):jq8 C ops o rs e:=by
  unfold fits at h
  split at h
  · rename_i h1 h2 h3 h4;refine⟨fun d hd=> ?_,fun d hd=>(jb3 h2 hd).1,fun d hd=>(jb3 h2 hd).2,fun d hd=>gA (jew _ h3 d hd),fun hor=>gA ?_⟩
    · rw[hd] at h1;simp only[jgq] at h1;exact jG6 h1
    · split at h4
      · rename_i e1 e2;rcases hor with h|h
        · exact absurd e1 h
        · rw[e2] at h;cases h
      · exact h4
  · cases h
theorem yL (hC:C.ok P) {rs R:RS} {e:Eff} (he:jcU C ops.toList o R=some e) (hfit:jq8 C ops o rs e) (hF:Fit P B rs R e) (hI:Inv P B C.n ops rs a w) (hvc:jDr e.guard e.vc)
    {K:Act→World→Prop} {Q:Exit→Act→World→Prop} (hK:∀a' w',Inv P B C.n ops (zp e rs) a' w'→jDr e.guard e.fact→K a' w'):
    if Region.wanted o (yielded ops a.tmps) then o.wp P a w K Q else K (a.put o.dst undef) w:=by
  obtain⟨hd,hn,ρ,hS,hSl,hG,hPin⟩:=hI;have f1:=hfit.frame;have f4:=hfit.dst;obtain⟨B',ρR,hleR,hSR,hgo⟩:=hF.go ρ w hS (fun d hd=>⟨(hfit.nw d hd).obj,(hfit.nw d hd).noRef⟩);have hSlR:jih P ρR R.st.sl a:=fun s sv h=>SV.den_mono hleR _ _ (fun r hr=>by simp at hr) (hSl s sv (hF.sl s sv h))
  have hGR:GL P ops ρR R.gl a:=fun s g v h=>⟨fun hh=>SV.den_mono hleR _ _ (fun r hr=>by simp at hr) ((hG s g v (hF.gl _ h)).1 hh),(hG s g v (hF.gl _ h)).2⟩
  have hle2:∀{ρ'':Env},ρ.le ρ'' e.nw→ρ.le ρ'' e.nw:=fun h=>h
  unfold jcU at he
  split at he
  · --no guard
    rename_i hgd
    split at he
    · cases he
    rename_i out hout;simp at he;subst he;have hw:Region.wanted o (yielded ops a.tmps)=true:=(by simp[Region.wanted,hgd]);rw[if_pos hw];have hdo:=jrX (w:=w) (a:=a) hC hF hout hSR hSlR hGR (fun g hg=>by simp at hg) hvc f4;refine hdo.wp fun v w' hL=> ?_
    obtain⟨ρ',g1,g2,g3,g4⟩:=hL;obtain⟨ρ'',q1,q2,q3⟩:=hgo ρ' w' (by simpa only[jHc] using g1) g2;refine hK _ _ (jgo (gv:= .any) hd hn hSl hG hPin q1 q2 hfit f1 rfl (fun d hdd=>q3 _ _ (.inl ⟨d,by simp[jrC,hdd]⟩) g3) (fun x hx=>by simp at hx) (fun d g _ hg=>by rw[hgd] at hg;cases hg)) g4
  · rename_i g hgd
    split at he
    · cases he
    rename_i γ hγ
    split at he
    · cases he
    rename_i out hout
    split at he
    case h_2=>cases he
    rename_i hwr hnw;simp at he;subst he;have hiff:=jam hSlR hGR _ _ _ hγ;have hwant:(Region.wanted o (yielded ops a.tmps)=true)↔jkJ ops a g:=by
      obtain⟨j,b⟩:=g;simp[Region.wanted,hgd,jkJ]
    have hglm:∀x,x∈(match o.dst with|some d=>[(d,g,out.sv)]|none=>[])→∃d g',o.dst=some d∧o.guard=some g'∧x=(d,g',out.sv):=by
      intro x hx
      split at hx
      · rename_i d hdd;simp at hx;exact⟨d,g,hdd,hgd,hx⟩
      · simp at hx
    by_cases hH:jkJ ops a g
    · rw[if_pos (hwant.2 hH)];have hγ1:=hiff.1 hH;have hdo:=jrX (w:=w) (a:=a) hC hF hout hSR hSlR hGR (jgF hGR _ _ hH) (hvc hγ1) (fun hor=>f4 (hor.imp (fun h=>absurd hnw h) id));refine hdo.wp fun v w' hL=> ?_
      obtain⟨ρ',g1,g2,g3,g4⟩:=hL;rw[hwr] at g1;rw[hnw] at g2;obtain⟨ρ'',q1,q2,q3⟩:=hgo ρ' w' (by simpa only[jHh] using g1) g2;refine hK _ _ (jgo (sv:= .any) hd hn hSl hG hPin q1 q2 hfit f1 rfl (fun d hdd=>wg _) hglm (fun d g' hdd hg'=>⟨fun _=> ?_,fun hn=> ?_⟩)) (fun _=>g4)
      · exact q3 _ _ (.inr ⟨d,g,by simp[hdd]⟩) g3
      · rw[hgd] at hg';simp at hg';subst hg';exact absurd hH hn
    · rw[if_neg (fun h=>hH (hwant.1 h))];obtain⟨ρ',g1,g2,_,_⟩:=jP out.fz hSR;obtain⟨ρ'',q1,q2,q3⟩:=hgo ρ' w g1 g2;refine hK _ _ (jgo (sv:= .any) hd hn hSl hG hPin q1 q2 hfit f1 rfl (fun d hdd=>wg _) hglm (fun d g' hdd hg'=>⟨fun hh=> ?_,fun _=>rfl⟩)) (fun hγ1=>absurd (hiff.2 hγ1) hH);rw[hgd] at hg';simp at hg';subst hg';exact absurd hh hH
end
end Go.X
namespace Go.X
open Go.RowKit (Below)
theorem jkZ:∀(l:List Prop) (k:Prop),asks l k→kR l∧k
  |[],_,h=>⟨trivial,h⟩
  |_::r,k,h=>⟨⟨h.1,(jkZ r k h.2).1⟩,(jkZ r k h.2).2⟩
theorem jib (γ:Bool):∀(l:List Prop) (k:Prop),jA2 γ l k→(γ=true→kR l)∧k
  |[],_,h=>⟨fun _=>trivial,h⟩
  |_::r,k,h=>⟨fun e=>⟨h.1 e,(jib γ r k h.2).1 e⟩,(jib γ r k h.2).2⟩
theorem vZ:∀(l:List Prop) (k:Prop),jqH l k→kR l→k
  |[],_,h,_=>h
  |_::r,k,h,a=>vZ r k (h a.1) a.2
theorem jpi (γ:Bool):∀(l:List Prop) (k:Prop),jAn γ l k→(γ=true→kR l)→k
  |[],_,h,_=>h
  |_::r,k,h,a=>jpi γ r k (h fun e=>(a e).1) fun e=>(a e).2
theorem jfJ {e:Eff} {es:List Eff} {k:Prop} (h:zV false (e::es) k):jDr e.guard e.vc∧(jDr e.guard e.fact→zV false es k):=by
  simp only[zV] at h;cases hg:e.guard with
  |none=>rw[hg] at h;have:=jkZ _ _ h;exact⟨this.1,fun hf=>vZ _ _ this.2 hf⟩
  |some γ=>rw[hg] at h;have:=jib γ _ _ h;exact⟨this.1,fun hf=>jpi γ _ _ this.2 hf⟩
theorem jbF {k:Prop}:∀(es:List Eff),zV true es k→(∀e,e∈es→jDr e.guard e.vc)∧k
  |[],h=>⟨fun e he=>by simp at he,h⟩
  |e::es,h=>by
    simp only[zV] at h
    have:jDr e.guard e.vc∧zV true es k:=by
      cases hg:e.guard with
      |none=>rw[hg] at h;exact jkZ _ _ h
      |some γ=>rw[hg] at h;exact jib γ _ _ h
    obtain⟨h1,h2⟩:=jbF es this.2;refine⟨fun x hx=> ?_,h2⟩;rcases jGS.1 hx with rfl|hx
    · exact this.1
    · exact h1 x hx
section
variable {P:Program} {B:zF} {C:Ctx} {ops:Array Oper} {Q:Exit→Act→World→Prop}
theorem wH (hC:C.ok P) {k:Prop}:∀(l:List Oper) (rs rs':RS) (es:List Eff) (a:Act) (w:World),yz C ops.toList l rs=some (es,rs')→zV false es k→Inv P B C.n ops rs a w→
    (k→∀a' w',Inv P B C.n ops rs' a' w'→Q .normal a' w')→wpList P ops Q l a w
  |[],rs,rs',es,a,w,h,hk,hI,hQ=>by
    simp[yz] at h
    obtain⟨rfl,rfl⟩:=h
    exact hQ hk a w hI
  |o::r,rs,rs',es,a,w,h,hk,hI,hQ=>by
    simp only[yz] at h
    split at h
    · cases h
    rename_i e he
    split at h
    · cases h
    rename_i hf
    split at h
    · cases h
    rename_i es' rs2 hr
    simp at h
    obtain⟨rfl,rfl⟩:=h
    obtain⟨h1,h2⟩:=jfJ hk
    have:=yL (K:=wpList P ops Q r) (Q:=Q) hC he (vG hf) (Fit.refl P B rs e) hI h1 (fun a' w' hI' hfact=>wH hC r _ _ _ a' w' hr (h2 hfact) hI' hQ)
    unfold wpList
    split
    · rename_i hw;rw[if_pos hw] at this;exact .inl this
    · rename_i hw;rw[if_neg hw] at this;exact this
theorem vB (σ:St) (p:SV→Bool):∀(l:List (Nat×SV)) (s:Nat) (v:SV),jF (jeW σ p l) s=some v→v= .any
  |[],s,v,h=>by simp[jeW,jF] at h
  | (j,x)::r,s,v,h=>by
    simp only[jeW] at h
    split at h
    · simp only[jF] at h
      cases hb:Nat.beq j s with
      |true=>rw[hb] at h;simp at h;exact h.symm
      |false=>rw[hb] at h;exact vB σ p r s v h
    · exact vB σ p r s v h
theorem kI (σ:St) (p:SV→Bool):∀(l:List (Nat×SV)) (s:Nat),jF (jeW σ p l) s=none→jF l s≠none→p (σ.get s)=false
  |[],s,_,h=>by simp[jF] at h
  | (j,x)::r,s,h,hl=>by
    simp only[jeW] at h
    simp only[jF] at hl
    cases hb:Nat.beq j s with
    |true=>
      have:=jGP hb
      subst this
      split at h
      · simp[jF] at h
      · rename_i hp;exact hp
    |false=>
      rw[hb] at hl
      split at h
      · simp only[jF,hb] at h;exact kI σ p r s h hl
      · exact kI σ p r s h hl
theorem jjG {n m:Nat} {σ:St} {a:Act} {w:World} (h:Rel P B n σ a w):Rel P B n (gc m σ) a w:=by
  unfold gc
  split
  · exact h
  · obtain⟨h1,h2,ρ,h3,h4,h5⟩:=h;refine⟨h1,h2,ρ,h3,fun s v hv=> ?_,h5⟩;simp only at hv;rw[jk] at hv
    split at hv
    · rename_i x hx;simp at hv;subst hv;rw[vB _ _ _ _ _ hx];exact wg _
    · exact h4 s v hv
theorem jbX {os:List Nat} {v:SV} (h:jf8 os v=false):∀o,o∈os→v.refs o=false:=by
  induction os with
  |nil=>intro o ho;simp at ho
  |cons x r ih=>
    intro o ho;simp only[jf8] at h
    split at h
    · cases h
    · rename_i hx;rcases jGS.1 ho with rfl|ho
      · exact hx
      · exact ih h o ho
theorem jwT {n s:Nat} {σ:St} {a:Act} {w:World} (h:Rel P B n σ a w):Rel P B n (jrL s σ) a w:=by
  unfold jrL
  split
  case h_2=>exact h
  rename_i o t hget
  split
  · exact h
  rename_i hne;have hne:o≠s:=jS hne
  split
  case h_2=>exact h
  rename_i x hobj hfr;simp only[jGT] at hfr;obtain⟨hfr,hlt⟩:=hfr;have hlt:=jG6 hlt;obtain⟨h1,h2,ρ,hS,hSl,hPin⟩:=h
  let ρ':Env:={H:=ρ.H,blk:=fun k=>if k=s then ρ.blk o else if k=o then none else ρ.blk k,len:=fun k=>if k=s then ρ.len o else ρ.len k}
  have hle:ρ.le ρ' [s]:=⟨fun _ _ h=>h,fun k p hk hp=>by
    have hk:k≠s:=(by simpa using hk);simp only[ρ',hk,if_false] at hp
    split at hp
    · cases hp
    · exact hp,fun k hk=>by simp[ρ',show k≠s by simpa using hk]⟩
  have hobj':∀k,({σ with ob:=(s,some x)::(o,none)::σ.ob}:St).obj k=if k=s then some x else if k=o then none else σ.obj k:=by
    intro k;rw[wS,wS]
  have hbox:∀k T fz cs,σ.obj k=some (.box T fz cs)→SV.refs.refsL s cs=false:=by
    intro k T fz cs hk;simp only[St.obj] at hk
    split at hk
    · rename_i y hy;subst hk;exact vE _ _ k T fz cs hfr (zk _ _ _ hy)
    · cases hk
  have obs1:∀k (y:Ob) p,σ.obj k=some y→j9 P ρ w k p y→k≠s→j9 P ρ' w k p y:=by
    intro k y p hk hs hks;exact jN hle (by simpa using hks) (fun T fz cs e r hr=>by simp at hr;subst hr;subst e;exact hbox k T fz cs hk) (fun _ _ _=>⟨rfl,rfl⟩) hs
  refine⟨h1,h2,ρ',⟨hS.os,hS.tape,hS.output,hS.drawn,hS.size,hS.good,hS.oldH,hS.old,?_,?_,?_,?_⟩,?_,?_⟩
  rotate_right
  · refine⟨fun k p hk hb=> ?_,hPin.2⟩;have hks:k≠s:=fun e=>by omega
    simp only[ρ',if_neg hks] at hb⊢
    split at hb
    · cases hb
    · exact hPin.1 k p hk hb
  · intro k y hk;have hk':=hobj' k;simp only[St.obj] at hk hk';rw[hk'] at hk;by_cases e:k=s
    · subst e;rw[if_pos rfl] at hk;simp at hk;subst hk;obtain⟨p,hp,hs⟩:=hS.obs o x hobj;refine⟨p,by simp[ρ',hp],?_⟩;have hs':=obs1 o x p hobj hs hne;cases x with
      |box T fz cs=>exact hs'
      |row E u fz nl l=>
        simp only[j9] at hs'⊢;obtain⟨q1,q2⟩:=hs';refine⟨?_,q2⟩;have e1:ρ'.len k=ρ.len o:=(by simp[ρ']);have e2:ρ'.len o=ρ.len o:=(by simp[ρ',hne]);rw[e1,←e2];exact q1
      |map fz kt vt l=>exact hs'
      |iter kt vt left cur=>exact hs'
      |mape kt vt l key st=>exact hs'
    · rw[if_neg e] at hk;by_cases e':k=o
      · rw[if_pos e'] at hk;cases hk
      · rw[if_neg e'] at hk;obtain⟨p,hp,hs⟩:=hS.obs k y hk;exact⟨p,by simp[ρ',e,e',hp],obs1 k y p hk hs e⟩
  · intro k hk;have hk':=hobj' k;simp only[St.obj] at hk hk';rw[hk'] at hk;by_cases e:k=s
    · rw[if_pos e] at hk;cases hk
    · rw[if_neg e] at hk;by_cases e':k=o
      · simp only[ρ'];rw[if_neg e,if_pos e']
      · rw[if_neg e'] at hk;simp only[ρ'];rw[if_neg e,if_neg e'];exact hS.dead k hk
  · intro k k' b C1 C2 hk hk';simp only[ρ'] at hk hk';by_cases e:k=s<;>by_cases e':k'=s
    · rw[e,e']
    · rw[if_pos e] at hk;rw[if_neg e'] at hk'
      split at hk'
      · cases hk'
      · rename_i e2;exact absurd (hS.inj _ _ _ _ _ hk hk').symm e2
    · rw[if_neg e] at hk;rw[if_pos e'] at hk'
      split at hk
      · cases hk
      · rename_i e2;exact absurd (hS.inj _ _ _ _ _ hk hk') e2
    · rw[if_neg e] at hk;rw[if_neg e'] at hk'
      split at hk
      · cases hk
      · split at hk'
        · cases hk'
        · exact hS.inj _ _ _ _ _ hk hk'
  · intro k b C1 hk;simp only[ρ'] at hk
    split at hk
    · exact hS.own _ _ _ hk
    · split at hk
      · cases hk
      · exact hS.own _ _ _ hk
  · intro k v hv;simp only at hv;by_cases e:k=s
    · subst e;rw[jH] at hv;simp at hv;subst hv;have hd:=jK (a:=a) hSl (.tmp k);simp only[jL] at hd;rw[hget] at hd;simp only[SV.den] at hd⊢;intro p hp;have hp':ρ.blk o=some p:=(by simpa[ρ'] using hp);have e1:ρ'.len k=ρ.len o:=(by simp[ρ']);rw[e1];exact hd p hp'
    · rw[jw (fun h=>e h.symm),jk] at hv
      split at hv
      · rename_i y hy;simp at hv;subst hv;rw[vB _ _ _ _ _ hy];exact wg _
      · rename_i hnone;have hp:=kI _ _ _ k hnone (by rw[hv];simp);have hg:σ.get k=v:=(by unfold St.get;rw[hv]);rw[hg] at hp;exact SV.den_mono hle v _ (fun r hr=>by simp at hr;subst hr;exact jbX hp r (by simp)) (hSl k v hv)
theorem ju6 {ρ:Env}:∀(cs:List SV) (vs:List Value) (j:Nat) (sv:SV),SV.denL P ρ cs vs→cs[j]? =some sv→∃v,vs[j]? =some v∧SV.den P ρ sv v
  |[],_,_,_,_,h=>by simp at h
  |c::cs,vs,j,sv,k,h=>by
    simp only[SV.denL] at k
    obtain⟨v,r,rfl,k1,k2⟩:=k
    cases j with
    |zero=>simp at h;subst h;exact⟨v,rfl,k1⟩
    |succ j=>exact ju6 cs r j sv k2 (by simpa using h)
theorem jqW {ρ:Env}:∀(cs:List SV) (vs:List Value) (j:Nat) (sv:SV),SV.denL P ρ cs vs→(∀v,vs[j]? =some v→SV.den P ρ sv v)→SV.denL P ρ (cs.set j sv) vs
  |[],_,_,_,k,_=>by simpa using k
  |c::cs,vs,j,sv,k,h=>by
    simp only[SV.denL] at k
    obtain⟨v,r,rfl,k1,k2⟩:=k
    cases j with
    |zero=>simp only[List.set,SV.denL];exact⟨v,r,rfl,h v rfl,k2⟩
    |succ j=>simp only[List.set,SV.denL];exact⟨v,r,rfl,k1,jqW cs r j sv k2 (fun u hu=>h u (by simpa using hu))⟩
theorem jcc {σ:St} {s:Nat}:∀(l:List Nat),jeC σ s l=true→∀(k T:Nat) fz cs,k∈l→σ.obj k=some (.box T fz cs)→SV.refs.refsL s cs=false
  |[],_,_,_,_,_,hm,_=>by simp at hm
  |j::r,h,k,T,fz,cs,hm,hk=>by
    unfold jeC at h
    rcases jGS.1 hm with e|hm
    · subst e
      rw[hk] at h
      simp only at h
      split at h
      · cases h
      · assumption
    · split at h
      · split at h
        · cases h
        · exact jcc r h k T fz cs hm hk
      · exact jcc r h k T fz cs hm hk
theorem jl7 {n b j:Nat} {σ:St} {a:Act} {w:World} (h:Rel P B n σ a w):Rel P B n (jiH b j σ) a w:=by
  unfold jiH
  split
  case h_2=>exact h
  rename_i T fz cs hbx
  split
  case h_2=>exact h
  rename_i o hcell
  split
  case h_2=>exact h
  rename_i hne hbo hbs;generalize jai b j=s at*;have hne:o≠s:=jS hne;have hbo:b≠o:=jS hbo;have hbs:b≠s:=jS hbs
  split
  case h_2=>exact h
  rename_i fm kt vt l hobj hfr;simp only[jGT] at hfr;obtain⟨hfr,hlt⟩:=hfr;have hlt:=jG6 hlt;obtain⟨h1,h2,ρ,hS,hSl,hPin⟩:=h
  let ρ':Env:={H:=ρ.H,blk:=fun k=>if k=s then ρ.blk o else if k=o then none else ρ.blk k,len:=fun k=>if k=s then ρ.len o else ρ.len k}
  have hle:ρ.le ρ' [s]:=⟨fun _ _ h=>h,fun k p hk hp=>by
    have hk:k≠s:=(by simpa using hk);simp only[ρ',hk,if_false] at hp
    split at hp
    · cases hp
    · exact hp,fun k hk=>by simp[ρ',show k≠s by simpa using hk]⟩
  have hobj':∀k,({σ with ob:=(b,some (.box T fz (cs.set j (.mp s))))::(s,some (.map fm kt vt l))::(o,none)::σ.ob}:St).obj k=if k=b then some (.box T fz (cs.set j (.mp s))) else if k=s then some (.map fm kt vt l) else if k=o then none else σ.obj k:=by
    intro k;rw[wS,wS,wS]
  have hbox:∀k T fz cs,σ.obj k=some (.box T fz cs)→SV.refs.refsL s cs=false:=by
    intro k T fz cs hk;simp only[St.obj] at hk
    split at hk
    · rename_i y hy;subst hk;exact jcc _ hfr k T fz cs (jHs.2 ⟨_,zk _ _ _ hy,rfl⟩) (by simp only[St.obj,hy])
    · cases hk
  have obs1:∀k (y:Ob) p,σ.obj k=some y→j9 P ρ w k p y→k≠s→j9 P ρ' w k p y:=by
    intro k y p hk hs hks;exact jN hle (by simpa using hks) (fun T fz cs e r hr=>by simp at hr;subst hr;subst e;exact hbox k T fz cs hk) (fun _ _ _=>⟨rfl,rfl⟩) hs
  refine⟨h1,h2,ρ',⟨hS.os,hS.tape,hS.output,hS.drawn,hS.size,hS.good,hS.oldH,hS.old,?_,?_,?_,?_⟩,?_,?_⟩
  rotate_right
  · refine⟨fun k p hk hb=> ?_,hPin.2⟩;have hks:k≠s:=fun e=>by omega
    simp only[ρ',if_neg hks] at hb⊢
    split at hb
    · cases hb
    · exact hPin.1 k p hk hb
  · intro k y hk;have hk':=hobj' k;simp only[St.obj] at hk hk';rw[hk'] at hk;by_cases e0:k=b
    · subst e0;rw[if_pos rfl] at hk;simp at hk;subst hk;obtain⟨p,hp,hs⟩:=hS.obs k _ hbx;refine⟨p,by simp[ρ',hbs,hbo,hp],?_⟩;have hs':=obs1 k _ p hbx hs hbs;simp only[j9] at hs hs'⊢;obtain⟨b1,C1,vs,e1,e2,e3,e4,e5⟩:=hs';refine⟨b1,C1,vs,e1,e2,jqW _ _ _ _ e3 (fun v hv=> ?_),e4,e5⟩;obtain⟨b2,C2,vs2,f1,f2,f3,_⟩:=hs;have:vs2=vs:=by
        rw[e1] at f1;simp at f1;obtain⟨rfl,rfl⟩:=f1;rw[e2] at f2;simp at f2;exact f2.symm
      subst this;obtain⟨v',g1,g2⟩:=ju6 _ _ _ _ f3 hcell;rw[hv] at g1;simp at g1;subst g1;simp only[SV.den] at g2⊢;intro q hq;exact g2 q (by simpa[ρ'] using hq)
    · rw[if_neg e0] at hk;by_cases e:k=s
      · subst e;rw[if_pos rfl] at hk;simp at hk;subst hk;obtain⟨p,hp,hs⟩:=hS.obs o _ hobj;exact⟨p,by simp[ρ',hp],obs1 o _ p hobj hs hne⟩
      · rw[if_neg e] at hk;by_cases e':k=o
        · rw[if_pos e'] at hk;cases hk
        · rw[if_neg e'] at hk;obtain⟨p,hp,hs⟩:=hS.obs k y hk;exact⟨p,by simp[ρ',e,e',hp],obs1 k y p hk hs e⟩
  · intro k hk;have hk':=hobj' k;simp only[St.obj] at hk hk';rw[hk'] at hk;by_cases e0:k=b
    · rw[if_pos e0] at hk;cases hk
    rw[if_neg e0] at hk;by_cases e:k=s
    · rw[if_pos e] at hk;cases hk
    · rw[if_neg e] at hk;by_cases e':k=o
      · simp only[ρ'];rw[if_neg e,if_pos e']
      · rw[if_neg e'] at hk;simp only[ρ'];rw[if_neg e,if_neg e'];exact hS.dead k hk
  · intro k k' b C1 C2 hk hk';simp only[ρ'] at hk hk';by_cases e:k=s<;>by_cases e':k'=s
    · rw[e,e']
    · rw[if_pos e] at hk;rw[if_neg e'] at hk'
      split at hk'
      · cases hk'
      · rename_i e2;exact absurd (hS.inj _ _ _ _ _ hk hk').symm e2
    · rw[if_neg e] at hk;rw[if_pos e'] at hk'
      split at hk
      · cases hk
      · rename_i e2;exact absurd (hS.inj _ _ _ _ _ hk hk') e2
    · rw[if_neg e] at hk;rw[if_neg e'] at hk'
      split at hk
      · cases hk
      · split at hk'
        · cases hk'
        · exact hS.inj _ _ _ _ _ hk hk'
  · intro k b C1 hk;simp only[ρ'] at hk
    split at hk
    · exact hS.own _ _ _ hk
    · split at hk
      · cases hk
      · exact hS.own _ _ _ hk
  · intro k v hv;simp only at hv;rw[jk] at hv
    split at hv
    · rename_i y hy;simp at hv;subst hv;rw[vB _ _ _ _ _ hy];exact wg _
    · rename_i hnone;have hp:=kI _ _ _ k hnone (by rw[hv];simp);have hg:σ.get k=v:=(by unfold St.get;rw[hv]);rw[hg] at hp;exact SV.den_mono hle v _ (fun r hr=>by simp at hr;subst hr;exact jbX hp r (by simp)) (hSl k v hv)
theorem jl6 {n b j:Nat} {σ:St} {a:Act} {w:World} (h:Rel P B n σ a w):Rel P B n (jf5 b j σ) a w:=by
  unfold jf5
  split
  case h_2=>exact h
  rename_i T fz cs hbx
  split
  case h_2=>exact h
  rename_i o u hcell
  split
  case h_2=>exact h
  rename_i hne hbo hbs;generalize jbb b j=s at*;have hne:o≠s:=jS hne;have hbo:b≠o:=jS hbo;have hbs:b≠s:=jS hbs
  split
  case h_2=>exact h
  rename_i E t0 fr nl l hobj hfr;simp only[jGT] at hfr;obtain⟨hfr,hlt⟩:=hfr;have hlt:=jG6 hlt;obtain⟨h1,h2,ρ,hS,hSl,hPin⟩:=h
  let ρ':Env:={H:=ρ.H,blk:=fun k=>if k=s then ρ.blk o else if k=o then none else ρ.blk k,len:=fun k=>if k=s then ρ.len o else ρ.len k}
  have hle:ρ.le ρ' [s]:=⟨fun _ _ h=>h,fun k p hk hp=>by
    have hk:k≠s:=(by simpa using hk);simp only[ρ',hk,if_false] at hp
    split at hp
    · cases hp
    · exact hp,fun k hk=>by simp[ρ',show k≠s by simpa using hk]⟩
  have hobj':∀k,({σ with ob:=(b,some (.box T fz (cs.set j (.own s u))))::(s,some (.row E t0 fr nl l))::(o,none)::σ.ob}:St).obj k=if k=b then some (.box T fz (cs.set j (.own s u))) else if k=s then some (.row E t0 fr nl l) else if k=o then none else σ.obj k:=by
    intro k;rw[wS,wS,wS]
  have hbox:∀k T fz cs,σ.obj k=some (.box T fz cs)→SV.refs.refsL s cs=false:=by
    intro k T fz cs hk;simp only[St.obj] at hk
    split at hk
    · rename_i y hy;subst hk;exact jcc _ hfr k T fz cs (jHs.2 ⟨_,zk _ _ _ hy,rfl⟩) (by simp only[St.obj,hy])
    · cases hk
  have obs1:∀k (y:Ob) p,σ.obj k=some y→j9 P ρ w k p y→k≠s→j9 P ρ' w k p y:=by
    intro k y p hk hs hks;exact jN hle (by simpa using hks) (fun T fz cs e r hr=>by simp at hr;subst hr;subst e;exact hbox k T fz cs hk) (fun _ _ _=>⟨rfl,rfl⟩) hs
  refine⟨h1,h2,ρ',⟨hS.os,hS.tape,hS.output,hS.drawn,hS.size,hS.good,hS.oldH,hS.old,?_,?_,?_,?_⟩,?_,?_⟩
  rotate_right
  · refine⟨fun k p hk hb=> ?_,hPin.2⟩;have hks:k≠s:=fun e=>by omega
    simp only[ρ',if_neg hks] at hb⊢
    split at hb
    · cases hb
    · exact hPin.1 k p hk hb
  · intro k y hk;have hk':=hobj' k;simp only[St.obj] at hk hk';rw[hk'] at hk;by_cases e0:k=b
    · subst e0;rw[if_pos rfl] at hk;simp at hk;subst hk;obtain⟨p,hp,hs⟩:=hS.obs k _ hbx;refine⟨p,by simp[ρ',hbs,hbo,hp],?_⟩;have hs':=obs1 k _ p hbx hs hbs;simp only[j9] at hs hs'⊢;obtain⟨b1,C1,vs,e1,e2,e3,e4,e5⟩:=hs';refine⟨b1,C1,vs,e1,e2,jqW _ _ _ _ e3 (fun v hv=> ?_),e4,e5⟩;obtain⟨b2,C2,vs2,f1,f2,f3,_⟩:=hs;have:vs2=vs:=by
        rw[e1] at f1;simp at f1;obtain⟨rfl,rfl⟩:=f1;rw[e2] at f2;simp at f2;exact f2.symm
      subst this;obtain⟨v',g1,g2⟩:=ju6 _ _ _ _ f3 hcell;rw[hv] at g1;simp at g1;subst g1;simp only[SV.den] at g2⊢;intro q hq;have:=g2 q (by simpa[ρ'] using hq);simpa[ρ'] using this
    · rw[if_neg e0] at hk;by_cases e:k=s
      · subst e;rw[if_pos rfl] at hk;simp at hk;subst hk;obtain⟨p,hp,hs⟩:=hS.obs o _ hobj;have h3:=obs1 o _ p hobj hs hne;refine⟨p,by simp[ρ',hp],?_⟩;simp only[j9] at h3⊢;exact⟨by have:=h3.1;simpa[ρ',hne] using this,h3.2⟩
      · rw[if_neg e] at hk;by_cases e':k=o
        · rw[if_pos e'] at hk;cases hk
        · rw[if_neg e'] at hk;obtain⟨p,hp,hs⟩:=hS.obs k y hk;exact⟨p,by simp[ρ',e,e',hp],obs1 k y p hk hs e⟩
  · intro k hk;have hk':=hobj' k;simp only[St.obj] at hk hk';rw[hk'] at hk;by_cases e0:k=b
    · rw[if_pos e0] at hk;cases hk
    rw[if_neg e0] at hk;by_cases e:k=s
    · rw[if_pos e] at hk;cases hk
    · rw[if_neg e] at hk;by_cases e':k=o
      · simp only[ρ'];rw[if_neg e,if_pos e']
      · rw[if_neg e'] at hk;simp only[ρ'];rw[if_neg e,if_neg e'];exact hS.dead k hk
  · intro k k' b C1 C2 hk hk';simp only[ρ'] at hk hk';by_cases e:k=s<;>by_cases e':k'=s
    · rw[e,e']
    · rw[if_pos e] at hk;rw[if_neg e'] at hk'
      split at hk'
      · cases hk'
      · rename_i e2;exact absurd (hS.inj _ _ _ _ _ hk hk').symm e2
    · rw[if_neg e] at hk;rw[if_pos e'] at hk'
      split at hk
      · cases hk
      · rename_i e2;exact absurd (hS.inj _ _ _ _ _ hk hk') e2
    · rw[if_neg e] at hk;rw[if_neg e'] at hk'
      split at hk
      · cases hk
      · split at hk'
        · cases hk'
        · exact hS.inj _ _ _ _ _ hk hk'
  · intro k b C1 hk;simp only[ρ'] at hk
    split at hk
    · exact hS.own _ _ _ hk
    · split at hk
      · cases hk
      · exact hS.own _ _ _ hk
  · intro k v hv;simp only at hv;rw[jk] at hv
    split at hv
    · rename_i y hy;simp at hv;subst hv;rw[vB _ _ _ _ _ hy];exact wg _
    · rename_i hnone;have hp:=kI _ _ _ k hnone (by rw[hv];simp);have hg:σ.get k=v:=(by unfold St.get;rw[hv]);rw[hg] at hp;exact SV.den_mono hle v _ (fun r hr=>by simp at hr;subst hr;exact jbX hp r (by simp)) (hSl k v hv)
theorem jt1 {n:Nat} {σ:St} {a:Act} {w:World} (t:Nat) (h:Rel P B n σ a w):Rel P B n (jl3 σ t) a w:=by
  unfold jl3
  split
  · exact jl6 h
  · exact h
theorem jjF {n b:Nat}:∀(j:Nat) {σ:St} {a:Act} {w:World},Rel P B n σ a w→Rel P B n (jkL b j σ) a w
  |0,_,_,_,h=>h
  |j+1,_,_,_,h=>jl6 (jjF j h)
theorem jf7 {n:Nat} {σ:St} {a:Act} {w:World} (t:Nat) (h:Rel P B n σ a w):Rel P B n (jf6 σ t) a w:=by
  unfold jf6
  split
  · exact jjF _ (jl7 h)
  · exact jl7 h
  · exact h
theorem jt2 {n:Nat} {σ:St} {a:Act} {w:World} (c:Callee) (h:Rel P B n σ a w):Rel P B n (jl4 σ c) a w:=by
  unfold jl4
  split
  · exact jf7 _ h
  · exact h
theorem jt3 {n:Nat} {σ:St} {a:Act} {w:World} (l:List Operand) (h:Rel P B n σ a w):Rel P B n (jl5 σ l) a w:=by
  unfold jl5
  split
  · exact jf7 _ h
  · exact h
theorem zJ {n:Nat} {a:Act} {w:World}:∀(l:List Oper) {σ:St},Rel P B n σ a w→Rel P B n (w6 l σ) a w
  |[],_,h=>h
  |o::r,σ,h=>by
    simp only[w6]
    split
    · exact zJ r (jf7 _ (jwT h))
    · exact zJ r (jt2 _ (jt3 _ h))
    · exact zJ r (jt1 _ h)
    · exact zJ r h
end
end Go.X
namespace Go.X
open Go.RowKit (Below)
def eL {α:Type} (f:wh→List α) (D:Nat→Bool):List wh→Nat→List α
  |[],_=>[]
  |x::r,i=>eL f D r (i+1)++(match D i with|true=>f x|false=>[])
theorem jwj {α:Type} (f:wh→List α) (D:Nat→Bool):∀(aZ:List wh) (i:Nat),eL f D aZ (i+1)=eL f (fun k=>D (k+1)) aZ i
  |[],_=>rfl
  |_::r,i=>by simp only[eL];rw[jwj f D r (i+1)]
theorem jkU {α:Type} (f:wh→List α) {D D':Nat→Bool}:∀(aZ:List wh) (i:Nat),(∀k,i≤k→k<i+aZ.length→D k=D' k)→eL f D aZ i=eL f D' aZ i
  |[],_,_=>rfl
  |_::r,i,h=>by
    simp only[eL]
    rw[jkU f r (i+1) (fun k h1 h2=>h k (by omega) (by simp only[jHr];omega)),h i (jGU _) (by simp only[jHr];omega)]
theorem jaj {α:Type} (f:wh→List α) (D:Nat→Bool) (y:α):∀(aZ:List wh) (i:Nat),y∈eL f D aZ i↔∃k x,aZ[k]? =some x∧D (i+k)=true∧y∈f x
  |[],i=>by simp[eL]
  |x::r,i=>by
    simp only[eL,jG1]
    rw[jaj f D y r (i+1)]
    constructor
    · rintro(⟨k,x',h1,h2,h3⟩|h)
      · exact⟨k+1,x',by simpa using h1,by rw[←h2];congr 1;omega,h3⟩
      · cases hD:D i with
        |true=>rw[hD] at h;exact⟨0,x,by simp,by simpa using hD,h⟩
        |false=>rw[hD] at h;simp at h
    · rintro⟨k,x',h1,h2,h3⟩
      cases k with
      |zero=>simp at h1 h2;subst h1;right;rw[h2];exact h3
      |succ k=>left;exact⟨k,x',by simpa using h1,by rw[←h2];congr 1;omega,h3⟩
theorem vC {α:Type} (ks:List Nat):∀(l r:List (Nat×α)),keep ks (l++r)=keep ks l++keep ks r
  |[],r=>rfl
  | (k,x)::l,r=>by
    simp only[jHi,keep]
    cases jaH ks k<;>simp[vC ks l r]
theorem jmF {α:Type} {f:wh→List (Nat×α)} {D D':Nat→Bool} {ks:List Nat}:∀(aZ:List wh) (i:Nat),(∀k x,aZ[k]? =some x→D (i+k)≠D' (i+k)→keep ks (f x)=[])→keep ks (eL f D aZ i)=keep ks (eL f D' aZ i)
  |[],_,_=>rfl
  |x::r,i,h=>by
    simp only[eL,vC]
    rw[jmF r (i+1) (fun k y h1 h2=>h (k+1) y (by simpa using h1) (by rw[show i+(k+1)=i+1+k by omega];exact h2))]
    congr 1
    by_cases e:D i=D' i
    · rw[e]
    · have:=h 0 x (by simp) (by simpa using e)
      cases h1:D i<;>cases h2:D' i<;>simp_all [keep]
theorem jmw {α:Type} {f:wh→List (Nat×α)} {D D':Nat→Bool} {s:Nat}:∀(aZ:List wh) (i:Nat),(∀k x,aZ[k]? =some x→D (i+k)≠D' (i+k)→jF (f x) s=none)→jF (eL f D aZ i) s=jF (eL f D' aZ i) s
  |[],_,_=>rfl
  |x::r,i,h=>by
    simp only[eL]
    rw[jk,jk,jmw r (i+1) (fun k y h1 h2=>h (k+1) y (by simpa using h1) (by rw[show i+(k+1)=i+1+k by omega];exact h2))]
    by_cases e:D i=D' i
    · rw[e]
    · have:=h 0 x (by simp) (by simpa using e)
      cases h1:D i<;>cases h2:D' i<;>simp_all [jF]
theorem jgl {α:Type} {f:wh→List (Nat×α)} {D D':Nat→Bool} {s i:Nat} {x:wh} (hi:D i=false) (hi':D' i=true) (hD:∀k,k≠i→D' k=D k):
    ∀(aZ:List wh) (j m:Nat),j+m=i→aZ[m]? =some x→(∀k y,m<k→aZ[k]? =some y→D (j+k)=true→jF (f x) s≠none→jF (f y) s=none)→
      jF (eL f D' aZ j) s=jF (f x++eL f D aZ j) s
  |[],_,m,_,h,_=>by simp at h
  |y::r,j,0,hj,h,hk=>by
    simp at h hj
    subst h hj
    have e:eL f D' r (j+1)=eL f D r (j+1):=jkU f r (j+1) (fun k h1 _=>hD k (by omega))
    simp only[eL,hi,hi',e]
    rw[jk,jk,jk]
    by_cases hx:jF (f y) s=none
    · rw[hx];simp[jF]
    · have:jF (eL f D r (j+1)) s=none:=by
        have h0:=jmw (f:=f) (D:=D) (D':=fun _=>false) (s:=s) r (j+1) (fun k z h1 h2=>by
          have h3:D (j+1+k)=true:=by cases hh:D (j+1+k)<;>simp_all
          exact hk (k+1) z (by omega) (by simpa using h1) (by rw[show j+(k+1)=j+1+k by omega];exact h3) hx)
        rw[h0];have:∀(l:List wh) (n:Nat),eL f (fun _=>false) l n=[]:=by
          intro l
          induction l with
          |nil=>intro n;rfl
          |cons z l ih=>intro n;simp[eL,ih]
        rw[this];rfl
      rw[this];cases hy:jF (f y) s with
      |none=>exact absurd hy hx
      |some v=>simp[]
  |y::r,j,m+1,hj,h,hk=>by
    have ih:=jgl hi hi' hD r (j+1) m (by omega) (by simpa using h) (fun k z h1 h2 h3 h4=>hk (k+1) z (by omega) (by simpa using h2) (by rw[show j+(k+1)=j+1+k by omega];exact h3) h4);simp only[eL,hD j (by omega)];rw[jk,ih,jk,jk,jk];cases jF (f x) s<;>rfl
def bld (D:Nat→Bool) (aZ:List wh) (rs:RS):RS:=⟨⟨eL (·.e.sl) D aZ 0++rs.st.sl,eL (·.e.ob) D aZ 0++rs.st.ob⟩,eL (·.e.gl) D aZ 0++rs.gl⟩
theorem jqZ (D:Nat→Bool) (x:wh) (aZ:List wh) (rs:RS) (h:D 0=true):bld D (x::aZ) rs=bld (fun k=>D (k+1)) aZ (zp x.e rs):=by
  unfold bld zp;simp only[eL,h,jwj,jHc]
theorem jeK (aZ:List wh) (rs:RS) {D:Nat→Bool} (h:∀k,D k=false):bld D aZ rs=rs:=by
  have:∀{α:Type} (f:wh→List α) (l:List wh) (n:Nat),eL f D l n=[]:=by
    intro α f l
    induction l with
    |nil=>intro n;rfl
    |cons z l ih=>intro n;simp[eL,ih,h]
  simp[bld,this]
theorem jeb (D:Nat→Bool) (aZ:List wh) (rs:RS) (o:Nat):(bld D aZ rs).st.obj o=(match jF (eL (·.e.ob) D aZ 0) o with|some x=>x|none=>rs.st.obj o):=by
  simp only[St.obj,bld];rw[jk];cases jF (eL (fun x=>x.e.ob) D aZ 0) o<;>rfl
theorem wd:∀(l r:List Nat),jdP l r=false→∀k,k∈l→k∉r
  |[],r,_,k,hk=>by simp at hk
  |o::l,r,h,k,hk=>by
    simp only[jdP] at h
    split at h
    · cases h
    · rename_i hm
      rcases jGS.1 hk with rfl|hk
      · intro hr;rw[(kA r k).2 hr] at hm;cases hm
      · exact wd l r h k hk
structure jGt (σ:St) (nb:List Nat) (x y:wh) (r:Nat):Prop where
  mv:y.mv=true
  nb:r∉nb
  nn:r∉x.nn
  bf:jfk (σ.obj r)=false
theorem jiC {σ:St} {nb mk names:List Nat}:∀(l:List Nat),jyK σ nb mk names l=true→∀r,r∈l→r∈names→r∉nb∧r∉mk∧jfk (σ.obj r)=false
  |[],_,r,hr,_=>by simp at hr
  |z::l,h,r,hr,hn=>by
    simp only[jyK] at h
    split at h
    · rename_i hz
      rcases jGS.1 hr with rfl|hr
      · rw[(kA _ _).2 hn] at hz;cases hz
      · exact jiC l h r hr hn
    · split at h
      · rename_i h1 h2 h3
        rcases jGS.1 hr with rfl|hr
        · refine⟨fun hm=> ?_,fun hm=> ?_,h3⟩
          · rw[(kA _ _).2 hm] at h1;cases h1
          · rw[(kA _ _).2 hm] at h2;cases h2
        · exact jiC l h r hr hn
      · cases h
theorem jrA {σ:St} {nb:List Nat} {x y:wh} (h:jF2 σ nb x y=true) {r:Nat} (h1:r∈x.ws) (h2:r∈y.names):jGt σ nb x y r:=by
  unfold jF2 at h
  split at h
  · rename_i hm;obtain⟨a,b,c⟩:=jiC _ h r h1 h2;exact⟨hm,a,b,c⟩
  · cases h
theorem jjS {l r:List Nat} {s:Bool} (h:jv7 l r s=false):∀k,k∈l→k∈r→s=true:=by
  intro k hk hr;unfold jv7 at h;cases hm:jdP l r with
  |true=>
    rw[hm] at h;cases s with
    |true=>rfl
    |false=>cases h
  |false=>exact absurd hr (wd _ _ hm k hk)
structure NT (σ:St) (nb:List Nat) (x y:wh):Prop where
  sl:∀s,s∈ki x.e.sl→s∉ki y.e.sl
  s1:∀s,s∈ki x.e.sl→s∉y.slots
  s2:∀s,s∈ki y.e.sl→s∉x.slots
  ws:∀o,o∈x.ws→o∉y.ws
  o1:∀o,o∈x.ws→o∈y.names→jGt σ nb x y o
  o2:∀o,o∈y.ws→o∈x.names→jGt σ nb y x o
theorem NT.symm {σ:St} {nb:List Nat} {x y:wh} (h:NT σ nb x y):NT σ nb y x:=⟨fun s a b=>h.sl s b a,h.s2,h.s1,fun o a b=>h.ws o b a,h.o2,h.o1⟩
theorem jBq {σ:St} {nb:List Nat} {x y:wh} (h:jBr σ nb x y=false):NT σ nb x y:=by
  unfold jBr at h
  split at h
  · rename_i h1 h2 h3 h4 h5;have h1:=wd _ _ h1;exact⟨fun s hs hm=>h1 s hs (jGR _ hm),fun s hs hm=>h1 s hs (jGQ _ hm),wd _ _ h2,wd _ _ h3,
      fun o ho hm=>jrA (jjS h4 o ho hm) ho hm,fun o ho hm=>jrA (jjS h5 o ho hm) ho hm⟩
  · cases h
theorem jhv {σ:St} {nb:List Nat} (x:wh) (before:List Nat):∀(l:List wh) (j:Nat),jet σ nb x before l j=true→∀k y,l[k]? =some y→jBr σ nb y x=false∨j+k∈before
  |[],_,_,k,y,h=>by simp at h
  |z::r,j,h,k,y,hk=>by
    simp only[jet] at h
    have tail:jet σ nb x before r (j+1)=true:=by
      split at h
      · split at h
        · exact h
        · cases h
      · exact h
    cases k with
    |zero=>
      simp at hk;subst hk
      split at h
      · split at h
        · rename_i hm;exact .inr (by simpa using(kA _ _).1 hm)
        · cases h
      · rename_i ht;exact .inl ht
    |succ k=>
      rcases jhv x before r (j+1) tail k y (by simpa using hk) with h'|h'
      · exact .inl h'
      · exact .inr (by rw[show j+(k+1)=j+1+k by omega];exact h')
theorem jaf {σ:St} {nb:List Nat} (all:List wh):∀(l:List wh) (ps:List (List Nat)) (k:Nat),jdH σ nb all l ps k=true→∀m y,l[m]? =some y→∃p,ps[m]? =some p∧∀j x,j<k+m→all[j]? =some x→NT σ nb x y∨j∈p
  |[],_,_,_,m,y,h=>by simp at h
  |_::_,[],_,h,_,_,_=>by simp[jdH] at h
  |z::r,p::ps,k,h,m,y,hm=>by
    simp only[jdH] at h
    split at h
    · rename_i h1
      cases m with
      |zero=>
        simp at hm;subst hm
        refine⟨p,by simp,fun j x hj hx=> ?_⟩
        have:=jhv _ _ _ _ h1 j x (by rw[jHd (by omega)];exact hx)
        rcases this with h'|h'
        · exact .inl (jBq h')
        · exact .inr (by simpa using h')
      |succ m=>
        obtain⟨p',e1,e2⟩:=jaf all r ps (k+1) h m y (by simpa using hm)
        exact⟨p',by simpa using e1,fun j x hj hx=>e2 j x (by omega) hx⟩
    · cases h
theorem jdG (done:List (List Nat)):∀(es:List Edge) (l:List Nat),jiI done es=some l→
    (∀e,e∈es→Region.binds .any e=true→e.on<done.length)∧∀j,j∈l→∃e,e∈es∧Region.binds .any e=true∧(j=e.on∨∃p,done[e.on]? =some p∧j∈p)
  |[],l,h=>by
    simp[jiI] at h;subst h
    exact⟨fun e he=>by simp at he,fun j hj=>by simp at hj⟩
  |e::r,l,h=>by
    simp only[jiI] at h
    split at h
    · cases h
    rename_i l' hl'
    obtain⟨i1,i2⟩:=jdG done r l' hl'
    split at h
    · rename_i hb
      simp at h;subst h
      refine⟨fun e' he' hb'=> ?_,fun j hj=> ?_⟩
      · rcases jGS.1 he' with rfl|he'
        · rw[hb] at hb';cases hb'
        · exact i1 e' he' hb'
      · obtain⟨e',h1,h2,h3⟩:=i2 j hj
        exact⟨e',jGV _ h1,h2,h3⟩
    · rename_i hb
      split at h
      · rename_i p hp
        simp at h;subst h
        refine⟨fun e' he' hb'=> ?_,fun j hj=> ?_⟩
        · rcases jGS.1 he' with rfl|he'
          · exact(jGW.1 hp).1
          · exact i1 e' he' hb'
        · rcases(zP _ _ _).1 hj with hj|hj
          · exact⟨e,jHv,hb,.inr ⟨p,hp,hj⟩⟩
          · have:j=e.on∨j∈l':=by
              split at hj
              · exact .inr hj
              · rcases jGS.1 hj with h|h
                · exact .inl h
                · exact .inr h
            rcases this with rfl|hj
            · exact⟨e,jHv,hb,.inl rfl⟩
            · obtain⟨e',h1,h2,h3⟩:=i2 j hj;exact⟨e',jGV _ h1,h2,h3⟩
      · cases h
theorem yJ:∀(l:List Oper) (done ps:List (List Nat)),qg l done=some ps→
    (∃t,ps=done++t)∧∀m o,l[m]? =some o→∃p,ps[done.length+m]? =some p∧jiI (ps.take (done.length+m)) o.after.toList=some p
  |[],done,ps,h=>by
    simp[qg] at h;subst h
    exact⟨⟨[],by simp⟩,fun m o hm=>by simp at hm⟩
  |x::r,done,ps,h=>by
    simp only[qg] at h
    split at h
    · rename_i p hp
      obtain⟨⟨t,rfl⟩,i2⟩:=yJ r (done++[p]) ps h
      refine⟨⟨p::t,by simp⟩,fun m o hm=> ?_⟩
      cases m with
      |zero=>
        simp at hm;subst hm
        refine⟨p,by simp,?_⟩
        have:(done++[p]++t).take (done.length+0)=done:=by simp
        rw[this];exact hp
      |succ m=>
        have:=i2 m o (by simpa using hm)
        simp only[jHa,jHr,jHI] at this
        rw[show done.length+(m+1)=done.length+(0+1)+m by omega]
        exact this
    · cases h
end Go.X
namespace Go.X
open Go.RowKit (Below)
theorem jhG {α:Type} (ks:List Nat):∀(l:List (Nat×α)) (s:Nat) (v:α),jF (keep ks l) s=some v→jF l s=some v
  |[],s,v,h=>by simp[keep,jF] at h
  | (j,x)::r,s,v,h=>by
    simp only[keep] at h
    cases hm:jaH ks j with
    |true=>
      rw[hm] at h
      simp only[jF] at h⊢
      cases hb:Nat.beq j s with
      |true=>rw[hb] at h;exact h
      |false=>rw[hb] at h;exact jhG ks r s v h
    |false=>
      rw[hm] at h
      have h:=jhG ks r s v h
      simp only[jF]
      cases hb:Nat.beq j s with
      |true=>
        have:=jGP hb
        subst this
        have hk:∀(l:List (Nat×α)),jF (keep ks l) j=none:=by
          intro l
          induction l with
          |nil=>rfl
          |cons y l ih=>
            obtain⟨k,z⟩:=y;simp only[keep];cases hk:jaH ks k with
            |false=>exact ih
            |true=>
              simp only[jF];cases hb2:Nat.beq k j with
              |true=>have:=jGP hb2;subst this;rw[hm] at hk;cases hk
              |false=>exact ih
        rename_i h0;rw[hk r] at h0;cases h0
      |false=>exact h
theorem jkP {α:Type} (ks:List Nat):∀(l:List (Nat×α)) (y:Nat×α),y∈keep ks l→y∈l∧y.1∈ks
  |[],y,h=>by simp[keep] at h
  | (j,x)::r,y,h=>by
    simp only[keep] at h
    cases hm:jaH ks j with
    |true=>
      rw[hm] at h
      rcases jGS.1 h with rfl|h
      · exact⟨jHv,(kA _ _).1 hm⟩
      · have:=jkP ks r y h;exact⟨jGV _ this.1,this.2⟩
    |false=>
      rw[hm] at h
      have:=jkP ks r y h;exact⟨jGV _ this.1,this.2⟩
theorem jhL {α:Type} {ks:List Nat}:∀(l:List (Nat×α)),(∀y,y∈l→y.1∉ks)→keep ks l=[]
  |[],_=>rfl
  | (j,x)::r,h=>by
    simp only[keep]
    cases hm:jaH ks j with
    |true=>exact absurd ((kA _ _).1 hm) (h (j,x) jHv)
    |false=>exact jhL r (fun y hy=>h y (jGV _ hy))
theorem jkO {α:Type}:∀(l:List (Nat×α)) (k:Nat),k∈ki l↔∃x,(k,x)∈l
  |[],k=>by simp[ki]
  | (j,y)::r,k=>by
    simp only[ki,jGS,jkO r k]
    constructor
    · rintro(rfl|⟨x,hx⟩)
      · exact⟨y,.inl rfl⟩
      · exact⟨x,.inr hx⟩
    · rintro⟨x,h|h⟩
      · simp at h;exact .inl h.1
      · exact .inr ⟨x,h⟩
theorem jy {α:Type}:∀(l:List (Nat×α)) (k:Nat),k∉ki l→jF l k=none
  |[],k,_=>rfl
  | (j,y)::r,k,h=>by
    simp only[ki,jGS,not_or] at h
    rw[jw (fun e=>h.1 e.symm)]
    exact jy r k h.2
theorem jbf {α:Type} {l:List (Nat×α)} {k:Nat} (h:jF l k≠none):k∈ki l:=by
  by_cases hm:k∈ki l
  · exact hm
  · exact absurd (jy l k hm) h
theorem jqq:∀(l:List (Nat×SV)) (s:Nat) (v:SV) (r:Nat),(s,v)∈l→r∈v.rl→r∈jE1 l
  |[],_,_,_,h,_=>by simp at h
  | (j,x)::l,s,v,r,h,hr=>by
    simp only[jE1]
    rw[zP]
    rcases jGS.1 h with e|h
    · simp at e;obtain⟨_,rfl⟩:=e;exact .inl hr
    · exact .inr (jqq l s v r h hr)
theorem jqr:∀(l:List (Nat×(Nat×Bool)×SV)) (s:Nat) g (v:SV) (r:Nat),(s,g,v)∈l→r∈v.rl→r∈jE2 l
  |[],_,_,_,_,h,_=>by simp at h
  | (j,g',x)::l,s,g,v,r,h,hr=>by
    simp only[jE2]
    rw[zP]
    rcases jGS.1 h with e|h
    · simp at e;obtain⟨_,_,rfl⟩:=e;exact .inl hr
    · exact .inr (jqr l s g v r h hr)
theorem jmu:∀(l:List (Nat×Option Ob)) (o T:Nat) fz cs (r:Nat),(o,some (.box T fz cs))∈l→r∈SV.rl.rlL cs→r∈jtY l
  |[],_,_,_,_,_,h,_=>by simp at h
  | (j,y)::l,o,T,fz,cs,r,h,hr=>by
    rcases jGS.1 h with e|h
    · simp at e
      obtain⟨_,rfl⟩:=e
      simp only[jtY,jG1]
      exact .inl hr
    · have:=jmu l o T fz cs r h hr
      unfold jtY
      split
      · rename_i e;cases e
      · rename_i e;cases e;exact jGQ _ this
      · rename_i e;cases e;exact this
theorem jv5 (σ:St):∀(os:List Nat) (o T:Nat) fz cs (r:Nat),o∈os→σ.obj o=some (.box T fz cs)→r∈SV.rl.rlL cs→r∈jnw σ os
  |[],_,_,_,_,_,h,_,_=>by simp at h
  |k::os,o,T,fz,cs,r,h,ho,hr=>by
    rcases jGS.1 h with rfl|h
    · simp only[jnw,ho]
      rw[zP];exact .inl hr
    · have:=jv5 σ os o T fz cs r h ho hr
      simp only[jnw]
      split
      · rw[zP];exact .inr this
      · exact this
theorem joS {σ τ:St}:∀(os:List Nat),(∀o,o∈os→σ.obj o=τ.obj o)→jnw σ os=jnw τ os
  |[],_=>rfl
  |k::os,h=>by
    simp only[jnw,h k jHv,joS os (fun o ho=>h o (jGV _ ho))]
theorem jqo {σ:St}:∀(n:Nat) (os:List Nat) (o:Nat),o∈os→o∈jzM σ n os
  |0,_,_,h=>h
  |n+1,_,o,h=>jqo n _ o ((zP _ _ _).2 (.inr h))
theorem jo2 {σ τ:St}:∀(n:Nat) (os:List Nat),(∀o,o∈jzM τ n os→σ.obj o=τ.obj o)→jzM σ n os=jzM τ n os
  |0,_,_=>rfl
  |n+1,os,h=>by
    simp only[jzM] at h⊢
    have e:jnw σ os=jnw τ os:=joS os (fun o ho=>h o (jqo n _ o ((zP _ _ _).2 (.inr ho))))
    rw[e]
    exact jo2 n _ h
theorem jtV {slots:List Nat} {r s:RS} (h1:keep slots r.st.sl=keep slots s.st.sl) (h2:keep slots r.gl=keep slots s.gl) (h3:∀o,o∈(zH slots s).1→r.st.obj o=s.st.obj o):zH slots r=zH slots s:=by
  unfold zH at h3⊢;simp only at h3⊢;rw[h1,h2];have e:=jo2 (σ:=r.st) (τ:=s.st) 3 _ h3;rw[e];congr 3;exact List.map_congr_left fun o ho=>by rw[h3 o ho]
theorem jv9 (f:Nat→Option Ob):∀(os:List Nat) (o:Nat),jF (os.map fun k=>(k,f k)) o=if o∈os then some (f o) else none
  |[],o=>by simp[jF]
  |k::os,o=>by
    simp only[jHU,jF]
    cases hb:Nat.beq k o with
    |true=>have:=jGP hb;subst this;simp
    |false=>
      have hne:k≠o:=jS hb
      simp only[jv9 f os o,jGS]
      by_cases hm:o∈os
      · simp[hm]
      · have:¬(o=k∨o∈os):=by rintro(h|h);exact hne h.symm;exact hm h
        rw[if_neg hm,if_neg this]
section
variable {P:Program} {B:zF} {C:Ctx} {ops:Array Oper} {Q:Exit→Act→World→Prop}
theorem jhj (slots:List Nat) (rs:RS) (o:Nat):(zH slots rs).2.st.obj o=if o∈(zH slots rs).1 then rs.st.obj o else none:=by
  unfold zH;simp only[St.obj];rw[jv9]
  split<;>rename_i h<;>split at h<;>simp_all
theorem jrE {slots:List Nat} {rs:RS} {e:Eff} (hc:closed (zH slots rs).1 (zH slots rs).2 e=true):Fit P B rs (zH slots rs).2 e:=by
  unfold closed at hc
  split at hc
  case h_2=>cases hc
  rename_i c1 c2 c3 c4 c5;have c1:=vk _ _ c1;have c2:=vk _ _ c2;have c3:=vk _ _ c3;have c4:=vk _ _ c4;have c5:=vk _ _ c5;have hobj:=jhj slots rs;refine⟨fun s v h=>jhG slots _ s v h,fun x hx=>(jkP slots _ x hx).1,fun o x h=> ?_,fun ρ w hS hnw=> ?_⟩
  · rw[hobj] at h
    split at h
    · exact h
    · cases h
  · have eo:(zH slots rs).2.st.obj=jzo (zH slots rs).1 rs.st.obj:=funext fun o=>by rw[hobj];rfl
    refine⟨⟨w,ρ.H,j8 ρ (zH slots rs).1,fun _=>none,fun _=>0⟩,jiJ (zH slots rs).1 ρ,jkM _ _,by rw[eo];exact jwg hS _,fun ρ' w' hS' hle=> ?_⟩;have hpost:∀o,({(zH slots rs).2.st with ob:=e.ob++(zH slots rs).2.st.ob}:St).obj o=(match jF e.ob o with|some x=>x|none=>(zH slots rs).2.st.obj o):=by
      intro o;simp only[St.obj];rw[jk];cases jF e.ob o<;>rfl
    obtain⟨ρ'',q1,q2,q3⟩:=jsH (σ:=rs.st) hS (zH slots rs).1 e.nw (fun d hd=>(hnw d hd).2) hS' hle (fun o T fz cs ho r hr=>by
      rw[hpost] at ho;have hrl:=ja2 cs r hr
      split at ho
      · rename_i x hx;subst ho;exact jG1.1 (c4 r (jmu _ o T fz cs r (zk _ _ _ hx) hrl))
      · have hm:o∈(zH slots rs).1:=by
          rw[hobj] at ho
          split at ho
          · assumption
          · cases ho
        exact .inr (c1 r (jv5 _ _ o T fz cs r hm ho hrl)))
    refine⟨ρ'',?_,q2,fun v x hv=>q3 v x (fun r hr=> ?_)⟩
    · have:(zp e rs).st.obj=(fun o=>if o∈e.nw∨o∈(zH slots rs).1 then({(zH slots rs).2.st with ob:=e.ob++(zH slots rs).2.st.ob}:St).obj o else rs.st.obj o):=funext fun o=>by
        have e1:(zp e rs).st.obj o=(match jF e.ob o with|some x=>x|none=>rs.st.obj o):=by
          simp only[St.obj,zp];rw[jk];cases jF e.ob o<;>rfl
        rw[e1,hpost];cases hl:jF e.ob o with
        |some x=>
          have hk:=c5 o (jbf (by rw[hl];simp));rw[if_pos (jG1.1 hk)]
        |none=>
          simp only;rw[hobj];by_cases hm:o∈(zH slots rs).1
          · rw[if_pos (.inr hm),if_pos hm]
          · rw[if_neg hm];by_cases hn:o∈e.nw
            · rw[if_pos (.inl hn)];exact(hnw o hn).1
            · rw[if_neg (by rintro(h|h);exact hn h;exact hm h)]
      rw[this];exact q1
    · have hrl:=jt4 v r hr;rcases hv with⟨s,hs⟩|⟨s,g,hs⟩
      · exact jG1.1 (c2 r (jqq _ s v r hs hrl))
      · exact jG1.1 (c3 r (jqr _ s g v r hs hrl))
end
end Go.X
namespace Go.X
open Go.RowKit (Below)
section
variable {P:Program} {B:zF} {C:Ctx} {ops:Array Oper} {Q:Exit→Act→World→Prop}
structure ye (C:Ctx) (ops:List Oper) (aZ:List wh) (rs:RS) (i:Nat) (o:Oper) (x:wh):Prop where
  get:aZ[i]? =some x
  eff:jcU C ops o (zH (j7 ops o) (bld (fun k=>decide (k<i)) aZ rs)).2=some x.e
  fit:fits C ops o (bld (fun k=>decide (k<i)) aZ rs) x.e=true
  cl:closed (zH (j7 ops o) (bld (fun k=>decide (k<i)) aZ rs)).1 (zH (j7 ops o) (bld (fun k=>decide (k<i)) aZ rs)).2 x.e=true
  slots:x.slots=j7 ops o
  os:x.os=(zH (j7 ops o) (bld (fun k=>decide (k<i)) aZ rs)).1
  ws:x.ws=ki x.e.ob++x.nn
  mv:x.mv=jFz o
  nn:x.nn=jGl o x.e
theorem jbU {oa:List Oper}:∀(l:List Oper) (rs rsF:RS) (aZ:List wh),joQ C oa l rs=some (aZ,rsF)→
    aZ.length=l.length∧rsF=bld (fun _=>true) aZ rs∧∀i o,l[i]? =some o→∃x,ye C oa aZ rs i o x
  |[],rs,rsF,aZ,h=>by
    simp[joQ] at h
    obtain⟨rfl,rfl⟩:=h
    exact⟨rfl,rfl,fun i o h=>by simp at h⟩
  |o::r,rs,rsF,aZ,h=>by
    simp only[joQ] at h
    split at h
    · cases h
    rename_i e he
    split at h
    case h_2=>cases h
    rename_i hf hc
    split at h
    · cases h
    rename_i as' rs' hr
    simp only[Option.some.injEq,Prod.mk.injEq] at h
    obtain⟨rfl,rfl⟩:=h
    obtain⟨i1,i2,i3⟩:=jbU r _ _ _ hr
    refine⟨by simp[i1],by rw[jqZ _ _ _ _ rfl];exact i2,fun i o' hi=> ?_⟩
    cases i with
    |zero=>
      simp at hi;subst hi
      have e0:∀as',bld (fun k=>decide (k<0)) as' rs=rs:=fun as'=>jeK _ _ (fun k=>by simp)
      refine⟨_,by simp;rfl,?_,?_,?_,rfl,?_,rfl,rfl,rfl⟩
      · rw[e0];exact he
      · rw[e0];exact hf
      · rw[e0];exact hc
      · rw[e0]
    |succ i=>
      obtain⟨x,g1,g2,g3,g4,g5,g6,g7,g8,g9⟩:=i3 i o' (by simpa using hi)
      have es:∀y:wh,y.e=e→bld (fun k=>decide (k<i+1)) (y::as') rs=bld (fun k=>decide (k<i)) as' (zp e rs):=by
        intro y hy;rw[jqZ _ _ _ _ (by simp),hy];congr 1;funext k;simp
      refine⟨x,by simpa using g1,?_,?_,?_,g5,?_,g7,g8,g9⟩
      · rw[es _ rfl];exact g2
      · rw[es _ rfl];exact g3
      · rw[es _ rfl];exact g4
      · rw[es _ rfl];exact g6
theorem jbl {oa:List Oper} {o:Oper} {R:RS} {e:Eff} (h:jcU C oa o R=some e):(∃sv,e.sl=jrC o sv)∧∀s g v,(s,g,v)∈e.gl→o.dst=some s∧o.guard=some g:=by
  unfold jcU at h
  split at h
  · split at h
    · cases h
    · simp at h;subst h;exact⟨⟨_,rfl⟩,fun s g v hm=>by simp at hm⟩
  · rename_i g0 hg0
    split at h
    · cases h
    · split at h
      · cases h
      · split at h
        · simp at h;subst h;refine⟨⟨_,rfl⟩,fun s g v hm=> ?_⟩;simp only at hm
          split at hm
          · rename_i d hd;simp at hm;obtain⟨rfl,rfl,rfl⟩:=hm;exact⟨hd,hg0⟩
          · simp at hm
        · cases h
theorem jdS {o:Oper} {sv:SV} {s:Nat}:s∈ki (jrC o sv)↔o.dst=some s:=by
  unfold jrC
  split
  · rename_i d hd;rw[hd];simp[ki];exact eq_comm
  · rename_i hd;rw[hd];simp[ki]
theorem jof {l:List Oper} {j dj:Nat} {b:Bool} (h:jcV l j=some dj):dj∈jbk l l.length (some (j,b)):=by
  unfold jcV at h;cases hl:l[j]? with
  |none=>rw[hl] at h;cases h
  |some o=>
    rw[hl] at h;simp only at h;have:0<l.length:=(by have:=(jGW.1 hl).1;omega);obtain⟨n,hn⟩:∃n,l.length=n+1:=⟨l.length-1,by omega⟩;rw[hn];simp only[jbk,hl,h];exact jHv
section
variable {aZ:List wh} {rs:RS} {D:Nat→Bool} {i:Nat} {o:Oper} {x:wh} {nb:List Nat}
theorem jyO (hop:∀k y,aZ[k]? =some y→∃o',ops.toList[k]? =some o'∧ye C ops.toList aZ rs k o' y) (hx:ye C ops.toList aZ rs i o x)
    (hNT:∀k y,aZ[k]? =some y→D k≠decide (k<i)→NT rs.st nb x y) (hst:∀k y,aZ[k]? =some y→D k≠decide (k<i)→∀r,r∈y.ws→r∉x.names):
    zH (j7 ops.toList o) (bld D aZ rs)=zH (j7 ops.toList o) (bld (fun k=>decide (k<i)) aZ rs):=by
  have glk:∀(k:Nat) (y:wh),aZ[k]? =some y→∀z,z∈y.e.gl→z.1∈ki y.e.sl:=by
    intro k y hk z hz;obtain⟨_,_,hy'⟩:=hop k y hk;obtain⟨⟨sv,h1⟩,h2⟩:=jbl hy'.eff;obtain⟨s,g,v⟩:=z;rw[h1];exact jdS.2 (h2 s g v hz).1
  refine jtV ?_ ?_ ?_
  · simp only[bld,vC];congr 1;refine jmF aZ 0 (fun k y h1 h2=>jhL _ (fun z hz=> ?_));rw[←hx.slots];exact(hNT k y h1 (by simpa using h2)).s2 z.1 ((jkO _ _).2 ⟨z.2,hz⟩)
  · simp only[bld,vC];congr 1;refine jmF aZ 0 (fun k y h1 h2=>jhL _ (fun z hz=> ?_));rw[←hx.slots];exact(hNT k y h1 (by simpa using h2)).s2 z.1 (glk k y h1 z hz)
  · intro r hr;rw[←hx.os] at hr;rw[jeb,jeb];rw[jmw (D:=D) (D':=fun k=>decide (k<i)) aZ 0 (fun k y h1 h2=>jy _ _ (fun hk=> ?_))];obtain⟨_,_,hy'⟩:=hop k y h1;refine hst k y h1 (by simpa using h2) r ?_ ?_
    · rw[hy'.ws];exact jGR _ hk
    · unfold wh.names;simp[hr]
theorem jvf:∀(l:List wh) (r:Nat),r∉jcg l→∀y,y∈l→∀z,(r,z)∈y.e.ob→jfk z=false:=by
  have one:∀(l:List (Nat×Option Ob)) (r:Nat),r∉jmn l→∀z,(r,z)∈l→jfk z=false:=by
    intro l
    induction l with
    |nil=>intro r _ z h;simp at h
    |cons a l ih=>
      intro r h z hm;obtain⟨q,y⟩:=a;simp only[jmn] at h
      split at h
      · rcases jGS.1 hm with e|hm
        · simp at e;obtain⟨rfl,rfl⟩:=e;simp at h
        · exact ih r (fun hh=>h (by simp[hh])) z hm
      · rename_i hb;rcases jGS.1 hm with e|hm
        · simp at e;obtain⟨rfl,rfl⟩:=e;exact hb
        · exact ih r h z hm
  intro l
  induction l with
  |nil=>intro r _ y h;simp at h
  |cons a l ih=>
    intro r h y hy z hz;simp only[jcg,jG1,not_or] at h;rcases jGS.1 hy with rfl|hy
    · exact one _ r h.1 z hz
    · exact ih r h.2 y hy z hz
def EqB (σ τ:St) (o:Nat):Prop:=σ.obj o=τ.obj o∨(jfk (σ.obj o)=false∧jfk (τ.obj o)=false)
theorem jvP {σ:St} {o:Nat} {os:List Nat} (h:jfk (σ.obj o)=false):jnw σ (o::os)=jnw σ os:=by
  simp only[jnw]
  split
  · rename_i e;rw[e] at h;cases h
  · rfl
theorem jf3 {σ τ:St}:∀(os:List Nat),(∀o,o∈os→EqB σ τ o)→jnw σ os=jnw τ os
  |[],_=>rfl
  |k::os,h=>by
    have ih:=jf3 os (fun o ho=>h o (jGV _ ho))
    rcases h k jHv with e|⟨e1,e2⟩
    · simp only[jnw,e,ih]
    · rw[jvP e1,jvP e2,ih]
theorem jms {σ τ:St}:∀(n:Nat) (os:List Nat),(∀o,o∈jzM τ n os→EqB σ τ o)→jzM σ n os=jzM τ n os
  |0,_,_=>rfl
  |n+1,os,h=>by
    simp only[jzM] at h⊢
    have e:jnw σ os=jnw τ os:=jf3 os (fun o ho=>h o (jqo n _ o ((zP _ _ _).2 (.inr ho))))
    rw[e]
    exact jms n _ h
theorem jk4:∀(l:List (Nat×(Nat×Bool)×SV)),jbA l []=[]
  |[]=>rfl
  |z::l=>by simp only[jbA,jiZ];exact jk4 l
theorem jCs {oa:List Oper} {R R':RS} (h:jFz o=true) (hs:R.st.sl=R'.st.sl):jcU C oa o R=jcU C oa o R':=by
  unfold jFz at h
  split at h
  · rename_i z h1 h2;have e:jL (zt R []) z=jL (zt R' []) z:=by
      cases z with
      |tmp t=>simp only[jL,St.get,zt,jk4,jHh,hs]
      |const v=>rfl
      |global g=>rfl
      |func f=>rfl
    simp only[jcU,h2,jkl,h1,jB,Out.pure,e,q6]
  · cases h
theorem jFM (hop:∀k y,aZ[k]? =some y→∃o',ops.toList[k]? =some o'∧ye C ops.toList aZ rs k o' y) (hx:ye C ops.toList aZ rs i o x) (hnb:nb=jcg aZ)
    (hNT:∀k y,aZ[k]? =some y→D k≠decide (k<i)→NT rs.st nb x y):
    jcU C ops.toList o (zH (j7 ops.toList o) (bld D aZ rs)).2=some x.e∧closed (zH (j7 ops.toList o) (bld D aZ rs)).1 (zH (j7 ops.toList o) (bld D aZ rs)).2 x.e=true:=by
  by_cases hm:∃k y r,aZ[k]? =some y∧D k≠decide (k<i)∧r∈y.ws∧r∈x.names
  · obtain⟨k0,y0,r0,m1,m2,m3,m4⟩:=hm;have n3:=((hNT k0 y0 m1 m2).o2 r0 m3 m4).mv;rw[hx.mv] at n3;have glk:∀(k:Nat) (y:wh),aZ[k]? =some y→∀z,z∈y.e.gl→z.1∈ki y.e.sl:=by
      intro k y hk z hz;obtain⟨_,_,hy'⟩:=hop k y hk;obtain⟨⟨sv,h1⟩,h2⟩:=jbl hy'.eff;obtain⟨s,g,v⟩:=z;rw[h1];exact jdS.2 (h2 s g v hz).1
    have ksl:keep (j7 ops.toList o) (bld D aZ rs).st.sl=keep (j7 ops.toList o) (bld (fun k=>decide (k<i)) aZ rs).st.sl:=by
      simp only[bld,vC];congr 1;refine jmF aZ 0 (fun k y h1 h2=>jhL _ (fun z hz=> ?_));rw[←hx.slots];exact(hNT k y h1 (by simpa using h2)).s2 z.1 ((jkO _ _).2 ⟨z.2,hz⟩)
    have kgl:keep (j7 ops.toList o) (bld D aZ rs).gl=keep (j7 ops.toList o) (bld (fun k=>decide (k<i)) aZ rs).gl:=by
      simp only[bld,vC];congr 1;refine jmF aZ 0 (fun k y h1 h2=>jhL _ (fun z hz=> ?_));rw[←hx.slots];exact(hNT k y h1 (by simpa using h2)).s2 z.1 (glk k y h1 z hz)
    have eqb:∀r,r∈x.os→EqB (bld D aZ rs).st (bld (fun k=>decide (k<i)) aZ rs).st r:=by
      intro r hr;by_cases hk:∃k y,aZ[k]? =some y∧D k≠decide (k<i)∧r∈ki y.e.ob
      · obtain⟨k,y,h1,h2,h3⟩:=hk;obtain⟨_,_,hy'⟩:=hop k y h1;have hs:=(hNT k y h1 h2).o2 r (by rw[hy'.ws];exact jGR _ h3) (by unfold wh.names;simp[hr]);have nob:=jvf aZ r (by rw[←hnb];exact hs.nb);have fr:∀D':Nat→Bool,jfk ((bld D' aZ rs).st.obj r)=false:=by
          intro D';rw[jeb]
          split
          · rename_i z hz;obtain⟨k,y,h1,_,h3⟩:=(jaj _ _ _ _ _).1 (zk _ _ _ hz);exact nob y (jHP h1) z h3
          · exact hs.bf
        exact .inr ⟨fr _,fr _⟩
      · refine .inl ?_;rw[jeb,jeb];rw[jmw (D:=D) (D':=fun k=>decide (k<i)) aZ 0 (fun k y h1 h2=>jy _ _ (fun hk'=>hk ⟨k,y,h1,by simpa using h2,hk'⟩))]
    have hos:=hx.os;have n5:(zH (j7 ops.toList o) (bld D aZ rs)).1=x.os:=by
      rw[hos];unfold zH;simp only;rw[ksl,kgl];refine jms 3 _ (fun r hr=>eqb r ?_);rw[hos];unfold zH;exact hr
    refine⟨?_,?_⟩
    · rw[←hx.eff];exact jCs n3 (by unfold zH;exact ksl)
    · have hc:=hx.cl;rw[←hos] at hc;rw[n5];unfold closed at hc⊢
      split at hc
      case h_2=>cases hc
      rename_i c1 c2 c3 c4 c5;have c0:jnw (zH (j7 ops.toList o) (bld D aZ rs)).2.st x.os=jnw (zH (j7 ops.toList o) (bld (fun k=>decide (k<i)) aZ rs)).2.st x.os:=jf3 _ (fun r hr=>by
        unfold EqB;rw[jhj,jhj,n5,←hos,if_pos hr,if_pos hr];exact eqb r hr)
      rw[c0,c1,c2,c3,c4,c5]
  · have hst:∀k y,aZ[k]? =some y→D k≠decide (k<i)→∀r,r∈y.ws→r∉x.names:=fun k y h1 h2 r h3 h4=>hm ⟨k,y,r,h1,h2,h3,h4⟩
    rw[jyO hop hx hNT hst];exact⟨hx.eff,hx.cl⟩
theorem jC6 (hop:∀k y,aZ[k]? =some y→∃o',ops.toList[k]? =some o'∧ye C ops.toList aZ rs k o' y) (hx:ye C ops.toList aZ rs i o x) (hNT:∀k y,aZ[k]? =some y→D k≠decide (k<i)→NT rs.st nb x y) {d:Nat} (hdm:d∈x.nn)
    (h:jBd (bld (fun k=>decide (k<i)) aZ rs) d):jBd (bld D aZ rs) d:=by
  have fact:∀k y,aZ[k]? =some y→∃o',ye C ops.toList aZ rs k o' y:=by
    intro k y h1;obtain⟨_,_,hy'⟩:=hop k y h1;exact⟨_,hy'⟩
  have hd:d∈x.ws:=(by rw[hx.ws];exact jGQ _ hdm);have o1:∀{y:wh},NT rs.st nb x y→d∉y.names:=fun{y} h hn=>(h.o1 d hd hn).nn hdm
  have nore:∀{sv:SV},d∉sv.rl→sv.refs d=false:=fun{sv} hn=>by
    cases hc:sv.refs d with
    |false=>rfl
    |true=>exact absurd (jt4 sv d hc) hn
  refine⟨?_,?_,?_,?_,h.lt⟩
  · have h1:=h.obj;rw[jeb] at h1⊢;rw[jmw (D:=D) (D':=fun k=>decide (k<i)) aZ 0 (fun k y h1 h2=>jy _ _ (fun hk=> ?_))]
    · exact h1
    · obtain⟨o',hy⟩:=fact k y h1;exact(hNT k y h1 (by simpa using h2)).ws d hd (by rw[hy.ws];exact jGR _ hk)
  · intro s v hm;simp only[bld] at hm;rcases jG1.1 hm with hm|hm
    · obtain⟨k,y,h1,h2,h3⟩:=(jaj _ _ _ _ _).1 hm;simp only[jHX] at h2;by_cases hk:k<i
      · exact h.sl s v (by simp only[bld];exact jGR _ ((jaj _ _ _ _ _).2 ⟨k,y,h1,by simpa using hk,h3⟩))
      · refine nore fun hr=>o1 (hNT k y h1 (by rw[h2];simp[hk])) ?_
        unfold wh.names;exact jGR _ (jqq _ s v d h3 hr)
    · exact h.sl s v (by simp only[bld];exact jGQ _ hm)
  · intro s g v hm;simp only[bld] at hm;rcases jG1.1 hm with hm|hm
    · obtain⟨k,y,h1,h2,h3⟩:=(jaj _ _ _ _ _).1 hm;simp only[jHX] at h2;by_cases hk:k<i
      · exact h.gl s g v (by simp only[bld];exact jGR _ ((jaj _ _ _ _ _).2 ⟨k,y,h1,by simpa using hk,h3⟩))
      · refine nore fun hr=>o1 (hNT k y h1 (by rw[h2];simp[hk])) ?_
        unfold wh.names;exact jGQ _ (jGR _ (jqr _ s g v d h3 hr))
    · exact h.gl s g v (by simp only[bld];exact jGQ _ hm)
  · intro r T fz cs hm;simp only[bld] at hm;rcases jG1.1 hm with hm|hm
    · obtain⟨k,y,h1,h2,h3⟩:=(jaj _ _ _ _ _).1 hm;simp only[jHX] at h2;by_cases hk:k<i
      · exact h.ob r T fz cs (by simp only[bld];exact jGR _ ((jaj _ _ _ _ _).2 ⟨k,y,h1,by simpa using hk,h3⟩))
      · cases hc:SV.refs.refsL d cs with
        |false=>rfl
        |true=>
          refine absurd ?_ (o1 (hNT k y h1 (by rw[h2];simp[hk])));unfold wh.names;exact jGQ _ (jGQ _ (jGR _ (jmu _ r T fz cs d h3 (ja2 cs d hc))))
    · exact h.ob r T fz cs (by simp only[bld];exact jGQ _ hm)
theorem jDd (hop:∀k y,aZ[k]? =some y→∃o',ops.toList[k]? =some o'∧ye C ops.toList aZ rs k o' y) (hx:ye C ops.toList aZ rs i o x)
    (hNT:∀k y,aZ[k]? =some y→D k≠decide (k<i)→NT rs.st nb x y):jq8 C ops o (bld D aZ rs) x.e:=by
  have hf:=vG (ops:=ops) hx.fit;refine⟨hf.frame,fun d hd s j b v hm=> ?_,hf.guard,fun d hd=> ?_,fun hor=> ?_⟩
  · simp only[bld] at hm;rcases jG1.1 hm with hm|hm
    · obtain⟨k,y,h1,h2,h3⟩:=(jaj _ _ _ _ _).1 hm;simp only[jHX] at h2;by_cases hk:k<i
      · exact hf.gl d hd s j b v (by simp only[bld];exact jGR _ ((jaj _ _ _ _ _).2 ⟨k,y,h1,by simpa using hk,h3⟩))
      · have nt:=hNT k y h1 (by rw[h2];simp[hk]);obtain⟨_,_,hy'⟩:=hop k y h1;obtain⟨⟨sv,k1⟩,k2⟩:=jbl hy'.eff;obtain⟨k3,k4⟩:=k2 s (j,b) v h3;obtain⟨⟨sv',k5⟩,_⟩:=jbl hx.eff;have hdk:d∈ki x.e.sl:=(by rw[k5];exact jdS.2 hd);obtain⟨dj,k6,_⟩:=(vG (ops:=ops) hy'.fit).guard s k3 j b k4;refine⟨fun e=> ?_,dj,k6,fun e=> ?_⟩
        · subst e;exact nt.sl s hdk (by rw[k1];exact jdS.2 k3)
        · subst e;refine nt.s1 dj hdk ?_;rw[hy'.slots];unfold j7;rw[k4];exact jGQ _ (jof k6)
    · exact hf.gl d hd s j b v (by simp only[bld];exact jGQ _ hm)
  · exact jC6 hop hx hNT (by rw[hx.nn];exact jGR _ hd) (hf.nw d hd)
  · refine jC6 hop hx hNT ?_ (hf.dst hor);rw[hx.nn];refine jGQ _ ?_
    split
    · rename_i h1 h2;rcases hor with h|h
      · exact absurd h1 h
      · rw[h2] at h;cases h
    · exact jHv
end
theorem jhN {n:Nat} {r s:RS} {a:Act} {w:World} (h:Inv P B n ops r a w) (h1:∀k,jF s.st.sl k=jF r.st.sl k) (h2:∀k,s.st.obj k=r.st.obj k) (h3:∀y,y∈s.gl→y∈r.gl):Inv P B n ops s a w:=by
  obtain⟨hd,hn,ρ,hS,hSl,hG,hP⟩:=h;refine⟨hd,hn,ρ,by rw[show s.st.obj=r.st.obj from funext h2];exact hS,fun k v hv=>hSl k v (by rw[←h1];exact hv),fun k g v hm=>hG k g v (h3 _ hm),hP⟩
end
end Go.X
namespace Go.X
open Go.RowKit (Below)
theorem js4 {p q:Nat→Bool}:∀(l:List Nat) (x:Nat),x∈l→p x=true→q x=false→(∀y,q y=true→p y=true)→l.countP q<l.countP p
  |[],x,h,_,_,_=>by simp at h
  |y::l,x,h,hp,hq,hqp=>by
    have le:l.countP q≤l.countP p:=List.countP_mono_left fun z _ hz=>hqp z hz
    simp only[jIg]
    rcases jGS.1 h with rfl|h
    · simp[hp,hq];omega
    · have:=js4 l x h hp hq hqp
      have:(if q y=true then 1 else 0)≤(if p y=true then 1 else 0):=by
        cases hy:q y with
        |false=>simp
        |true=>simp[hqp y hy]
      omega
def cnt (n:Nat) (listed:Array Bool):Nat:=(List.range n).countP fun k=> !(listed.getD k false)
theorem jhX {listed:Array Bool} {i:Nat} (hi:i<listed.size) (k:Nat):(listed.setIfInBounds i true).getD k false=if k=i then true else listed.getD k false:=by
  simp only[jG0,jG7];by_cases e:k=i
  · subst e;simp[hi]
  · rw[if_neg (fun h=>e h.symm),if_neg e]
theorem jEz {n:Nat} {listed:Array Bool} {i:Nat} (hi:i<listed.size) (hn:i<n) (hu:listed.getD i false=false):cnt n (listed.setIfInBounds i true)<cnt n listed:=by
  refine js4 _ i (by simpa using hn) (by simp[hu]) (by rw[jhX hi];simp) (fun y hy=> ?_);rw[jhX hi] at hy
  split at hy
  · simp at hy
  · exact hy
def Clo (ops:Array Oper) (D:Nat→Bool):Prop:=∀k o,ops.toList[k]? =some o→D k=true→∀e,e∈o.after.toList→Region.binds .any e=true→D e.on=true
theorem jbY {ops:Array Oper} {ps:List (List Nat)} (hps:qg ops.toList []=some ps) {D:Nat→Bool} (hD:Clo ops D):∀(n k:Nat),k<n→∀o p,ops.toList[k]? =some o→
    (∀e,e∈o.after.toList→Region.binds .any e=true→D e.on=true)→ps[k]? =some p→∀j,j∈p→D j=true
  |0,k,h,_,_,_,_,_,_,_=>by omega
  |n+1,k,hk,o,p,ho,he,hp,j,hj=>by
    obtain⟨_,h2⟩:=yJ _ _ _ hps
    obtain⟨p',e1,e2⟩:=h2 k o ho
    simp only[jHI,jHX] at e1 e2
    rw[hp] at e1;simp at e1;subst e1
    obtain⟨h3,h4⟩:=jdG _ _ _ e2
    obtain⟨e,g1,g2,g3⟩:=h4 j hj
    rcases g3 with rfl|⟨q,g4,g5⟩
    · exact he e g1 g2
    · have hlt:e.on<k:=by have:=h3 e g1 g2;simp at this;omega
      have hlen:=(jGW.1 ho).1
      rw[jHd hlt] at g4
      have ho2:=jGY (l:=ops.toList) (i:=e.on) (by omega)
      exact jbY hps hD n e.on (by omega) _ q ho2 (fun e' h1 h2=>hD e.on _ ho2 (he e g1 g2) e' h1 h2) g4 j g5
theorem jbd {ops:Array Oper} {listed:Array Bool} (hs:listed.size=ops.size) {i:Nat}:i∈Region.ready .any ops listed↔∃o,ops.toList[i]? =some o∧listed.getD i false=false∧∀e,e∈o.after.toList→Region.binds .any e=true→listed.getD e.on false=true:=by
  unfold Region.ready;simp only[jHg,jG9,jGT,jHt,jHB];constructor
  · rintro⟨h1,h2,h3⟩;have ho:ops[i]? =some ops[i]:=jHe h1;rw[ho] at h3;simp only[Option.map_some,Option.getD_some,Array.all_eq_true_iff_forall_mem] at h3;refine⟨ops[i],ho,?_,fun e he hb=> ?_⟩
    · rw[jG0] at h2⊢;have:listed[i]? =some listed[i]:=jHe (by omega);rw[this] at h2⊢;simpa using h2
    · have:=h3 e (by simpa using he);simpa[hb] using this
  · rintro⟨o,h1,h2,h3⟩;have hlt:=(jGZ.1 h1).1;refine⟨hlt,?_,?_⟩
    · rw[jG0] at h2⊢;have:listed[i]? =some listed[i]:=jHe (by omega);rw[this] at h2⊢;simpa using h2
    · rw[h1];simp only[Option.map_some,Option.getD_some,Array.all_eq_true_iff_forall_mem];intro e he;cases hb:Region.binds .any e with
      |false=>simp
      |true=>simp[h3 e (by simpa using he) hb]
theorem jeM {ops:Array Oper} {ps:List (List Nat)} (hps:qg ops.toList []=some ps) {listed:Array Bool} (hs:listed.size=ops.size) (hr:Region.ready .any ops listed=[]):
    ∀n k,k<n→k<ops.size→listed.getD k false=true
  |0,k,h,_=>by omega
  |n+1,k,hk,hlt=>by
    cases hu:listed.getD k false with
    |true=>rfl
    |false=>
      have ho:ops.toList[k]? =some ops.toList[k]:=jGY (by simpa using hlt)
      obtain⟨_,h2⟩:=yJ _ _ _ hps
      obtain⟨p',e1,e2⟩:=h2 k _ ho
      obtain⟨h3,_⟩:=jdG _ _ _ e2
      have:k∈Region.ready .any ops listed:=(jbd hs).2 ⟨_,ho,hu,fun e he hb=>jeM hps hs hr n e.on (by have:=h3 e he hb;simp at this;omega) (by have:=h3 e he hb;simp at this;omega)⟩
      rw[hr] at this;simp at this
section
variable {P:Program} {B:zF} {C:Ctx} {ops:Array Oper} {Q:Exit→Act→World→Prop} {aZ:List wh} {rs:RS} {ps:List (List Nat)}
theorem jA3 (hC:C.ok P) (hall:∀k o',ops.toList[k]? =some o'→∃y,ye C ops.toList aZ rs k o' y) (hlen:aZ.length=ops.toList.length) (hps:qg ops.toList []=some ps) {nb:List Nat} (hnb:nb=jcg aZ) (hord:jdH rs.st nb aZ aZ ps 0=true)
    (hvc:∀y,y∈aZ→jDr y.e.guard y.e.vc) (hQ:∀a w,Inv P B C.n ops (bld (fun _=>true) aZ rs) a w→Q .normal a w):
    ∀(fuel:Nat) (listed:Array Bool) (a:Act) (w:World),listed.size=ops.size→cnt ops.size listed≤fuel→Clo ops (fun k=>listed.getD k false)→Inv P B C.n ops (bld (fun k=>listed.getD k false) aZ rs) a w→
      wpAny P .any ops Q fuel listed a w:=by
  have hf:∀k y,aZ[k]? =some y→∃o',ops.toList[k]? =some o'∧ye C ops.toList aZ rs k o' y:=by
    intro k y hk;have hlt:=(jGW.1 hk).1;have hlt2:k<ops.toList.length:=(by omega);obtain⟨y',hy'⟩:=hall k ops.toList[k] (jGY hlt2);have:=hy'.get;rw[hk] at this;simp at this;subst this;exact⟨_,jGY hlt2,hy'⟩
  have fin:∀(listed:Array Bool) (a:Act) (w:World),(∀k,k<ops.size→listed.getD k false=true)→Inv P B C.n ops (bld (fun k=>listed.getD k false) aZ rs) a w→Q .normal a w:=by
    intro listed a w hl hI;refine hQ a w ?_;have e:∀{α:Type} (f:wh→List α),eL f (fun k=>listed.getD k false) aZ 0=eL f (fun _=>true) aZ 0:=fun f=>jkU f aZ 0 (fun k _ hk=>hl k (by simp at hlen;omega))
    have:bld (fun k=>listed.getD k false) aZ rs=bld (fun _=>true) aZ rs:=(by unfold bld;rw[e,e,e]);rw[←this];exact hI
  intro fuel
  induction fuel with
  |zero=>
    intro listed a w hs hc _ hI;have hl:∀k,k<ops.size→listed.getD k false=true:=by
      intro k hk;cases hu:listed.getD k false with
      |true=>rfl
      |false=>
        have h0:cnt ops.size listed=0:=(by omega);have:=jIf.1 h0 k (by simpa using hk);simp[hu] at this
    refine⟨?_,fin listed a w hl hI⟩;rw[List.eq_nil_iff_forall_not_mem];intro i hi;obtain⟨o,h1,h2,_⟩:=(jbd hs).1 hi;have:=(jGW.1 h1).1;rw[hl i (by simpa using this)] at h2;cases h2
  |succ fuel ih=>
    intro listed a w hs hc hclo hI;refine⟨fun hr=>fin listed a w (fun k hk=>jeM hps hs hr (k+1) k (by omega) hk) hI,fun i hi=> ?_⟩;obtain⟨o,h1,h2,h3⟩:=(jbd hs).1 hi;have hlt:i<ops.size:=(by have:=(jGW.1 h1).1;simpa using this);obtain⟨x,hx⟩:=hall i o h1;have hspec:=jaf _ _ _ _ hord;have opOf:∀(k:Nat) (y:wh),aZ[k]? =some y→∃o',ops.toList[k]? =some o':=by
      intro k y hk;have:=(jGW.1 hk).1;exact⟨_,jGY (by omega)⟩
    have hNT:∀(k:Nat) (y:wh),aZ[k]? =some y→(fun k=>listed.getD k false) k≠decide (k<i)→NT rs.st nb x y:=by
      intro k y hk hne;simp only at hne;obtain⟨o',ho'⟩:=opOf k y hk;by_cases hki:k<i
      · have hu:listed.getD k false=false:=by cases hh:listed.getD k false<;>simp_all
        obtain⟨p,e1,e2⟩:=hspec i x hx.get;rcases e2 k y (by omega) hk with h|h
        · exact h.symm
        · have:=jbY hps hclo (i+1) i (by omega) o p h1 h3 e1 k h;rw[hu] at this;cases this
      · have hu:listed.getD k false=true:=by cases hh:listed.getD k false<;>simp_all
        have hne':k≠i:=fun e=>by subst e;rw[h2] at hu;cases hu
        obtain⟨p,e1,e2⟩:=hspec k y hk;rcases e2 i x (by omega) hx.get with h|h
        · exact h
        · have:=jbY hps hclo (k+1) k (by omega) o' p ho' (fun e he hb=>hclo k o' ho' hu e he hb) e1 i h;rw[h2] at this;cases this
    obtain⟨heff,hcl⟩:=jFM (D:=fun k=>listed.getD k false) hf hx hnb hNT;have hfit:=jDd (D:=fun k=>listed.getD k false) hf hx hNT;have hset:∀k,(listed.setIfInBounds i true).getD k false=if k=i then true else listed.getD k false:=jhX (by omega);have hclo':Clo ops (fun k=>(listed.setIfInBounds i true).getD k false):=by
      intro k o' ho' hk e he hb;simp only at hk⊢;rw[hset] at hk⊢
      split
      · rfl
      · by_cases e':k=i
        · subst e';rw[h1] at ho';simp at ho';subst ho';exact h3 e he hb
        · rw[if_neg e'] at hk;exact hclo k o' ho' hk e he hb
    have hstep:=yL (K:=wpAny P .any ops Q fuel (listed.setIfInBounds i true)) (Q:=Q) hC heff hfit (jrE hcl) hI (hvc x (jHP hx.get)) (fun a' w' hI' _=>by
      refine ih _ a' w' (by simpa using hs) (by have:=jEz (n:=ops.size) (by omega) hlt h2;omega) hclo' ?_;have ins:∀{α:Type} (f:wh→List (Nat×α)) (s:Nat),(∀(k:Nat) (y:wh),i<k→aZ[k]? =some y→listed.getD k false=true→jF (f x) s≠none→jF (f y) s=none)→
          jF (eL f (fun k=>(listed.setIfInBounds i true).getD k false) aZ 0) s=jF (f x++eL f (fun k=>listed.getD k false) aZ 0) s:=by
        intro α f s hh;refine jgl (i:=i) h2 (by show(listed.setIfInBounds i true).getD i false=true;rw[hset,if_pos rfl]) (fun k hk=>by show(listed.setIfInBounds i true).getD k false=_;rw[hset,if_neg hk]) aZ 0 i (by omega) hx.get (fun k y h4 h5 h6 h7=> ?_);exact hh k y h4 h5 (by simpa using h6) h7
      refine jhN hI' (fun s=> ?_) (fun r=> ?_) (fun y hy=> ?_)
      · simp only[bld,zp];rw[jk,ins (fun x=>x.e.sl) s (fun k y h4 h5 h6 h7=>jy _ _ (fun hk=>(hNT k y h5 (by show listed.getD k false≠_;rw[h6];simp;omega)).sl s (jbf h7) hk)),←jk,jHc]
      · have e1:(zp x.e (bld (fun k=>listed.getD k false) aZ rs)).st.obj r=(match jF (x.e.ob++eL (fun x=>x.e.ob) (fun k=>listed.getD k false) aZ 0) r with|some y=>y|none=>rs.st.obj r):=by
          simp only[St.obj,zp,bld];rw[←jHc,jk]
          all_goals (cases jF (x.e.ob++eL (fun x=>x.e.ob) (fun k=>listed.getD k false) aZ 0) r<;>rfl)
        have hins:=ins (fun x=>x.e.ob) r (fun k y h4 h5 h6 h7=>jy _ _ (fun hk=>by
          obtain⟨o',ho'⟩:=opOf k y h5;obtain⟨y',hy'⟩:=hall k o' ho';have:=hy'.get;rw[h5] at this;simp at this;subst this;exact(hNT k y h5 (by show listed.getD k false≠_;rw[h6];simp;omega)).ws r (by rw[hx.ws];exact jGR _ (jbf h7)) (by rw[hy'.ws];exact jGR _ hk)))
        rw[jeb,e1,hins]
        all_goals (cases jF (x.e.ob++eL (fun x=>x.e.ob) (fun k=>listed.getD k false) aZ 0) r<;>rfl)
      · simp only[bld,zp] at hy⊢;rcases jG1.1 hy with hy|hy
        · obtain⟨k,z,g1,g2,g3⟩:=(jaj _ _ _ _ _).1 hy;simp only[jHX] at g2;rw[hset] at g2;by_cases e:k=i
          · subst e;have:=hx.get;rw[g1] at this;simp at this;subst this;exact jGR _ g3
          · rw[if_neg e] at g2;exact jGQ _ (jGR _ ((jaj _ _ _ _ _).2 ⟨k,z,g1,by simpa using g2,g3⟩))
        · exact jGQ _ (jGQ _ hy))
    unfold wpOp;have hoi:ops[i]? =some o:=(by simpa using h1);rw[hoi];simp only
    split
    · rename_i hw;rw[if_pos hw] at hstep;exact .inl hstep
    · rename_i hw;rw[if_neg hw] at hstep;exact hstep
end
end Go.X
namespace Go.X
open Go.RowKit (Below)
section
variable {P:Program} {B:zF} {C:Ctx} {Q:Exit→Act→World→Prop}
theorem jhk {ρ:Env} {obj:Nat→Option Ob} {w:World} (h:Sat P B ρ obj w):Sat P B ρ obj {w with drawn:=w.drawn+1}:=
  ⟨h.os,h.tape,h.output,(by exact Nat.le_succ_of_le h.drawn),h.size,h.good,h.oldH,h.old,fun o x hx=>by
    obtain⟨p,h1,h2⟩:=h.obs o x hx
    exact⟨p,h1,jN (new:=[]) (Env.le.refl _ _) (by simp) (fun _ _ _ _ _ ho=>by simp at ho) (fun _ _ _=>⟨rfl,rfl⟩) h2⟩,h.dead,h.inj,h.own⟩
def jy9 (P:Program) (ops:Array Oper) (draw:Bool) (Q:Exit→Act→World→Prop) (a:Act) (w:World):Prop:=
  match draw with
  |false=>wpList P ops Q ops.toList a w
  |true=>wpAny P .any ops Q ops.size (Array.replicate ops.size false) a {w with drawn:=w.drawn+1}
theorem jDT (hm:P.follows .mixedOrders=true) {id:Nat} {ops:Array Oper} {draw:Bool} {a:Act} {w:World} (h:jy9 P ops draw Q a w):(Code.region id ops draw).wp P Q a w:=by
  cases draw with
  |false=>exact wp_region_list h
  |true=>exact wp_region_any hm h
theorem jrM (hC:C.ok P) {ops:Array Oper} {draw:Bool} {σ:St} {es:List Eff} {rs:RS} {k:Prop} {a:Act} {w:World}
    (h:ja1 C ops.toList draw σ=some (es,rs)) (hk:zV draw es k) (hR:Rel P B C.n σ a w) (hQ:k→∀a' w',Rel P B C.n rs.st a' w'→Q .normal a' w'):
    jy9 P ops draw Q a w:=by
  have hI:Inv P B C.n ops ⟨σ,[]⟩ a w:=by
    obtain⟨h1,h2,ρ,h3,h4,h5⟩:=hR;exact⟨h1,h2,ρ,h3,h4,(fun s g v hm=>by simp at hm),h5⟩
  have fin:∀{rs':RS} {a':Act} {w':World},Inv P B C.n ops rs' a' w'→Rel P B C.n rs'.st a' w':=fun⟨h1,h2,ρ,h3,h4,_,h5⟩=>⟨h1,h2,ρ,h3,h4,h5⟩
  cases draw with
  |false=>
    simp only[ja1] at h;exact wH hC _ _ _ _ _ _ h hk hI (fun hk' a' w' hI'=>hQ hk' a' w' (fin hI'))
  |true=>
    simp only[ja1] at h
    split at h
    case h_2=>cases h
    rename_i aZ rs' ps hr hp
    split at h
    case h_2=>cases h
    rename_i hord;simp at h;obtain⟨rfl,rfl⟩:=h;obtain⟨i1,i2,i3⟩:=jbU _ _ _ _ hr;obtain⟨hvc,hk'⟩:=jbF _ hk;show wpAny P .any ops Q ops.size (Array.replicate ops.size false) a {w with drawn:=w.drawn+1};have hI':Inv P B C.n ops ⟨σ,[]⟩ a {w with drawn:=w.drawn+1}:=by
      obtain⟨h1,h2,ρ,h3,h4,h5⟩:=hI;exact⟨h1,h2,ρ,jhk h3,h4,h5⟩
    refine jA3 hC i3 i1 hp rfl hord (fun y hy=>hvc y.e (List.mem_map_of_mem hy)) (fun a' w' hI2=>hQ hk' a' w' (fin (by rw[i2];exact hI2))) _ _ _ _ (by simp) ?_ ?_ ?_
    · unfold cnt;exact jG5 List.countP_le_length (by simp)
    · intro j o ho hj;simp only[jG0,jIc] at hj
      split at hj<;>simp at hj
    · rw[jeK aZ ⟨σ,[]⟩ (fun j=>by
        simp only[jG0,jIc]
        split<;>simp)]
      exact hI'
end
end Go.X
namespace Go.X
open Go.RowKit (Below)
structure jor (Bi B:zF):Prop where
  os:B.w.os=Bi.w.os
  tape:B.w.tape=Bi.w.tape
  output:B.w.output=Bi.w.output
  drawn:Bi.w.drawn≤B.w.drawn
  size:Bi.w.heap.size≤B.w.heap.size
  mono:∀b c,Bi.H b=some c→B.H b=some c
  old:∀b,b<Bi.w.heap.size→b∉Bi.bor→B.w.heap[b]? =Bi.w.heap[b]?∧B.H b=Bi.H b∧b∉B.bor
  own:∀b,b∈B.bor→Bi.w.heap.size≤b∨b∈Bi.bor
  blk0:B.blk0=Bi.blk0
  len0:B.len0=Bi.len0
def jBF (C:Ctx) (ops r:List Oper) (n:Nat) (rs:RS) (K:Ex→St→Prop):Prop:=
  match yz C ops r rs with
  |none=>False
  |some (ss,rs')=>zV false ss (K .normal (w6 ops (gc n rs'.st)))
theorem jh2 {C:Ctx} {σ:St} {fields:List (Nat×Nat)}:∀(l:List (Nat×Operand)) (cs:List SV),v7 C.inLit σ fields l cs=v7 C σ fields l cs
  |[],_=>rfl
  | (j,x)::r,cs=>by
    have ih:=fun cs=>jh2 (C:=C) (σ:=σ) (fields:=fields) r cs
    have e:C.inLit.info=C.info:=rfl
    simp only[v7,ih,e]
theorem jrt {C:Ctx} {σ:St}:∀n,jru C.inLit σ n=jru C σ n
  |0=>rfl
  |n+1=>by
    have ih:=jrt (C:=C) (σ:=σ) n
    have e:C.inLit.spec=C.spec:=rfl
    funext ps rs v
    simp only[jru,ih,e]
theorem jBt {C:Ctx} {σ:St}:jDE C.inLit σ=jDE C σ:=by
  funext ps rs v;unfold jDE;rw[jrt]
theorem jk1 {C:Ctx} {σ:St}:∀(ps:List Par) (vs:List SV),kV C.inLit σ ps vs=kV C σ ps vs
  |[],[]=>rfl
  |[],_::_=>rfl
  |p::ps,[]=>by cases p<;>rfl
  |p::ps,v::vs=>by
    have ih:=jk1 (C:=C) (σ:=σ) ps vs
    cases p<;>simp only[kV,ih,jBt]
theorem jxY {C:Ctx} {σ:St} {dst:Nat} (f:SV) (args:List SV):jpr C.inLit σ dst f args=jpr C σ dst f args:=by
  have e:C.inLit.spec=C.spec:=rfl;have e2:C.inLit.eff=C.eff:=rfl;unfold jpr;simp only[jk1,e,e2]
theorem jxG {C:Ctx} {σ:St} {dst:Nat}:∀{op:Op},jiX op=false→jpb op=false→jB C.inLit σ dst op=jB C σ dst op:=by
  intro op h1 h2;cases op<;>first|rfl|(simp[jiX] at h1;done)|skip
  case makeMap U r=>
    cases r with
    |none=>simp[jpb] at h2
    |some r=>rfl
  case build U parts=>
    have e:C.inLit.info=C.info:=rfl;simp only[jB,jh2,e]
  case slice U x lo hi mx=>cases mx<;>cases lo<;>cases hi<;>rfl
  case call c=>
    simp only[jB,jxY];rfl
theorem jAB {C:Ctx} {ops:List Oper} {o:Oper} {R:RS} (h1:jiX o.op=false) (h2:jpb o.op=false):jcU C.inLit ops o R=jcU C ops o R:=by
  have e:∀ch,jkl C.inLit ops o R ch=jkl C ops o R ch:=by
    intro ch;unfold jkl
    split
    · rfl
    · rfl
    · exact jxG h1 h2
  unfold jcU;simp only[e]
theorem jAr {C:Ctx} {ops:Array Oper} {o:Oper} {rs:RS} {e:Eff} (h:jq8 C.inLit ops o rs e):jq8 C ops o rs e:=⟨h.frame,h.gl,h.guard,h.nw,h.dst⟩
section
variable {P:Program}
theorem jor.refl (B:zF):jor B B:=⟨rfl,rfl,rfl,jGU _,jGU _,fun _ _ h=>h,fun _ _ h=>⟨rfl,rfl,h⟩,fun _ h=> .inr h,rfl,rfl⟩
theorem jdA {Bi B:zF} {ρ:Env} {obj:Nat→Option Ob} {w:World} (h:jor Bi B) (hS:Sat P B ρ obj w):Sat P Bi ρ obj w:=by
  obtain⟨c1,c2,c3,c3',c4,c5,c6,c7,c8,c9⟩:=h;refine⟨hS.os.trans c1,hS.tape.trans c2,hS.output.trans c3,jG5 c3' hS.drawn,jG5 c4 hS.size,hS.good,fun b h1 h2=> ?_,fun b h1 h2=> ?_,hS.obs,hS.dead,hS.inj,fun o b C hb=> ?_⟩
  · obtain⟨k1,k2,k3⟩:=c6 b h1 h2;exact(hS.oldH b (jHQ h1 c4) k3).trans k2
  · obtain⟨k1,k2,k3⟩:=c6 b h1 h2;exact(hS.old b (jHQ h1 c4) k3).trans k1
  · rcases hS.own o b C hb with h|h
    · exact .inl (jG5 c4 h)
    · exact c7 b h
theorem jjJ {Bi B:zF} {ρ:Env} (h:jor Bi B) (hp:Pin B ρ):Pin Bi ρ:=by
  refine⟨fun o p ho hb=> ?_,fun b c hb=>hp.2 b c (h.mono b c hb)⟩;have:=hp.1 o p ho hb;rw[h.blk0,h.len0] at this;exact this
theorem jeq {B:zF} {ρ:Env} {σ:St} {w w':World} {H':Imm} (hS:Sat P B ρ σ.obj w) (hg:jcY H' w') (hm:∀b c,ρ.H b=some c→H' b=some c)
    (hk:∀o b C,ρ.blk o=some (some (b,C))→w'.heap[b]? =w.heap[b]?∧H' b=ρ.H b):
    Sat P {B with w:=w',H:=H',bor:=j8 ρ (ki σ.ob)} {ρ with H:=H'} σ.obj w':=by
  have hle:ρ.le {ρ with H:=H'} []:=⟨hm,fun _ _ _ h=>h,fun _ _=>rfl⟩;refine⟨rfl,rfl,rfl,jGU _,jGU _,hg,fun _ _ _=>rfl,fun _ _ _=>rfl,?_,hS.dead,hS.inj,?_⟩
  · intro o x hx;obtain⟨p,hp,hs⟩:=hS.obs o x hx;refine⟨p,hp,jN hle (by simp) (fun _ _ _ _ o' ho'=>by simp at ho') (fun b C' hpb=> ?_) hs⟩;subst hpb;have:=hk o b C' hp;exact⟨this.2,this.1⟩
  · intro o b C' hp;refine .inr ((jX _).2 ⟨o,C',?_,hp⟩);refine Classical.byContradiction fun hno=> ?_
    have hn:σ.obj o=none:=by
      simp only[St.obj];rw[jy _ _ hno]
    have:=hS.dead o hn;rw[hp] at this;cases this
theorem jpp {Bi B:zF} {ρ:Env} {σ:St} {w w':World} (hch:jor Bi B) (hS:Sat P B ρ σ.obj w) (hPin:Pin B ρ) (e1:w'.os=w.os) (e2:w'.tape=w.tape) (e3:w'.output=w.output) (e4:w.drawn≤w'.drawn) (e5:w.heap.size≤w'.heap.size)
    (hg:jcY ρ.H w') (hk:∀b,b<Bi.w.heap.size→w'.heap[b]? =w.heap[b]?) (ho:∀o b C,ρ.blk o=some (some (b,C))→w'.heap[b]? =w.heap[b]?):
    jor Bi {B with w:=w',H:=ρ.H,bor:=j8 ρ (ki σ.ob)}∧Sat P {B with w:=w',H:=ρ.H,bor:=j8 ρ (ki σ.ob)} ρ σ.obj w'∧Pin {B with w:=w',H:=ρ.H,bor:=j8 ρ (ki σ.ob)} ρ:=by
  have hSi:=jdA hch hS;refine⟨⟨e1.trans hSi.os,e2.trans hSi.tape,e3.trans hSi.output,jG5 hSi.drawn e4,jG5 hSi.size e5,fun b c hb=>(jjJ hch hPin).2 b c hb,fun b h1 h2=>⟨?_,hSi.oldH b h1 h2,fun hm=> ?_⟩,fun b hb=> ?_,hch.blk0,hch.len0⟩,jeq hS hg (fun _ _ h=>h) (fun o b C h=>⟨ho o b C h,rfl⟩),⟨hPin.1,fun _ _ h=>h⟩⟩
  · exact(hk b h1).trans (hSi.old b h1 h2)
  · obtain⟨o,C,_,h⟩:=(jX _).1 hm;rcases hSi.own o b C h with h3|h3
    · omega
    · exact h2 h3
  · obtain⟨o,C,_,h⟩:=(jX _).1 hb;exact hSi.own o b C h
theorem jDO {B:zF} {ρ:Env} {obj:Nat→Option Ob} {w:World} (hS:Sat P B ρ obj w) {d b:Nat} (hd:obj d=none) (hn:kz obj d) (hnb:∀o C,ρ.blk o≠some (some (b,C))) (hown:B.w.heap.size≤b∨b∈B.bor) (x:Ob)
    (hx:∀ρ':Env,ρ'.H=ρ.H→j9 P ρ' w d (some (b,0)) x):∃ρ':Env,Sat P B ρ' (jij obj d (some x)) w∧ρ.le ρ' [d]∧ρ'.H=ρ.H∧ρ'.blk d=some (some (b,0))∧∀o,o≠d→ρ'.blk o=ρ.blk o:=by
  let ρ':Env:={H:=ρ.H,blk:=fun o=>if o=d then some (some (b,0)) else ρ.blk o,len:=ρ.len}
  have hle:ρ.le ρ' [d]:=⟨fun _ _ h=>h,fun o p ho hp=>by
    have ho:o≠d:=(by simpa using ho);simpa only[ρ',ho,if_false] using hp,fun _ _=>rfl⟩
  refine⟨ρ',⟨hS.os,hS.tape,hS.output,hS.drawn,hS.size,hS.good,hS.oldH,hS.old,fun o y hy=> ?_,fun o ho=> ?_,fun o o' b1 C C' h1 h2=> ?_,fun o b1 C h=> ?_⟩,hle,rfl,by simp[ρ'],fun o ho=>by simp[ρ',ho]⟩
  · unfold jij at hy
    split at hy
    · rename_i e;subst e;simp only[Option.some.injEq] at hy;subst hy;exact⟨_,by simp[ρ'],hx ρ' rfl⟩
    · rename_i ho;obtain⟨p,hp,hs⟩:=hS.obs o y hy;exact⟨p,by simp[ρ',ho,hp],jN hle (by simpa using ho) (fun T fz cs hcs o' ho'=>by simp at ho';subst ho';exact hn o T fz cs (by rw[hy,hcs])) (fun b C hb=>⟨rfl,rfl⟩) hs⟩
  · unfold jij at ho;simp only[ρ']
    split at ho
    · cases ho
    · rename_i h;rw[if_neg h];exact hS.dead o ho
  · simp only[ρ'] at h1 h2
    split at h1<;>split at h2
    · rename_i e1 e2;rw[e1,e2]
    · simp only[Option.some.injEq,Prod.mk.injEq] at h1;rw[←h1.1] at h2;exact absurd h2 (hnb o' C')
    · simp only[Option.some.injEq,Prod.mk.injEq] at h2;rw[←h2.1] at h1;exact absurd h1 (hnb o C)
    · exact hS.inj o o' b1 C C' h1 h2
  · simp only[ρ'] at h
    split at h
    · simp only[Option.some.injEq,Prod.mk.injEq] at h;rw[←h.1];exact hown
    · exact hS.own o b1 C h
def lvO (d:Nat):Option Nat→RS→RS
  |none,rs=>rs
  |some b,rs=>⟨⟨(d,.lit (.map (some b)))::rs.st.sl,rs.st.ob⟩,rs.gl⟩
variable {C:Ctx} {ops:Array Oper} {B:zF}
theorem jzK {rs:RS} {d:Nat} {q:Option Nat} {k:Nat} (h:jBd rs k):jBd (lvO d q rs) k:=by
  cases q with
  |none=>exact h
  |some b=>
    refine⟨h.obj,fun s v hm=> ?_,h.gl,h.ob,h.lt⟩;rcases jGS.1 hm with e|hm
    · injection e with _ e;subst e;rfl
    · exact h.sl s v hm
theorem jCo {o:Oper} {rs:RS} {e:Eff} {d:Nat} {q:Option Nat} (h:jq8 C ops o rs e):jq8 C ops o (lvO d q rs) e:=
  ⟨h.frame,fun k hk s j b v hm=>h.gl k hk s j b v (by cases q<;>exact hm),h.guard,fun k hk=>jzK (h.nw k hk),fun hor=>jzK (h.dst hor)⟩
theorem jFG {rs R:RS} {e:Eff} {d:Nat} {q:Option Nat} (h:Fit P B rs R e) (hd:jF R.st.sl d=none):Fit P B (lvO d q rs) R e:=by
  cases q with
  |none=>exact h
  |some b=>
    refine⟨fun s v hs=> ?_,h.gl,h.obj,fun ρ w hS hnw=>h.go ρ w hS hnw⟩;have hne:d≠s:=fun e=>by subst e;rw[hd] at hs;cases hs
    show jF ((d,_)::rs.st.sl) s=some v;rw[jw hne];exact h.sl s v hs
theorem jn7 {α:Type} {ks:List Nat} {l:List (Nat×α)} {s:Nat} (h:s∉ks):jF (keep ks l) s=none:=by
  refine jy _ _ fun hk=> ?_
  obtain⟨x,hx⟩:=(jkO _ _).1 hk;exact h (jkP ks l _ hx).2
theorem jEK {C':Ctx} {aZ:List wh} {rs:RS} {i:Nat} {o:Oper} {x:wh} {nb:List Nat} (hop:∀k y,aZ[k]? =some y→∃o',ops.toList[k]? =some o'∧ye C' ops.toList aZ rs k o' y) (hx:ye C' ops.toList aZ rs i o x)
    {D D':Nat→Bool} (hi:D i=false) (hi':D' i=true) (hD:∀k,k≠i→D' k=D k) (hNT:∀k y,aZ[k]? =some y→D k≠decide (k<i)→NT rs.st nb x y):
    (∀s,jF (bld D' aZ rs).st.sl s=jF (zp x.e (bld D aZ rs)).st.sl s)∧(∀r,(bld D' aZ rs).st.obj r=(zp x.e (bld D aZ rs)).st.obj r)∧(∀y,y∈(bld D' aZ rs).gl→y∈(zp x.e (bld D aZ rs)).gl):=by
  have ins:∀{α:Type} (f:wh→List (Nat×α)) (s:Nat),(∀(k:Nat) (y:wh),i<k→aZ[k]? =some y→D k=true→jF (f x) s≠none→jF (f y) s=none)→
      jF (eL f D' aZ 0) s=jF (f x++eL f D aZ 0) s:=by
    intro α f s hh;exact jgl (i:=i) hi hi' hD aZ 0 i (by omega) hx.get (fun k y h4 h5 h6 h7=>hh k y h4 h5 (by simpa using h6) h7)
  refine⟨fun s=> ?_,fun r=> ?_,fun y hy=> ?_⟩
  · simp only[bld,zp];rw[jk,ins (fun x=>x.e.sl) s (fun k y h4 h5 h6 h7=>jy _ _ (fun hk=>(hNT k y h5 (by rw[h6];simp;omega)).sl s (jbf h7) hk)),←jk,jHc]
  · have e1:(zp x.e (bld D aZ rs)).st.obj r=(match jF (x.e.ob++eL (fun x=>x.e.ob) D aZ 0) r with|some y=>y|none=>rs.st.obj r):=by
      simp only[St.obj,zp,bld];rw[←jHc,jk]
      all_goals (cases jF (x.e.ob++eL (fun x=>x.e.ob) D aZ 0) r<;>rfl)
    have hins:=ins (fun x=>x.e.ob) r (fun k y h4 h5 h6 h7=>jy _ _ (fun hk=>by
      obtain⟨_,_,hy'⟩:=hop k y h5;exact(hNT k y h5 (by rw[h6];simp;omega)).ws r (by rw[hx.ws];exact jGR _ (jbf h7)) (by rw[hy'.ws];exact jGR _ hk)))
    rw[jeb,e1,hins]
    all_goals (cases jF (x.e.ob++eL (fun x=>x.e.ob) D aZ 0) r<;>rfl)
  · simp only[bld,zp] at hy⊢;rcases jG1.1 hy with hy|hy
    · obtain⟨k,z,g1,g2,g3⟩:=(jaj _ _ _ _ _).1 hy;simp only[jHX] at g2;by_cases e:k=i
      · subst e;have:=hx.get;rw[g1] at this;simp at this;subst this;exact jGR _ g3
      · rw[hD k e] at g2;exact jGQ _ (jGR _ ((jaj _ _ _ _ _).2 ⟨k,z,g1,by simpa using g2,g3⟩))
    · exact jGQ _ (jGQ _ hy)
theorem jwS {U:Nat} {ti tk te:TI} (hC:C.ok P) (hmp:C.mapT U=some (ti,tk,te)) {H:Imm} {b:Nat} {es:Array MapEntry} {clock:Nat} {l:List (tk.ty.Data×te.ty.Data)} {w:World} (hw:w.heap[b]? =some (.map es clock))
    (hrd:jei H tk.ty te.ty es clock l) {o:Oper} {ev:Operand→Value} {m ix x:Operand} (hop:o.op= .insert U m ix x) (hm:ev m= .map (some b)) {k:tk.ty.Data} (hk:tk.ty.rv H (ev ix) k) (hnew:k∉l.map (·.1)):
    (execOp ev o).run P w= .ok .skip {w with heap:=w.heap.setIfInBounds b (.map (es.push {key:=ev ix,val:=ev x,born:=clock}) (clock+1))}:=by
  obtain⟨_,ok2,ok3,hund,hkq,hte⟩:=jbe hC hmp;obtain⟨q1,q2,q3⟩:=ok2.keyq hkq;have hg:(getObj b).run P w= .ok (.map es clock) w:=(by simp[getObj,Sem.run,hw]);have hset:∀y:Obj,(setObj b y).run P w= .ok () {w with heap:=w.heap.setIfInBounds b y}:=fun y=>by simp[setObj,Sem.run,hw]
  have c1:=q1 H (ev ix) k w false hk;have hlen:es.toList.length=l.length:=(by simpa using hrd.1);have hget:∀(i:Nat) (x:tk.ty.Data×te.ty.Data),l[i]? =some x→∃e:MapEntry,es.toList[i]? =some e∧tk.ty.rv H e.key x.1∧te.ty.rv H e.val x.2:=fun i x hx=>by simpa using hrd.2.2.2.2 i x hx
  have c2:=q2 H es.toList (jcD l) (ev ix) k w hk (jsp _ _ hlen hget);rcases v6 (H:=H) k es.toList l 0 hlen hget with⟨g1,g2,g3⟩|⟨j,e',x',g1,g2,g3,g4,g5,g6,g7,g8⟩
  · rw[g1] at c2;simp[execOp,hop,Instr.mapUpdate,run_underlying hund,hm,hg,c1,c2,hset]
  · refine absurd (jHs.2 ⟨x',jHP g4,g5⟩) hnew
theorem jhF {α:Type} {y:α}:∀(l:List (Option α)),y∈jhi l↔∃k:Nat,l[k]? =some (some y)
  |[]=>by simp[jhi]
  |none::r=>by
    simp only[jhi,jhF r]
    constructor
    · rintro⟨k,hk⟩;exact⟨k+1,by simpa using hk⟩
    · rintro⟨k,hk⟩
      cases k with
      |zero=>simp at hk
      |succ k=>exact⟨k,by simpa using hk⟩
  |some x::r=>by
    simp only[jhi,jGS,jhF r]
    constructor
    · rintro(rfl|⟨k,hk⟩)
      · exact⟨0,rfl⟩
      · exact⟨k+1,by simpa using hk⟩
    · rintro⟨k,hk⟩
      cases k with
      |zero=>simp at hk;exact .inl hk.symm
      |succ k=>exact .inr ⟨k,by simpa using hk⟩
theorem jpW {α β:Type}:∀(l:List (Option (α×β))),((jhi l).map (·.1)).Nodup→∀(i j:Nat) (x y:α×β),l[i]? =some (some x)→l[j]? =some (some y)→i≠j→x.1≠y.1
  |[],_,i,_,_,_,h,_,_=>by simp at h
  |none::r,hn,i,j,x,y,hi,hj,hne=>by
    cases i with
    |zero=>simp at hi
    |succ i=>
      cases j with
      |zero=>simp at hj
      |succ j=>exact jpW r hn i j x y (by simpa using hi) (by simpa using hj) (by omega)
  |some z::r,hn,i,j,x,y,hi,hj,hne=>by
    simp only[jhi,jHU,jHJ] at hn
    have inr:∀(k:Nat) (u:α×β),r[k]? =some (some u)→u.1∈(jhi r).map (·.1):=fun k u hu=>jHs.2 ⟨u,(jhF r).2 ⟨k,hu⟩,rfl⟩
    cases i with
    |zero=>
      cases j with
      |zero=>exact absurd rfl hne
      |succ j=>
        simp at hi;subst hi
        intro e
        exact hn.1 (e▸inr j y (by simpa using hj))
    |succ i=>
      cases j with
      |zero=>
        simp at hj;subst hj
        intro e
        exact hn.1 (e▸inr i x (by simpa using hi))
      |succ j=>exact jpW r hn.2 i j x y (by simpa using hi) (by simpa using hj) (by omega)
structure jGc (B B':zF) (kt vt:Ty) (ents:List (Option (kt.Data×vt.Data))) (D:Nat→Bool) (b:Nat) (l:List (kt.Data×vt.Data)) (es:Array MapEntry) (clock:Nat):Prop where
  d0:D 0=true
  ge:B.w.heap.size≤b
  lt:b<B'.w.heap.size
  nb:b∉B'.bor
  nH:B'.H b=none
  at_:B'.w.heap[b]? =some (.map es clock)
  rd:jei B'.H kt vt es clock l
  nd:(l.map (·.1)).Nodup
  mem:∀y,y∈l↔∃k:Nat,D k=true∧ents[k]? =some (some y)
def jGv (P:Program) (B:zF) (n:Nat) (ops:Array Oper) (d:Nat) (kt vt:Ty) (ents:List (Option (kt.Data×vt.Data))) (aZ:List wh) (rs:RS) (D:Nat→Bool) (a:Act) (w:World):Prop:=
  ∃B' q,jor B B'∧Inv P B' n ops (lvO d q (bld D aZ rs)) a w∧match q with
    |none=>D 0=false
    |some b=>∃l es clock,jGc B B' kt vt ents D b l es clock
theorem jkK:∀(n k:Nat),k∈jDC n↔k<n
  |0,k=>by simp[jDC]
  |n+1,k=>by simp only[jDC,jGS,jkK n k];omega
theorem jph (p:List Nat):∀n,jwf p n=true→∀j,j<n→j∈p
  |0,_,j,h=>by omega
  |n+1,h,j,hj=>by
    simp only[jwf] at h
    split at h
    · rename_i hm
      by_cases e:j=n
      · subst e;exact(kA _ _).1 hm
      · exact jph p n h j (by omega)
    · cases h
theorem jlN:∀(ps:List (List Nat)) (k m:Nat),jlO ps k m=true→∀(i:Nat) (p:List Nat),ps[i]? =some p→m≤k+i→∀j,j<m→j∈p
  |[],_,_,_,i,_,h,_=>by simp at h
  |q::ps,k,m,h,i,p,hi,hm=>by
    have tl:jlO ps (k+1) m=true:=by
      simp only[jlO] at h
      split at h
      · split at h
        · exact h
        · cases h
      · exact h
    cases i with
    |zero=>
      simp at hi;subst hi;simp only[jlO] at h;have:Nat.ble m k=true:=Nat.ble_eq_true_of_le (by omega);rw[this] at h;simp only at h
      split at h
      · rename_i ha;exact jph _ _ ha
      · cases h
    |succ i=>exact jlN ps (k+1) m tl i p (by simpa using hi) (by omega)
theorem jpv {d:Nat}:∀(l:List Oper) (aZ:List wh),aside d l aZ=true→∀(k:Nat) (o:Oper) (x:wh),l[k]? =some o→aZ[k]? =some x→jiX o.op=false→jpb o.op=false∧d∉x.slots∧d∉ki x.e.sl
  |[],_,_,k,_,_,h,_,_=>by simp at h
  |_::_,[],h,_,_,_,_,_,_=>by simp[aside] at h
  |o::r,x::aZ,h,k,o',x',hk,hx,hi=>by
    simp only[aside] at h
    cases k with
    |zero=>
      simp at hk hx;subst hk hx
      rw[hi] at h
      simp only at h
      split at h
      · rename_i h1 h2 h3
        refine⟨h1,?_,?_⟩
        · intro hm;rw[(kA _ _).2 hm] at h2;cases h2
        · intro hm;rw[(kA _ _).2 hm] at h3;cases h3
      · cases h
    |succ k=>
      have tl:aside d r aZ=true:=by
        split at h
        · exact h
        · split at h
          · exact h
          · cases h
      exact jpv r aZ tl k o' x' (by simpa using hk) (by simpa using hx) hi
theorem jm4 {oa:List Oper} {d U:Nat} {kt vt:Ty}:∀(l:List Oper) (aZ:List wh) (rs:RS) (ents:List (Option (kt.Data×vt.Data))),jm5 oa d U kt vt l aZ rs=some ents→
    ents.length=l.length∧∀(k:Nat) (o:Oper),l[k]? =some o→∃y,ents[k]? =some y∧jqT d U kt vt o (zH (j7 oa o) (bld (fun j=>decide (j<k)) aZ rs)).2.st=some y
  |[],[],rs,ents,h=>by simp[jm5] at h;subst h;exact⟨rfl,fun k o h=>by simp at h⟩
  |[],_::_,_,_,h=>by simp[jm5] at h
  |_::_,[],_,_,h=>by simp[jm5] at h
  |o::r,x::aZ,rs,ents,h=>by
    simp only[jm5] at h
    split at h
    case h_2=>cases h
    rename_i y l h1 h2
    simp at h;subst h
    obtain⟨i1,i2⟩:=jm4 r aZ _ _ h2
    refine⟨by simp[i1],fun k o' hk=> ?_⟩
    cases k with
    |zero=>
      simp at hk;subst hk
      refine⟨y,rfl,?_⟩
      rw[jeK (x::aZ) rs (fun k=>by simp)]
      exact h1
    |succ k=>
      obtain⟨y',g1,g2⟩:=i2 k o' (by simpa using hk)
      refine⟨y',by simpa using g1,?_⟩
      rw[jqZ _ _ _ _ (by simp)]
      have:(fun j=>decide (j+1<k+1))=fun j=>decide (j<k):=by funext j;simp
      rw[this]
      exact g2
theorem jpl {d U:Nat} {kt vt:Ty} {o:Oper} {σ:St} {y:kt.Data×vt.Data} (h:jqT d U kt vt o σ=some (some y)):
    ∃ix x,o.op= .insert U (.tmp d) ix x∧o.dst=none∧o.guard=none∧jxc d ix=true∧jxc d x=true∧qH σ kt (jL σ ix)=some (y.1,[])∧qH σ vt (jL σ x)=some (y.2,[]):=by
  unfold jqT at h
  split at h
  · rename_i U' m ix x hop
    split at h
    · rename_i d' k v e1 e2 e3 e4 e5 e6 e7 e8
      split at h
      · rename_i e9;simp at h;subst h;have:=jGP e9;subst this;have:=jGP e4;subst this;refine⟨ix,x,?_,e2,e3,e7,e8,e5,e6⟩;cases m with
        |tmp t=>simp[jqu] at e1;subst e1;exact hop
        |const v=>simp[jqu] at e1
        |global g=>simp[jqu] at e1
        |func f=>simp[jqu] at e1
      · cases h
    · cases h
  · simp at h
theorem jAA {d U:Nat} {kt vt:Ty} {o:Oper} {σ:St} {y:Option (kt.Data×vt.Data)} (h:jqT d U kt vt o σ=some y) (hi:jiX o.op=true):∃z,y=some z:=by
  unfold jqT at h
  split at h
  · split at h
    · split at h
      · simp at h;subst h;exact⟨_,rfl⟩
      · cases h
    · cases h
  · rename_i hop;exfalso;cases ho:o.op<;>rw[ho] at hi<;>simp[jiX] at hi
    exact hop _ _ _ _ ho
theorem ju0 {d U:Nat} {kt vt:Ty} {o:Oper} {σ:St} {y:Option (kt.Data×vt.Data)} (h:jqT d U kt vt o σ=some y) (hi:jiX o.op=false):y=none:=by
  unfold jqT at h
  split at h
  · rename_i hop;rw[hop] at hi;simp[jiX] at hi
  · simp at h;exact h.symm
theorem jDi {ρ:Env} {d:Nat} {q:Option Nat} {rs:RS} {a:Act} {slots:List Nat} {x:Operand} (hSl:jih P ρ (lvO d q rs).st.sl a) (hx:jxc d x=true):SV.den P ρ (jL (zH slots rs).2.st x) (a.eval x):=by
  cases x with
  |tmp t=>
    have hne:d≠t:=by
      intro e;subst e;simp only[jxc] at hx
      split at hx
      · cases hx
      · rename_i hb;exact absurd (Nat.beq_refl d) (by rw[hb];simp)
    simp only[jL,St.get]
    split
    · rename_i v hv;have h1:=jhG slots _ t v hv;refine hSl t v ?_;cases q with
      |none=>exact h1
      |some b=>show jF ((d,_)::rs.st.sl) t=some v;rw[jw hne];exact h1
    · exact wg _
  |const v=>exact jK (σ:=⟨[],[]⟩) (fun s sv h=>by simp[jF] at h) (.const v)
  |global g=>exact jK (σ:=⟨[],[]⟩) (fun s sv h=>by simp[jF] at h) (.global g)
  |func f=>exact jK (σ:=⟨[],[]⟩) (fun s sv h=>by simp[jF] at h) (.func f)
end
end Go.X
namespace Go.X
open Go.RowKit (Below)
section
variable {P:Program} {B:zF} {C:Ctx} {ops:Array Oper} {Q:Exit→Act→World→Prop} {aZ:List wh} {rs:RS} {ps:List (List Nat)}
structure jyd (P:Program) (C:Ctx) (ops:Array Oper) (aZ:List wh) (rs:RS) (ps:List (List Nat)) (body:List Oper) (m d U:Nat) (tk te:TI) (ents:List (Option (tk.ty.Data×te.ty.Data))):Prop where
  ok:C.ok P
  mp:∃ti,C.mapT U=some (ti,tk,te)
  bd:∀(k:Nat) (o:Oper),body[k]? =some o→ops.toList[k]? =some o
  sz:ops.size=body.length+m
  o0:∃o,body[0]? =some o∧o.op= .makeMap U none∧o.dst=some d∧o.guard=none
  pre:qg ops.toList []=some ps
  tl:∀(k:Nat) (p:List Nat),body.length≤k→ps[k]? =some p→∀j,j<body.length→j∈p
  all:∀(k:Nat) (o:Oper),body[k]? =some o→∃y,ye C.inLit ops.toList aZ rs k o y
  len:aZ.length=body.length
  ord:jdH rs.st (jcg aZ) aZ aZ ps 0=true
  ent:∀(k:Nat) (o:Oper),body[k]? =some o→∃y,ents[k]? =some y∧jqT d U tk.ty te.ty o (zH (j7 ops.toList o) (bld (fun j=>decide (j<k)) aZ rs)).2.st=some y
  elen:ents.length=body.length
  aside:∀(k:Nat) (o:Oper) (x:wh),0<k→body[k]? =some o→aZ[k]? =some x→jiX o.op=false→jpb o.op=false∧d∉x.slots∧d∉ki x.e.sl
  nd:((jhi ents).map (·.1)).Nodup
  new:juu (bld (fun _=>true) aZ rs) d=true
  vc:∀y,y∈aZ→jDr y.e.guard y.e.vc
variable {body:List Oper} {m d U:Nat} {tk te:TI} {ents:List (Option (tk.ty.Data×te.ty.Data))}
theorem jyd.fact (h:jyd P C ops aZ rs ps body m d U tk te ents):∀k y,aZ[k]? =some y→∃o',ops.toList[k]? =some o'∧body[k]? =some o'∧ye C.inLit ops.toList aZ rs k o' y:=by
  intro k y hk;have hlt:=(jGW.1 hk).1;have hlt2:k<body.length:=(by have:=h.len;omega);have hb:body[k]? =some body[k]:=jGY hlt2;obtain⟨y',hy'⟩:=h.all k _ hb;have:=hy'.get;rw[hk] at this;simp at this;subst this;exact⟨_,h.bd k _ hb,hb,hy'⟩
theorem jyd.fact' (h:jyd P C ops aZ rs ps body m d U tk te ents):∀k y,aZ[k]? =some y→∃o',ops.toList[k]? =some o'∧ye C.inLit ops.toList aZ rs k o' y:=fun k y hk=>
  let ⟨o',h1,_,h2⟩:=h.fact k y hk;⟨o',h1,h2⟩
theorem jyd.behind (h:jyd P C ops aZ rs ps body m d U tk te ents) {k:Nat} {y:tk.ty.Data×te.ty.Data} (hk:ents[k]? =some (some y)):∃p,ps[k]? =some p∧0∈p:=by
  have hlt:k<body.length:=(by have:=(jGW.1 hk).1;have:=h.elen;omega);have hb:body[k]? =some body[k]:=jGY hlt;obtain⟨y',e1,e2⟩:=h.ent k _ hb;rw[hk] at e1;simp at e1;subst e1;obtain⟨ix,x,hop,hdst,hgd,_⟩:=jpl e2;obtain⟨xk,hxk⟩:=h.all k _ hb;obtain⟨o0,g1,g2,g3,g4⟩:=h.o0;obtain⟨x0,hx0⟩:=h.all 0 _ g1;have hk0:0<k:=by
    rcases jH2 k with e|e
    · subst e;rw[hb] at g1;simp at g1;rw[g1,g2] at hop;cases hop
    · exact e
  obtain⟨p,q1,q2⟩:=jaf _ _ _ _ h.ord k xk hxk.get;refine⟨p,q1,?_⟩;rcases q2 0 x0 (by omega) hx0.get with hn|hn
  · exfalso;obtain⟨⟨sv,hs⟩,_⟩:=jbl hx0.eff;refine hn.s1 d (by rw[hs];exact jdS.2 g3) ?_;rw[hxk.slots];unfold j7;refine jGR _ ?_;rw[hop];simp[Op.operands,jvy,jqu]
  · exact hn
theorem jyd.listed0 (h:jyd P C ops aZ rs ps body m d U tk te ents) {D:Nat→Bool} (hD:Clo ops D) {k:Nat} {y:tk.ty.Data×te.ty.Data} (hk:ents[k]? =some (some y)) (he:∀o,ops.toList[k]? =some o→∀e,e∈o.after.toList→Region.binds .any e=true→D e.on=true):D 0=true:=by
  obtain⟨p,h1,h2⟩:=h.behind hk;have hlt:k<body.length:=(by have:=(jGW.1 hk).1;have:=h.elen;omega);have hb:=h.bd k _ (jGY hlt);exact jbY h.pre hD (k+1) k (by omega) _ p hb (he _ hb) h1 0 h2
theorem jrR {α β:Type} {l:List (α×β)} (h:(l.map (·.1)).Nodup):l.Nodup:=by
  unfold List.Nodup at h⊢;rw[List.pairwise_map] at h;exact h.imp (fun hne e=>hne (by rw[e]))
theorem jnb {n m:Nat} {listed:Array Bool} (h1:∀k,k<n→listed.getD k false=true) (h2:∀k,listed.getD k false=true→k<n):cnt (n+m) listed=m:=by
  unfold cnt;rw[List.range_add,jIj];have e1:(List.range n).countP (fun k=> !(listed.getD k false))=0:=jIf.2 (fun k hk=>by simp[h1 k (by simpa using hk)]);have e2:((List.range m).map (n+·)).countP (fun k=> !(listed.getD k false))=((List.range m).map (n+·)).length:=List.countP_eq_length.2 (fun k hk=>by
    obtain⟨j,_,rfl⟩:=jHs.1 hk;cases hc:listed.getD (n+j) false with
    |false=>rfl
    |true=>have:=h2 _ hc;omega)
  rw[e1,e2];simp
theorem jyd.finish (h:jyd P C ops aZ rs ps body m d U tk te ents) {listed:Array Bool} {a:Act} {w:World} (h1:∀k,k<body.length→listed.getD k false=true) (hI:jGv P B C.n ops d tk.ty te.ty ents aZ rs (fun k=>listed.getD k false) a w):
    ∃l,l.Perm (jhi ents)∧Inv P B C.n ops (jB1 d tk.ty te.ty l (bld (fun _=>true) aZ rs)) a w:=by
  obtain⟨B',q,hch,hI,hq⟩:=hI;have e:bld (fun k=>listed.getD k false) aZ rs=bld (fun _=>true) aZ rs:=by
    have e:∀{α:Type} (f:wh→List α),eL f (fun k=>listed.getD k false) aZ 0=eL f (fun _=>true) aZ 0:=fun f=>jkU f aZ 0 (fun k _ hk=>h1 k (by have:=h.len;simp at hk;omega))
    unfold bld;rw[e,e,e]
  rw[e] at hI;obtain⟨o0,g1,_⟩:=h.o0;have h0:0<body.length:=(jGW.1 g1).1;cases q with
  |none=>exact absurd (h1 0 h0) (by rw[show listed.getD 0 false=false from hq];simp)
  |some b=>
    obtain⟨l,es,clock,hm⟩:=hq;obtain⟨hd,hn,ρ,hS,hSl,hG,hPin⟩:=hI;have hSB:Sat P B ρ (bld (fun _=>true) aZ rs).st.obj w:=jdA hch hS;have hPB:=jjJ hch hPin;have N:=gA h.new;have hnb:∀o C',ρ.blk o≠some (some (b,C')):=fun o C' hb=>by
      rcases hS.own o b C' hb with h1|h1
      · have:=hm.lt;omega
      · exact hm.nb h1
    have hH:ρ.H b=none:=(hS.oldH b hm.lt hm.nb).trans hm.nH;obtain⟨ρ',s1,s2,s3,s4,s5⟩:=jDO hSB N.obj N.noRef hnb (.inl hm.ge) (.map false tk.ty te.ty l) (fun ρ' hH'=>by
      simp only[j9,fzM];exact⟨b,0,es,clock,rfl,(hS.old b hm.lt hm.nb).trans hm.at_,by rw[hH'];exact hm.rd.mono hPin.2,by rw[hH'];exact hH⟩)
    refine⟨l,(List.perm_ext_iff_of_nodup (jrR hm.nd) (jrR h.nd)).2 (fun y=> ?_),hd,hn,ρ',?_,?_,?_,hPB.mono s2 (fun r hr=>by simp at hr;subst hr;exact N.lt)⟩
    · rw[hm.mem,jhF];constructor
      · rintro⟨k,_,hk⟩;exact⟨k,hk⟩
      · rintro⟨k,hk⟩;exact⟨k,h1 k (by have:=(jGW.1 hk).1;have:=h.elen;omega),hk⟩
    · have:(jB1 d tk.ty te.ty l (bld (fun _=>true) aZ rs)).st.obj=jij (bld (fun _=>true) aZ rs).st.obj d (some (.map false tk.ty te.ty l)):=wt (bld (fun _=>true) aZ rs).st d _;rw[this];exact s1
    · intro s sv hs;by_cases e:s=d
      · subst e;have h2:jF ((s,SV.mp s)::(bld (fun _=>true) aZ rs).st.sl) s=some sv:=hs;rw[jH] at h2;simp at h2;subst h2;have h3:=hSl s (.lit (.map (some b))) (jH _ _ _);simp only[SV.den] at h3⊢;intro p hp;rw[s4] at hp;simp at hp;subst hp;exact⟨_,_,rfl,h3⟩
      · have h2:jF ((d,SV.mp d)::(bld (fun _=>true) aZ rs).st.sl) s=some sv:=hs;rw[jw (fun h=>e h.symm)] at h2;refine SV.den_mono s2 _ _ (fun r hr=>by simp at hr;subst hr;exact N.sl s sv (zk _ _ _ h2)) (hSl s sv ?_);show jF ((d,_)::(bld (fun _=>true) aZ rs).st.sl) s=some sv;rw[jw (fun h=>e h.symm)];exact h2
    · intro s g v hgm;obtain⟨h2,h3⟩:=hG s g v hgm;exact⟨fun hh=>SV.den_mono s2 _ _ (fun r hr=>by simp at hr;subst hr;exact N.gl s g v hgm) (h2 hh),h3⟩
theorem jjc {p q:Nat→Bool} {i:Nat} (hp:p i=true) (hq:q i=false) (h:∀y,y≠i→p y=q y):∀n,(List.range n).countP p=(List.range n).countP q+(if i<n then 1 else 0)
  |0=>rfl
  |n+1=>by
    have ih:=jjc hp hq h n
    rw[jHu,jIj,jIj,List.countP_singleton,List.countP_singleton,ih]
    by_cases e:n=i
    · subst e
      rw[hp,hq]
      simp
    · rw[h n e]
      by_cases hl:i<n
      · have:i<n+1:=by omega
        simp only[hl,this,if_true];omega
      · have:¬i<n+1:=by omega
        simp only[hl,this,if_false];omega
theorem jjV:∀(l:List Oper) {b:List Oper} {m:Nat},jmA l=some (b,m)→∃f,l=b++f∧f.length=m
  |[],_,_,h=>by simp[jmA] at h
  |o::r,b,m,h=>by
    simp only[jmA] at h
    split at h
    · rename_i b' m' hb
      simp at h
      obtain⟨rfl,rfl⟩:=h
      obtain⟨f,e1,e2⟩:=jjV r hb
      exact⟨f,by rw[e1];rfl,e2⟩
    · split at h
      · simp at h
        obtain⟨rfl,rfl⟩:=h
        exact⟨r,rfl,rfl⟩
      · cases h
theorem jqt {l body:List Oper} {d U m:Nat} (h:jkQ l=some (d,U,body,m)):∃o b f,l=body++f∧body=o::b∧o.op= .makeMap U none∧o.dst=some d∧o.guard=none∧f.length=m:=by
  cases l with
  |nil=>simp[jkQ] at h
  |cons o r=>
    simp only[jkQ] at h
    split at h
    · rename_i e1 e2 e3 e4;simp at h;obtain⟨rfl,rfl,rfl,rfl⟩:=h;obtain⟨f,g1,g2⟩:=jjV r e4;exact⟨o,_,f,by rw[g1];rfl,rfl,e1,e2,e3,g2⟩
    · cases h
theorem jGc.step {B':zF} {kt vt:Ty} {en:List (Option (kt.Data×vt.Data))} {D D':Nat→Bool} {b:Nat} {l:List (kt.Data×vt.Data)} {es:Array MapEntry} {clock:Nat} (h:jGc B B' kt vt en D b l es clock) {i:Nat} (hi':D' i=true) (hD:∀k,k≠i→D' k=D k) (he:en[i]? =some none):jGc B B' kt vt en D' b l es clock:=by
  refine⟨?_,h.ge,h.lt,h.nb,h.nH,h.at_,h.rd,h.nd,fun y=> ?_⟩
  · by_cases e:0=i
    · rw[e];exact hi'
    · rw[hD 0 e];exact h.d0
  · rw[h.mem];constructor
    · rintro⟨k,h1,h2⟩;have:k≠i:=fun e=>by subst e;rw[he] at h2;simp at h2
      exact⟨k,by rw[hD k this];exact h1,h2⟩
    · rintro⟨k,h1,h2⟩;have:k≠i:=fun e=>by subst e;rw[he] at h2;simp at h2
      exact⟨k,by rw[←hD k this];exact h1,h2⟩
theorem jyd.go (h:jyd P C ops aZ rs ps body m d U tk te ents)
    (hQ:∀l a w listed,l.Perm (jhi ents)→listed.size=ops.size→(∀k,k∈jDC body.length↔listed.getD k false=true)→Inv P B C.n ops (jB1 d tk.ty te.ty l (bld (fun _=>true) aZ rs)) a w→wpAny P .any ops Q m listed a w):
    ∀(fuel:Nat) (listed:Array Bool) (a:Act) (w:World),listed.size=ops.size→cnt ops.size listed=fuel→(∀k,listed.getD k false=true→k<body.length)→Clo ops (fun k=>listed.getD k false)→
      jGv P B C.n ops d tk.ty te.ty ents aZ rs (fun k=>listed.getD k false) a w→wpAny P .any ops Q fuel listed a w:=by
  have fin:∀(listed:Array Bool) (a:Act) (w:World),listed.size=ops.size→(∀k,k<body.length→listed.getD k false=true)→(∀k,listed.getD k false=true→k<body.length)→
      jGv P B C.n ops d tk.ty te.ty ents aZ rs (fun k=>listed.getD k false) a w→wpAny P .any ops Q m listed a w:=by
    intro listed a w hs h1 h2 hI;obtain⟨l,p1,p2⟩:=h.finish h1 hI;exact hQ l a w listed p1 hs (fun k=>by rw[jkK];exact⟨h1 k,h2 k⟩) p2
  intro fuel
  induction fuel with
  |zero=>
    intro listed a w hs hc hb hclo hI;have hl:∀k,k<ops.size→listed.getD k false=true:=by
      intro k hk;cases hu:listed.getD k false with
      |true=>rfl
      |false=>have:=jIf.1 hc k (by simpa using hk);simp[hu] at this
    have h1:∀k,k<body.length→listed.getD k false=true:=fun k hk=>hl k (by have:=h.sz;omega)
    have e:=jnb (m:=m) h1 hb;rw[←h.sz,hc] at e;rw[e];exact fin listed a w hs h1 hb hI
  |succ fuel ih=>
    intro listed a w hs hc hb hclo hI;by_cases hdone:∀k,k<body.length→listed.getD k false=true
    · have e:=jnb (m:=m) hdone hb;rw[←h.sz,hc] at e;rw[e];exact fin listed a w hs hdone hb hI
    refine⟨fun hr=>absurd (fun k hk=>jeM h.pre hs hr (k+1) k (by omega) (by have:=h.sz;omega)) hdone,fun i hi=> ?_⟩;obtain⟨o,h1,h2,h3⟩:=(jbd hs).1 hi;have hlt:i<ops.size:=(by have:=(jGW.1 h1).1;simpa using this);obtain⟨_,hps2⟩:=yJ _ _ _ h.pre;have hib:i<body.length:=by
      refine Classical.byContradiction fun hn=>hdone ?_
      obtain⟨p,e1,_⟩:=hps2 i o h1;simp only[jHI,jHX] at e1;intro k hk;exact jbY h.pre hclo (i+1) i (by omega) o p h1 h3 e1 k (h.tl i p (by omega) e1 k hk)
    have ho:body[i]? =some o:=by
      have e:=h.bd i _ (jGY hib);rw[h1] at e;simp at e;rw[e];exact jGY hib
    obtain⟨x,hx⟩:=h.all i o ho;have hspec:=jaf _ _ _ _ h.ord;have hNT:∀(k:Nat) (y:wh),aZ[k]? =some y→(fun k=>listed.getD k false) k≠decide (k<i)→NT rs.st (jcg aZ) x y:=by
      intro k y hk hne;simp only at hne;obtain⟨o',ho',_⟩:=h.fact' k y hk;by_cases hki:k<i
      · have hu:listed.getD k false=false:=by cases hh:listed.getD k false<;>simp_all
        obtain⟨p,e1,e2⟩:=hspec i x hx.get;rcases e2 k y (by omega) hk with h'|h'
        · exact h'.symm
        · have:=jbY h.pre hclo (i+1) i (by omega) o p h1 h3 e1 k h';rw[hu] at this;cases this
      · have hu:listed.getD k false=true:=by cases hh:listed.getD k false<;>simp_all
        have hne':k≠i:=fun e=>by subst e;rw[h2] at hu;cases hu
        obtain⟨p,e1,e2⟩:=hspec k y hk;rcases e2 i x (by omega) hx.get with h'|h'
        · exact h'
        · have:=jbY h.pre hclo (k+1) k (by omega) o' p ho' (fun e he hb=>hclo k o' ho' hu e he hb) e1 i h';rw[h2] at this;cases this
    have hset:∀k,(listed.setIfInBounds i true).getD k false=if k=i then true else listed.getD k false:=jhX (by omega);have hset1:(listed.setIfInBounds i true).getD i false=true:=(by simp only[hset,if_true]);have hset2:∀k,k≠i→(listed.setIfInBounds i true).getD k false=listed.getD k false:=fun k hk=>by simp only[hset,if_neg hk]
    have hcnt:cnt ops.size (listed.setIfInBounds i true)=fuel:=by
      have:=jjc (p:=fun k=> !(listed.getD k false)) (q:=fun k=> !((listed.setIfInBounds i true).getD k false)) (i:=i) (by simp[h2]) (by simp[hset]) (fun y hy=>by simp only[hset,if_neg hy]) ops.size;rw[if_pos hlt] at this;unfold cnt at hc⊢;omega
    have hb':∀k,(listed.setIfInBounds i true).getD k false=true→k<body.length:=by
      intro k hk;by_cases e:k=i
      · rw[e];exact hib
      · rw[hset,if_neg e] at hk;exact hb k hk
    have hclo':Clo ops (fun k=>(listed.setIfInBounds i true).getD k false):=by
      intro k o' ho' hk e he hb;simp only at hk⊢;rw[hset] at hk⊢
      split
      · rfl
      · by_cases e':k=i
        · subst e';rw[h1] at ho';simp at ho';subst ho';exact h3 e he hb
        · rw[if_neg e'] at hk;exact hclo k o' ho' hk e he hb
    obtain⟨B',q,hch,hI,hq⟩:=hI;obtain⟨b1,b2,b3⟩:=jEK (D:=fun k=>listed.getD k false) (D':=fun k=>(listed.setIfInBounds i true).getD k false) h.fact' hx h2 hset1 hset2 hNT;obtain⟨heff,hcl⟩:=jFM (D:=fun k=>listed.getD k false) h.fact' hx rfl hNT;have hfit:=jAr (jDd (D:=fun k=>listed.getD k false) h.fact' hx hNT);obtain⟨ti,hmp⟩:=h.mp;unfold wpOp;have hoi:ops[i]? =some o:=(by simpa using h1);rw[hoi];simp only;have fin2:(if Region.wanted o (yielded ops a.tmps) then o.wp P a w (wpAny P .any ops Q fuel (listed.setIfInBounds i true)) Q else wpAny P .any ops Q fuel (listed.setIfInBounds i true) (a.put o.dst undef) w):=by
      cases hk:jiX o.op with
      |false=>
        obtain⟨y,e1,e2⟩:=h.ent i o ho;have:=ju0 e2 hk;subst this;by_cases hi0:i=0
        · --the map is made
          subst hi0;obtain⟨o0,g1,g2,g3,g4⟩:=h.o0;rw[ho] at g1;simp at g1;subst g1;cases q with
          |some b=>obtain⟨l,es,clock,hm⟩:=hq;have:listed.getD 0 false=true:=hm.d0;rw[h2] at this;cases this
          |none=>
            have hxe:x.e=⟨none,[],[],[(d,.any)],[],[],[]⟩:=by
              have this:=hx.eff;unfold jcU at this;rw[g4] at this;simp only at this;have e:∀R,jkl C.inLit ops.toList o R []=some (.pure .any):=by
                intro R;unfold jkl;rw[g2];simp only[jB];have e1:C.inLit.lit=true:=rfl;have e2:C.inLit.mapT U=C.mapT U:=rfl;rw[e1,e2,hmp]
              rw[e] at this;simp[jrC,g3,Out.pure,q6] at this;exact this.symm
            rw[hxe] at b1 b2 b3;obtain⟨hd,hn,ρ,hS,hSl,hG,hPin⟩:=hI;have hw:Region.wanted o (yielded ops a.tmps)=true:=(by simp[Region.wanted,g4]);rw[if_pos hw];have hrun:(execOp a.eval o).run P w= .ok (.value (.map (some w.heap.size))) (w.alloc (.map #[] 0)):=(by simp[execOp,g2,Instr.makeMap]);unfold Oper.wp;rw[hrun];simp only[Oper.upon];have hsz:=(jdA hch hS).size;have hgood:jcY ρ.H (w.alloc (.map #[] 0)):=by
              refine⟨fun b c hbc=> ?_,hS.good.2⟩;rw[heap_alloc_old w _ b (hS.good.lt hbc)];exact hS.good.1 b c hbc
            obtain⟨n1,n2,n3⟩:=jpp (σ:=(lvO d none (bld (fun k=>listed.getD k false) aZ rs)).st) (w':=w.alloc (.map #[] 0)) hch hS hPin rfl rfl rfl (jGU _) (by simp) hgood (fun b hb=>heap_alloc_old w _ b (by omega)) (fun o b C' hb=>heap_alloc_old w _ b (yD hS hb).1);refine ih _ _ _ (by simpa using hs) hcnt hb' hclo' ⟨_,some w.heap.size,n1,?_,[],#[],0,?_⟩
            · refine jhN (jgo (C:=C) (ops:=ops) (o:=o) (rs:=bld (fun k=>listed.getD k false) aZ rs) (e:=⟨none,[],[],[(d,.lit (.map (some w.heap.size)))],[],[],[]⟩) (ρ:=ρ) (ρ'':=ρ) (sv:= .lit (.map (some w.heap.size))) (gv:= .any) (v:= .map (some w.heap.size))
                hd hn hSl hG n3 n2 (Env.le.refl _ _) ⟨hfit.frame,hfit.gl,hfit.guard,fun d hd=>by simp at hd,fun hor=>by simp[jdX,g2] at hor⟩ hfit.frame (by simp[jrC,g3]) (fun _ _=>by simp[SV.den]) (fun x hx=>by simp at hx) (fun d g _ hg=>by rw[g4] at hg;cases hg)) (fun s=> ?_) (fun r=> ?_) (fun y hy=> ?_)
              · show jF ((d,SV.lit (.map (some w.heap.size)))::(bld (fun k=>(listed.setIfInBounds 0 true).getD k false) aZ rs).st.sl) s=jF ((d,SV.lit (.map (some w.heap.size)))::(bld (fun k=>listed.getD k false) aZ rs).st.sl) s;by_cases e:d=s
                · subst e;rw[jH,jH]
                · rw[jw e,jw e,b1 s];show jF ((d,SV.any)::(bld (fun k=>listed.getD k false) aZ rs).st.sl) s=_;rw[jw e]
              · exact b2 r
              · exact b3 y hy
            · refine⟨hset1,hsz,by show w.heap.size<(w.alloc (.map #[] 0)).heap.size;simp,fun hm=> ?_,?_,qS w _,⟨rfl,jGU _,fun i e he=>by simp at he,fun i j e e' he=>by simp at he,fun i x hx=>by simp at hx⟩,by simp,fun y=>⟨fun hy=>by simp at hy,fun hy=> ?_⟩⟩
              · obtain⟨o',C',_,h6⟩:=(jX _).1 hm;have:=(yD hS h6).1;omega
              · show ρ.H w.heap.size=none;cases hc:ρ.H w.heap.size with
                |none=>rfl
                |some c=>have:=hS.good.lt hc;omega
              · obtain⟨k,k1,k2⟩:=hy;exfalso;by_cases e:k=0
                · subst e;rw[e1] at k2;simp at k2
                · have k1:listed.getD k false=true:=(by rw[←hset2 k e];exact k1);have:listed.getD 0 false=true:=h.listed0 hclo k2 (fun o' ho' e he hb=>hclo k o' ho' k1 e he hb);rw[h2] at this;cases this
        · obtain⟨nm,ns,nk⟩:=h.aside i o x (by omega) ho hx.get hk;rw[jAB hk nm] at heff;refine yL (K:=wpAny P .any ops Q fuel (listed.setIfInBounds i true)) (Q:=Q) h.ok heff (jCo (d:=d) (q:=q) hfit) (jFG (jrE hcl) (jn7 (by rw[←hx.slots];exact ns))) hI (h.vc x (jHP hx.get)) (fun a' w' hI' _=>
            ih _ a' w' (by simpa using hs) hcnt hb' hclo' ⟨B',q,hch,jhN hI' (fun s=> ?_) (fun r=> ?_) (fun y hy=> ?_),?_⟩)
          · cases q with
            |none=>exact b1 s
            |some b=>
              show jF ((d,SV.lit (.map (some b)))::(bld (fun k=>(listed.setIfInBounds i true).getD k false) aZ rs).st.sl) s=jF (x.e.sl++(d,SV.lit (.map (some b)))::(bld (fun k=>listed.getD k false) aZ rs).st.sl) s;by_cases e:d=s
              · subst e;rw[jH,jk,jy _ _ nk,jH]
              · have h6:=b1 s;have h7:(zp x.e (bld (fun k=>listed.getD k false) aZ rs)).st.sl=x.e.sl++(bld (fun k=>listed.getD k false) aZ rs).st.sl:=rfl;rw[h7,jk] at h6;rw[jw e,jk,jw e];exact h6
          · cases q<;>exact b2 r
          · cases q<;>exact b3 y hy
          · cases q with
            |none=>show(listed.setIfInBounds i true).getD 0 false=false;rw[hset2 0 (fun e=>hi0 e.symm)];exact hq
            |some b=>
              obtain⟨l,es,clock,hm⟩:=hq;exact⟨l,es,clock,hm.step hset1 hset2 e1⟩
      |true=>
        obtain⟨y,e1,e2⟩:=h.ent i o ho;obtain⟨z,rfl⟩:=jAA e2 hk;have hsh:zH (j7 ops.toList o) (bld (fun k=>listed.getD k false) aZ rs)=zH (j7 ops.toList o) (bld (fun k=>decide (k<i)) aZ rs):=jyO (D:=fun k=>listed.getD k false) h.fact' hx hNT (fun k y k1 k2 r k3 k4=>by
          have:=((hNT k y k1 k2).o2 r k3 k4).mv;rw[hx.mv] at this;unfold jFz at this
          split at this
          · rename_i hop _;rw[hop] at hk;simp[jiX] at hk
          · cases this)
        rw[←hsh] at e2;obtain⟨ix,xx,hop,hdst,hgd,u1,u2,t1,t2⟩:=jpl e2;cases q with
        |none=>
          have:listed.getD 0 false=true:=h.listed0 hclo e1 (fun o' ho' e he hb=>by rw[h1] at ho';simp at ho';subst ho';exact h3 e he hb);rw[show listed.getD 0 false=false from hq] at this;cases this
        |some b=>
          obtain⟨l,es,clock,hm⟩:=hq;have hxe:x.e=⟨none,[],[],[],[],[],[]⟩:=by
            have this:=hx.eff;unfold jcU at this;rw[hgd] at this;simp only at this;have e:∀R,jkl C.inLit ops.toList o R []=some (.pure .any):=by
              intro R;unfold jkl;rw[hop];rfl
            rw[e] at this;simp[jrC,hdst,Out.pure,q6] at this;exact this.symm
          rw[hxe] at b1 b2 b3;obtain⟨hd,hn,ρ,hS,hSl,hG,hPin⟩:=hI;have hSR:=jwg (σ:=(bld (fun k=>listed.getD k false) aZ rs).st) hS (zH (j7 ops.toList o) (bld (fun k=>listed.getD k false) aZ rs)).1;have eo:(zH (j7 ops.toList o) (bld (fun k=>listed.getD k false) aZ rs)).2.st.obj=jzo (zH (j7 ops.toList o) (bld (fun k=>listed.getD k false) aZ rs)).1 (bld (fun k=>listed.getD k false) aZ rs).st.obj:=funext fun o=>by rw[jhj];rfl
          rw[←eo] at hSR;have hkr:tk.ty.rv ρ.H (a.eval ix) z.1:=jM hSR (fz:=[]) (fun o=>⟨.inl rfl,fun ho=>by simp at ho⟩) t1 (fun o ho=>ho) (SV.den_mono (jkM _ _) _ _ (fun r hr=>by simp at hr) (jDi hSl u1));have hvr:te.ty.rv ρ.H (a.eval xx) z.2:=jM hSR (fz:=[]) (fun o=>⟨.inl rfl,fun ho=>by simp at ho⟩) t2 (fun o ho=>ho) (SV.den_mono (jkM _ _) _ _ (fun r hr=>by simp at hr) (jDi hSl u2));have hmv:a.eval (.tmp d)= .map (some b):=hSl d (.lit (.map (some b))) (jH _ _ _);have hwb:w.heap[b]? =some (.map es clock):=(hS.old b hm.lt hm.nb).trans hm.at_;have hblt:b<w.heap.size:=(jGZ.1 hwb).1;have hH:ρ.H b=none:=(hS.oldH b hm.lt hm.nb).trans hm.nH;have hrd:=hm.rd.mono hPin.2;have hnew:z.1∉l.map (·.1):=by
            intro hz;obtain⟨y,y1,y2⟩:=jHs.1 hz;obtain⟨k,k1,k2⟩:=(hm.mem y).1 y1;have hne:k≠i:=fun e=>by subst e;rw[show listed.getD k false=true from k1] at h2;cases h2
            exact jpW ents h.nd k i y z k2 e1 hne y2
          have hrun:=jwS (x:=xx) h.ok hmp hwb hrd hop hmv hkr hnew;have hw:Region.wanted o (yielded ops a.tmps)=true:=(by simp[Region.wanted,hgd]);rw[if_pos hw];unfold Oper.wp;rw[hrun];simp only[Oper.upon];rw[hdst];have hoth:∀(y:Obj) (k:Nat),k≠b→(w.heap.setIfInBounds b y)[k]? =w.heap[k]? :=fun y k hk=>by rw[jG7,if_neg (fun h=>hk h.symm)]
          have hnb:∀o k C',ρ.blk o=some (some (k,C'))→k≠b:=fun o k C' hb e=>by
            subst e;rcases hS.own o k C' hb with h1|h1
            · have:=hm.lt;omega
            · exact hm.nb h1
          have hgood:∀y,jcY ρ.H {w with heap:=w.heap.setIfInBounds b y}:=fun y=>by
            refine⟨fun k c hkc=> ?_,hS.good.2⟩;have:k≠b:=fun e=>by subst e;rw[hH] at hkc;cases hkc
            show c.at (w.heap.setIfInBounds b y)[k]?;rw[hoth y k this];exact hS.good.1 k c hkc
          obtain⟨n1,n2,n3⟩:=jpp (σ:=(bld (fun k=>listed.getD k false) aZ rs).st) (w':={w with heap:=w.heap.setIfInBounds b (.map (es.push {key:=a.eval ix,val:=a.eval xx,born:=clock}) (clock+1))}) hch hS hPin rfl rfl rfl (jGU _) (by simp) (hgood _)
            (fun k hk=>hoth _ k (by have:=hm.ge;omega)) (fun o k C' hb=>hoth _ k (hnb o k C' hb))
          refine ih _ _ _ (by simpa using hs) hcnt hb' hclo' ⟨_,some b,n1,jhN (r:=lvO d (some b) (bld (fun k=>listed.getD k false) aZ rs)) ⟨hd,hn,ρ,n2,hSl,hG,n3⟩ (fun s=> ?_) (fun r=>b2 r) (fun y hy=>b3 y hy),l++[z],es.push {key:=a.eval ix,val:=a.eval xx,born:=clock},clock+1,?_⟩
          · show jF ((d,SV.lit (.map (some b)))::(bld (fun k=>(listed.setIfInBounds i true).getD k false) aZ rs).st.sl) s=jF ((d,SV.lit (.map (some b)))::(bld (fun k=>listed.getD k false) aZ rs).st.sl) s;by_cases e:d=s
            · subst e;rw[jH,jH]
            · rw[jw e,jw e];exact b1 s
          · have hi0:(0:Nat)≠i:=fun e=>by have:listed.getD 0 false=true:=hm.d0;rw[e,h2] at this;cases this
            refine⟨by show(listed.setIfInBounds i true).getD 0 false=true;rw[hset2 0 hi0];exact hm.d0,hm.ge,by show b<(w.heap.setIfInBounds b _).size;simpa using hblt,fun hmm=> ?_,hH,?_,jzf hrd hkr hvr,?_,fun y=> ?_⟩
            · obtain⟨o',C',_,h6⟩:=(jX _).1 hmm;exact hnb o' b C' h6 rfl
            · show(w.heap.setIfInBounds b _)[b]? =_;simp[hblt]
            · rw[jHF,jHW];refine⟨hm.nd,by simp,fun u hu v hv=> ?_⟩;simp at hv;subst hv;exact fun e=>hnew (e▸hu)
            · rw[jG1,hm.mem,List.mem_singleton];constructor
              · rintro(⟨k,k1,k2⟩|rfl)
                · by_cases e:k=i
                  · exact⟨i,hset1,e▸k2⟩
                  · exact⟨k,by show(listed.setIfInBounds i true).getD k false=true;rw[hset2 k e];exact k1,k2⟩
                · exact⟨i,hset1,e1⟩
              · rintro⟨k,k1,k2⟩;by_cases e:k=i
                · subst e;rw[e1] at k2;simp at k2;exact .inr k2.symm
                · exact .inl ⟨k,by show listed.getD k false=true;rw[←hset2 k e];exact k1,k2⟩
    split
    · rename_i hw;rw[if_pos hw] at fin2;exact .inl fin2
    · rename_i hw;rw[if_neg hw] at fin2;exact fin2
end
end Go.X
namespace Go.X
open Go.RowKit (Below)
section
variable {P:Program} {B:zF} {C:Ctx} {ops:Array Oper} {Q:Exit→Act→World→Prop}
theorem jwW {o:Oper} {rs:RS} {a:Act} {w:World} {v:SV} {u:Value} {k:RS→Prop} (h:jBi C ops.toList o v rs k) (hI:Inv P B C.n ops rs a w)
    (hu:∀ρ,jih P ρ rs.st.sl a→SV.den P ρ v u):∃rs',k rs'∧(∃p,rs'.st.sl=p++rs.st.sl)∧rs'.st.ob=rs.st.ob∧Inv P B C.n ops rs' (a.put o.dst u) w:=by
  unfold jBi at h
  split at h
  case h_2=>exact h.elim
  rename_i h1 h2 h3;obtain⟨hd,hn,ρ,hS,hSl,hG,hPin⟩:=hI;have hfr:∀d,o.dst=some d→d<C.n:=fun d hdd=>by
    unfold jgq at h1;rw[hdd] at h1;exact jG6 h1
  have hfit:jq8 C ops {o with guard:=none,op:= .move (.tmp 0)} rs ⟨none,[],[],jrC o v,[],[],[]⟩:=
    ⟨hfr,fun d hdd s j b x hm=>by rw[h3] at hm;simp at hm,fun d hdd j b hg=>by simp at hg,fun d hdd=>by simp at hdd,fun hor=>by simp[jdX] at hor⟩
  refine⟨_,h,⟨_,rfl⟩,rfl,?_⟩;exact jgo (C:=C) (ops:=ops) (o:={o with guard:=none,op:= .move (.tmp 0)}) (rs:=rs) (e:=⟨none,[],[],jrC o v,[],[],[]⟩) (ρ:=ρ) (ρ'':=ρ) (sv:=v) (gv:= .any) (v:=u) hd hn hSl hG hPin hS (Env.le.refl _ _) hfit hfr rfl (fun _ _=>hu ρ hSl) (fun x hx=>by simp at hx) (fun d g _ hg=>by simp at hg)
theorem jtJ (hC:C.ok P) {o:Oper} {rs:RS} {a:Act} {w:World} {k:RS→Prop} (h:jtI C ops.toList {o with guard:=none} rs k) (hI:Inv P B C.n ops rs a w) {K:Act→World→Prop}
    (hK:∀rs' a' w',k rs'→(∃p,rs'.st.sl=p++rs.st.sl)→(∃p,rs'.st.ob=p++rs.st.ob)→Inv P B C.n ops rs' a' w'→K a' w'):o.wp P a w K Q:=by
  unfold jtI at h
  split at h
  · exact h.elim
  rename_i e he
  split at h
  case h_2=>exact h.elim
  rename_i hf;obtain⟨h1,h2⟩:=jfJ h;have:=yL (K:=K) (Q:=Q) hC he (vG hf) (Fit.refl P B rs e) hI h1 (fun a' w' hI' hfact=>hK _ a' w' (h2 hfact) ⟨_,rfl⟩ ⟨_,rfl⟩ hI');rw[if_pos (by simp[Region.wanted])] at this;cases o;exact this
theorem joP (hC:C.ok P) {σ0:St} {k:RS→Prop} (hQ:∀rs a w,(∃p,rs.st.sl=p++σ0.sl)→(∃p,rs.st.ob=p++σ0.ob)→k rs→Inv P B C.n ops rs a w→Q .normal a w):
    ∀(l:List Oper) (dec:List ((Nat×Bool)×Bool)) (rs:RS) (a:Act) (w:World),(∃p,rs.st.sl=p++σ0.sl)→(∃p,rs.st.ob=p++σ0.ob)→jtq C ops.toList l dec rs k→Inv P B C.n ops rs a w→wpList P ops Q l a w
  |[],dec,rs,a,w,e1,e2,h,hI=>hQ rs a w e1 e2 h hI
  |o::r,dec,rs,a,w,e1,e2,h,hI=>by
    have app:∀{α:Type} {x y z:List α},(∃p,y=p++x)→(∃p,z=p++y)→∃p,z=p++x:=by
      rintro α x y z ⟨p,rfl⟩ ⟨q,rfl⟩;exact⟨q++p,by rw[jHc]⟩
    have ih:=fun dec rs' a' w'=>joP hC hQ r dec rs' a' w'
    have step:∀dec',jtI C ops.toList {o with guard:=none} rs (fun rs'=>jtq C ops.toList r dec' rs' k)→o.wp P a w (wpList P ops Q r) Q:=fun dec' hs=>
      jtJ hC hs hI (fun rs' a' w' hk s1 s2 hI'=>ih dec' rs' a' w' (app e1 s1) (app e2 s2) hk hI')
    have put:∀dec' v u,jBi C ops.toList o v rs (fun rs'=>jtq C ops.toList r dec' rs' k)→(∀ρ,jih P ρ rs.st.sl a→SV.den P ρ v u)→wpList P ops Q r (a.put o.dst u) w:=fun dec' v u hp hu=>by
      obtain⟨rs',k1,k2,k3,k4⟩:=jwW hp hI hu;exact ih dec' rs' _ w (app e1 k2) (by rw[k3];exact e2) k1 k4
    unfold wpList;simp only[jtq] at h
    split at h
    · rename_i hg;have hw:Region.wanted o (yielded ops a.tmps)=true:=(by simp[Region.wanted,hg]);rw[if_pos hw];refine .inl ?_
      split at h
      · rename_i c x y hp
        split at h
        case h_2=>exact h.elim
        rename_i β hβ;have hop:o.op= .pick c x y:=by
          unfold jC9 at hp
          split at hp
          · rename_i hop;simp at hp;obtain⟨rfl,rfl,rfl⟩:=hp;exact hop
          · cases hp
        obtain⟨_,_,ρ,_,hSl,_,_⟩:=id hI;have hc:=jK (P:=P) (a:=a) hSl c;rw[hβ] at hc;have hcv:a.eval c= .bool β:=by
          have h1:Ty.bool.rv ρ.H (a.eval c) β:=(by simpa only[SV.den] using hc);have h2:=zb (t:= .bool) rfl h1;have h3:some (a.eval c)=some (.bool β):=h2;simpa using h3
        have hrun:(execOp a.eval o).run P w= .ok (.value (if β=true then a.eval x else a.eval y)) w:=by
          simp only[execOp,hop,hcv];cases β<;>simp[asBool]
        unfold Oper.wp;rw[hrun];simp only[Oper.upon]
        split at h
        · obtain⟨rfl,h⟩:=h;exact put dec _ _ h (fun ρ hSl=>jK (P:=P) (a:=a) hSl x)
        · obtain⟨rfl,h⟩:=h;exact put dec _ _ h (fun ρ hSl=>jK (P:=P) (a:=a) hSl y)
        · cases β with
          |true=>exact put dec _ _ (h.1 rfl) (fun ρ hSl=>jK (P:=P) (a:=a) hSl x)
          |false=>exact put dec _ _ (h.2 rfl) (fun ρ hSl=>jK (P:=P) (a:=a) hSl y)
      · have:{o with guard:=none}=o:=(by cases o;simp only at hg;subst hg;rfl);exact step dec (by rw[this];exact h)
    · rename_i g hg;have wiff:∀γ,jfl ops.toList rs ops.toList.length g=some γ→((Region.wanted o (yielded ops a.tmps)=true)↔γ=true):=by
        intro γ hγ;obtain⟨_,_,ρ,_,hSl,hG,_⟩:=id hI;have h1:=jam hSl hG _ _ _ hγ;rw[←h1];obtain⟨j,b⟩:=g;simp[Region.wanted,hg,jkJ]
      have yes:∀{γ:Bool},jfl ops.toList rs ops.toList.length g=some γ→γ=true→∀dec',jtI C ops.toList {o with guard:=none} rs (fun rs'=>jtq C ops.toList r dec' rs' k)→(if Region.wanted o (yielded ops a.tmps) then o.wp P a w (wpList P ops Q r) Q∨(o.asks P a w∧LetsOut Q) else wpList P ops Q r (a.put o.dst undef) w):=fun hγ ht dec' hs=>by
        rw[if_pos ((wiff _ hγ).2 ht)];exact .inl (step dec' hs)
      have no:∀{γ:Bool},jfl ops.toList rs ops.toList.length g=some γ→γ=false→∀dec',jBi C ops.toList o .any rs (fun rs'=>jtq C ops.toList r dec' rs' k)→(if Region.wanted o (yielded ops a.tmps) then o.wp P a w (wpList P ops Q r) Q∨(o.asks P a w∧LetsOut Q) else wpList P ops Q r (a.put o.dst undef) w):=fun hγ hf dec' hs=>by
        rw[if_neg (fun hw=>by rw[(wiff _ hγ).1 hw] at hf;cases hf)];exact put dec' _ _ hs (fun ρ _=>wg _)
      split at h
      · rename_i γ hγ hdec;exact yes hγ h.1 dec h.2
      · rename_i γ hγ hdec;exact no hγ h.1 dec h.2
      · rename_i γ hγ hdec;cases γ with
        |true=>exact yes hγ rfl _ (h.1 rfl)
        |false=>exact no hγ rfl _ (h.2 rfl)
      · exact h.elim
end
end Go.X
namespace Go.X
open Go.RowKit (Below)
section
variable {P:Program} {B:zF} {σ τ:St} {ρ ρ':Env} {w:World}
theorem jqS {t t':Ty} {d:t.Data} {d':t'.Data} (h:jDh t t' d d'):∃e:t=t',qU e d=d':=by
  unfold jDh at h
  split at h
  · rename_i x hx;obtain⟨e,rfl⟩:=jl hx;exact⟨e,h⟩
  · exact h.elim
theorem jlP (hS:Sat P B ρ σ.obj w) {new:List Nat} (hle:ρ.le ρ' new) (hnew:∀o,o∈new→ρ'.blk o=some none∧ρ'.len o=0) {v v':SV} (h:jaw σ v v')
    (hf:∀o,o∈new→v.refs o=false) {x:Value} (hx:SV.den P ρ v x):SV.den P ρ' v' x:=by
  have same:v=v'→SV.den P ρ' v' x:=fun e=>by subst e;exact SV.den_mono hle v x hf hx
  cases v' with
  |any=>simp[SV.den]
  |dat t d=>
    have h2:∃y,qH σ t v=some (y,[])∧y=d:=by
      unfold jaw at h;cases v<;>simp only at h<;>(split at h<;>first|exact⟨_,by assumption,h⟩|exact h.elim)
    obtain⟨y,h3,rfl⟩:=h2;have:=jM hS (fz:=[]) (fun o=>⟨.inl rfl,fun ho=>by simp at ho⟩) h3 (fun o ho=>ho) hx;simp only[SV.den];exact Ty.rv_mono hle.H this
  |fcl t d=>cases v<;>simp only[jaw] at h
  |ep t d=>
    cases v<;>simp only[jaw] at h
    rename_i t' d';obtain⟨e,rfl⟩:=jqS h;subst e;exact same rfl
  |own o t=>
    cases v<;>simp only[jaw] at h
    · rename_i o' t'
      split at h
      case h_2=>exact h.elim
      rename_i hb;have:=jGP hb;subst this;have:=SV.den_mono hle _ _ hf hx;simpa only[SV.den] using this
    · rename_i u
      split at h
      case h_2=>exact h.elim
      rename_i h1 h2;have:=wy h1;subst this;simp only[SV.den] at hx;subst hx;simp only[SV.den];intro p hp;by_cases hn:o∈new
      · obtain⟨e1,e2⟩:=hnew o hn;rw[e1] at hp;simp at hp;subst hp;exact⟨trivial,e2⟩
      · have:=hle.blk o p hn hp;rw[hS.dead o h2] at this;cases this
  |osl o t lo n=>
    cases v<;>simp only[jaw] at h
    · rename_i o' u
      split at h
      case h_2=>exact h.elim
      rename_i E t0 fz nl l h1 h2
      split at h
      case h_2=>exact h.elim
      rename_i h3 h4;have:=jGP h1;subst this;have:=yQ h3;have:=yQ h4;obtain⟨rfl,rfl⟩:=h
      subst_vars
      have hx2:=SV.den_mono hle _ _ hf hx;simp only[SV.den] at hx2⊢;intro p hp;have hx2:=hx2 p hp;have hon:o'∉new:=fun hn=>by have:=hf o' hn;simp[SV.refs] at this
      obtain⟨q,hq,k1,_⟩:=hS.obs o' _ h2;have hp':=hle.blk o' p hon hp;rw[hq] at hp';simp at hp';subst hp';have hlen:=hle.len o' hon;cases q with
      |none=>
        obtain⟨e1,e2⟩:=hx2;exact⟨e1,by rw[←k1,←hlen];exact e2⟩
      |some bc=>
        obtain⟨b,Cp⟩:=bc;obtain⟨e1,e2⟩:=hx2;rw[hlen,k1] at e1 e2;exact⟨⟨b,0,none⟩,Cp,e1,e2,by omega,by rw[hlen,k1];omega,fun _=>by simp⟩
    · rename_i o' t' lo' n'
      split at h
      case h_2=>exact h.elim
      rename_i h1 h2;have:=jGP h1;have:=yQ h2;obtain⟨rfl,rfl⟩:=h
      subst_vars
      exact same rfl
  |bp o k=>
    cases v<;>simp only[jaw] at h
    rename_i o' k'
    split at h
    case h_2=>exact h.elim
    rename_i h1 h2;have:=jGP h1;have:=jGP h2
    subst_vars
    exact same rfl
  |mp o=>
    cases v<;>simp only[jaw] at h
    split at h
    case h_2=>exact h.elim
    rename_i h1;have:=jGP h1
    subst_vars
    exact same rfl
  |ip o=>
    cases v<;>simp only[jaw] at h
    split at h
    case h_2=>exact h.elim
    rename_i h1;have:=jGP h1
    subst_vars
    exact same rfl
  |rp o t i off=>cases v<;>simp only[jaw] at h
  |fn ps rs pre F=>cases v<;>simp only[jaw] at h
  |fnp ps rs pre F=>cases v<;>simp only[jaw] at h
  |fe q o T st ps rs pre K=>
    cases v<;>simp only[jaw] at h
    exact same h
  |clo f caps=>cases v<;>simp only[jaw] at h
  |agg cs=>cases v<;>simp only[jaw] at h
  |tup cs=>cases v<;>simp only[jaw] at h
  |lit u=>cases v<;>simp only[jaw] at h
theorem jjE (hS:Sat P B ρ σ.obj w) {new:List Nat} (hle:ρ.le ρ' new) (hnew:∀o,o∈new→ρ'.blk o=some none∧ρ'.len o=0):
    ∀{cs cs':List SV},jvA σ cs cs'→(∀o,o∈new→SV.refs.refsL o cs=false)→∀{vs:List Value},SV.denL P ρ cs vs→SV.denL P ρ' cs' vs
  |[],[],_,_,vs,hx=>by simpa[SV.denL] using hx
  |c::cs,c'::cs',h,hf,vs,hx=>by
    simp only[SV.denL] at hx⊢
    obtain⟨v,r,rfl,h1,h2⟩:=hx
    have f1:∀o,o∈new→c.refs o=false:=fun o ho=>by
      have:=hf o ho;simp only[SV.refs.refsL] at this;cases hc:c.refs o<;>simp_all
    have f2:∀o,o∈new→SV.refs.refsL o cs=false:=fun o ho=>by
      have:=hf o ho;simp only[SV.refs.refsL] at this;cases hc:c.refs o<;>simp_all
    exact⟨v,r,rfl,jlP hS hle hnew h.1 f1 h1,jjE hS hle hnew h.2 f2 h2⟩
  |[],_::_,h,_,_,_=>h.elim
  |_::_,[],h,_,_,_=>h.elim
theorem jhe:∀(ks:List Nat),jej σ τ ks→∀s,s∈ks→τ.get s= .any∨jaw σ (σ.get s) (τ.get s)
  |[],_,s,h=>by simp at h
  |k::r,h,s,hm=>by
    have h2:(τ.get k= .any∨jaw σ (σ.get k) (τ.get k))∧jej σ τ r:=by
      unfold jej at h
      split at h
      · rename_i e;exact⟨.inl e,h⟩
      · exact⟨.inr h.1,h.2⟩
    rcases jGS.1 hm with rfl|hm
    · exact h2.1
    · exact jhe r h2.2 s hm
theorem jfM:∀(os:List Nat),joM σ τ os→∀o,o∈os→∀x,τ.obj o=some x→jkg σ o x
  |[],_,o,h=>by simp at h
  |k::r,h,o,hm=>by
    intro x hx
    have h2:(∀y,τ.obj k=some y→jkg σ k y)∧joM σ τ r:=by
      unfold joM at h
      split at h
      · rename_i e;exact⟨fun y hy=>(by rw[e] at hy;cases hy),h⟩
      · rename_i y e;exact⟨fun y' hy=>(by rw[e] at hy;simp at hy;subst hy;exact h.1),h.2⟩
    rcases jGS.1 hm with rfl|hm
    · exact h2.1 x hx
    · exact jfM r h2.2 o hm x hx
def jpc:Option Ob→Bool
  |some (.box _ true _)=>true
  |some (.row _ _ true _ _)=>true
  |some (.map true _ _ _)=>true
  |_=>false
theorem joN {o:Nat} {x:Ob} (h:jkg σ o x):
    (∃T fz fz' cs cs',x= .box T fz cs∧σ.obj o=some (.box T fz' cs')∧jnS fz fz'=true∧jvA σ cs' cs)∨
    (∃E t fz fz' nl nl' l,x= .row E t fz nl l∧σ.obj o=some (.row E t fz' nl' l)∧jnS fz fz'=true∧(nl=nl'∨nl= .unk∨(nl= .yes∧nl'= .no∧l≠[])))∨
    (∃E t nl,x= .row E t false nl []∧nl≠.no∧σ.obj o=none∧jgw o σ.sl=true∧vF o σ.ob=true∧o<1000000)∨
    (∃kt vt fz fz' l,x= .map fz kt vt l∧σ.obj o=some (.map fz' kt vt l)∧jnS fz fz'=true)∨
    (∃kt vt left cur,x= .iter kt vt left none∧σ.obj o=some (.iter kt vt left cur)):=by
  cases x with
  |box T fz cs=>
    simp only[jkg] at h
    split at h
    case h_2=>exact h.elim
    rename_i T' fz' cs' ho
    split at h
    case h_2=>exact h.elim
    rename_i h1 h2;have:=jGP h1;subst this;exact .inl ⟨_,_,_,_,_,rfl,ho,h2,h⟩
  |row E t fz nl l=>
    simp only[jkg] at h
    split at h
    · rename_i E' t' fz' nl' l' ho
      split at h
      case h_2=>exact h.elim
      rename_i h1 h2;have:=jGP h1;subst this;have hboth:jDh (.slice t') (.slice t) l' l∧(nl=nl'∨nl= .unk∨(nl= .yes∧nl'= .no∧l≠[])):=by
        split at h
        · rename_i h3;refine⟨h,?_⟩;cases nl<;>cases nl'<;>simp_all [jyB]
        · split at h
          · exact⟨h.2,.inr (.inr ⟨rfl,rfl,h.1⟩)⟩
          · exact h.elim
      obtain⟨h,hnl⟩:=hboth;obtain⟨e,he⟩:=jqS h;have e':t'=t:=(by injection e);subst e';have:l'=l:=he;subst this;exact .inr (.inl ⟨_,_,_,_,_,_,_,rfl,ho,h2,hnl⟩)
    · rename_i ho
      split at h
      · rename_i h1 h2;subst h;simp only[jGT] at h2;exact .inr (.inr (.inl ⟨_,_,_,rfl,by simp,ho,h1,h2.1,jG6 h2.2⟩))
      · rename_i h1 h2;subst h;simp only[jGT] at h2;exact .inr (.inr (.inl ⟨_,_,_,rfl,by simp,ho,h1,h2.1,jG6 h2.2⟩))
      · exact h.elim
    · exact h.elim
  |map fz kt vt l=>
    cases ho:σ.obj o with
    |none=>simp only[jkg,ho] at h
    |some y=>
      cases y with
      |map fz' kt' vt' l'=>
        simp only[jkg,ho] at h;cases h1:jnS fz fz' with
        |false=>simp[h1] at h
        |true=>
          simp only[h1] at h;obtain⟨e,he⟩:=jqS h;obtain⟨e1,e2⟩:kt'=kt∧vt'=vt:=by injection e with a b;exact⟨a,b⟩
          subst e1;subst e2;have:l'=l:=he;subst this;exact .inr (.inr (.inr (.inl ⟨_,_,_,_,_,rfl,rfl,h1⟩)))
      |_=>simp only[jkg,ho] at h
  |iter kt vt left cur=>
    cases cur with
    |some x=>exact h.elim
    |none=>
      cases ho:σ.obj o with
      |none=>simp only[jkg,ho] at h
      |some y=>
        cases y with
        |iter kt' vt' left' cur'=>
          simp only[jkg,ho] at h;obtain⟨e,he⟩:=jqS h;obtain⟨e1,e2⟩:kt'=kt∧vt'=vt:=by injection e with a b;exact⟨a,b⟩
          subst e1;subst e2;have:left'=left:=he;subst this;exact .inr (.inr (.inr (.inr ⟨_,_,_,_,rfl,rfl⟩)))
        |_=>simp only[jkg,ho] at h
  |mape kt vt l k s=>exact h.elim
theorem jt0 {n:Nat} {a:Act} {ks os:List Nat} (h:sub σ τ ks os) (hk:∀s,s∉ks→τ.get s= .any∨τ.get s=σ.get s) (ho:∀o,o∉os→τ.obj o=none∨τ.obj o=σ.obj o)
    (hR:Rel P B n σ a w):Rel P B n τ a w:=by
  obtain⟨hs,hob⟩:=h;obtain⟨r1,r2,ρ,hS,hSl,hPin⟩:=hR
  let fzs:=os.filter fun o=>jpc (τ.obj o)
  obtain⟨ρ1,hS1,hle1,hb1,hn1⟩:=jP (σ:=σ) fzs hS
  let new:=os.filter fun o=>(σ.obj o).isNone&&(τ.obj o).isSome
  have mem_new:∀o,o∈new↔o∈os∧σ.obj o=none∧τ.obj o≠none:=by
    intro o;simp only[new,jHg,jGT,Option.isNone_iff_eq_none,Option.isSome_iff_ne_none]
  have born:∀o,o∈new→∃E t nl,τ.obj o=some (.row E t false nl [])∧nl≠.no∧jgw o σ.sl=true∧vF o σ.ob=true∧o<1000000:=by
    intro o hm;obtain⟨m1,m2,m3⟩:=(mem_new o).1 hm;cases hx:τ.obj o with
    |none=>exact absurd hx m3
    |some x=>
      rcases joN (jfM os hob o m1 x hx) with⟨_,_,_,_,_,_,e,_⟩|⟨_,_,_,_,_,_,_,_,e,_⟩|⟨E,t,nl,e,hn,_,f1,f2⟩|⟨_,_,_,_,_,_,e,_⟩|⟨_,_,_,_,_,e⟩
      · rw[m2] at e;cases e
      · rw[m2] at e;cases e
      · exact⟨E,t,nl,by rw[e],hn,f1,f2⟩
      · rw[m2] at e;cases e
      · rw[m2] at e;cases e
  let ρ2:Env:={H:=ρ1.H,blk:=fun o=>match τ.obj o with|none=>none|some _=>if o∈new then some none else ρ.blk o,len:=fun o=>if o∈new then 0 else ρ.len o}
  have hle:ρ.le ρ2 new:=⟨hle1.H,fun o p hn hp=>by
    simp only[ρ2] at hp
    split at hp
    · cases hp
    · rw[if_neg hn] at hp;exact hp,fun o hn=>by simp[ρ2,hn]⟩
  have hle':ρ1.le ρ2 new:=⟨fun _ _ h=>h,fun o p hn hp=>by rw[hb1];exact hle.blk o p hn hp,fun o hn=>by rw[hn1];exact hle.len o hn⟩;have hnew:∀o,o∈new→ρ2.blk o=some none∧ρ2.len o=0:=by
    intro o hm;obtain⟨E,t,nl,e,_⟩:=born o hm;simp only[ρ2];rw[e];simp[hm]
  have freshV:∀s o,o∈new→(σ.get s).refs o=false:=by
    intro s o hm;obtain⟨E,t,_,_,_,f,_⟩:=born o hm;unfold St.get
    split
    · rename_i v hv;exact jgv _ _ _ _ f (zk _ _ _ hv)
    · rfl
  have freshB:∀k T fz cs,σ.obj k=some (.box T fz cs)→∀o,o∈new→SV.refs.refsL o cs=false:=by
    intro k T fz cs hx o hm;obtain⟨E,t,_,_,_,_,f,_⟩:=born o hm;simp only[St.obj] at hx
    split at hx
    · rename_i y hy;subst hx;exact vE _ _ _ _ _ _ f (zk _ _ _ hy)
    · cases hx
  have blk2:∀o b Cp,ρ2.blk o=some (some (b,Cp))→ρ.blk o=some (some (b,Cp)):=by
    intro o b Cp h;by_cases hm:o∈new
    · rw[(hnew o hm).1] at h;simp at h
    · exact hle.blk o _ hm h
  have obj1:∀o,(σ.frz fzs).obj o=if o∈fzs then(σ.obj o).map z8 else σ.obj o:=ku σ fzs;have fzmem:∀o,o∈fzs↔o∈os∧jpc (τ.obj o)=true:=fun o=>by simp[fzs,jHg]
  refine⟨r1,r2,ρ2,⟨hS.os,hS.tape,hS.output,hS.drawn,hS.size,hS1.good,hS1.oldH,hS.old,?_,?_,?_,?_⟩,?_,hPin.mono hle (fun d hd=>by obtain⟨E,t,_,_,_,_,_,f⟩:=born d hd;exact f)⟩
  · intro o x hx;have hblk:o∉new→ρ2.blk o=ρ.blk o:=fun hn=>by simp only[ρ2];rw[hx];simp[hn]
    by_cases hm:o∈os
    · rcases joN (jfM os hob o hm x hx) with⟨T,fz,fz',cs,cs',rfl,e,e1,e2⟩|⟨E,t,fz,fz',nl,nl',l,rfl,e,e1,hnl⟩|⟨E,t,nl,rfl,hnn,e,_⟩|⟨kt,vt,fz,fz',l,rfl,e,e1⟩|⟨kt,vt,left,cur,rfl,e⟩
      · have hnn:o∉new:=fun hn=>by have:=((mem_new o).1 hn).2.1;rw[e] at this;cases this
        have e3:(σ.frz fzs).obj o=some (.box T fz cs'):=by
          rw[obj1];cases fz with
          |true=>rw[if_pos ((fzmem o).2 ⟨hm,by rw[hx];rfl⟩),e];rfl
          |false=>
            rw[if_neg (fun h=>by have:=((fzmem o).1 h).2;rw[hx] at this;simp[jpc] at this),e];cases fz'<;>simp_all [jnS]
        obtain⟨p,hp,hs2⟩:=hS1.obs o _ e3;refine⟨p,by rw[hblk hnn,←hb1];exact hp,?_⟩;simp only[j9] at hs2⊢;obtain⟨b,Cp,vs,rfl,k1,k2,k3,k4⟩:=hs2;refine⟨b,Cp,vs,rfl,k1,?_,k3,k4⟩;have hd:SV.denL P ρ cs' vs.toList:=by
          obtain⟨p',hp',hs3⟩:=hS.obs o _ e;rw[←hb1,hp] at hp';simp at hp';subst hp';simp only[j9] at hs3;obtain⟨b',C',vs',q0,q1,q2,_⟩:=hs3;simp at q0;obtain⟨rfl,rfl⟩:=q0;rw[k1] at q1;simp at q1;obtain⟨rfl,_⟩:=q1;exact q2
        exact jjE hS hle hnew e2 (freshB o T fz' cs' e) hd
      · have hnn:o∉new:=fun hn=>by have:=((mem_new o).1 hn).2.1;rw[e] at this;cases this
        have e3:(σ.frz fzs).obj o=some (.row E t fz nl' l):=by
          rw[obj1];cases fz with
          |true=>rw[if_pos ((fzmem o).2 ⟨hm,by rw[hx];rfl⟩),e];rfl
          |false=>
            rw[if_neg (fun h=>by have:=((fzmem o).1 h).2;rw[hx] at this;simp[jpc] at this),e];cases fz'<;>simp_all [jnS]
        obtain⟨p,hp,hs2⟩:=hS1.obs o _ e3;refine⟨p,by rw[hblk hnn,←hb1];exact hp,jN hle' hnn (fun _ _ _ e=>by cases e) (fun _ _ _=>⟨rfl,rfl⟩) ?_⟩;rcases hnl with rfl|rfl|⟨rfl,rfl,hne⟩
        · exact hs2
        rotate_left
        · simp only[j9] at hs2⊢;obtain⟨g1,g2,g3⟩:=hs2;refine⟨g1,g2,?_⟩;cases p with
          |none=>exact absurd rfl g3.2
          |some q=>exact⟨fun _=>hne,g3.2⟩
        · simp only[j9] at hs2⊢;obtain⟨g1,g2,g3⟩:=hs2;refine⟨g1,g2,?_⟩;cases p with
          |none=>exact⟨g3.1,by simp⟩
          |some q=>exact⟨fun h=>(by cases h),g3.2⟩
      · have hn:o∈new:=(mem_new o).2 ⟨hm,e,by rw[hx];simp⟩;refine⟨none,(hnew o hn).1,?_⟩;simp only[j9];exact⟨(hnew o hn).2,by simp,trivial,hnn⟩
      · have hnn:o∉new:=fun hn=>by have:=((mem_new o).1 hn).2.1;rw[e] at this;cases this
        have e3:(σ.frz fzs).obj o=some (.map fz kt vt l):=by
          rw[obj1];cases fz with
          |true=>rw[if_pos ((fzmem o).2 ⟨hm,by rw[hx];rfl⟩),e];rfl
          |false=>
            rw[if_neg (fun h=>by have:=((fzmem o).1 h).2;rw[hx] at this;simp[jpc] at this),e];cases fz'<;>simp_all [jnS]
        obtain⟨p,hp,hs2⟩:=hS1.obs o _ e3;refine⟨p,by rw[hblk hnn,←hb1];exact hp,jN hle' hnn (fun _ _ _ e=>by cases e) (fun _ _ _=>⟨rfl,rfl⟩) hs2⟩
      · have hnn:o∉new:=fun hn=>by have:=((mem_new o).1 hn).2.1;rw[e] at this;cases this
        have e3:(σ.frz fzs).obj o=some (.iter kt vt left cur):=by
          rw[obj1,if_neg (fun h=>by have:=((fzmem o).1 h).2;rw[hx] at this;simp[jpc] at this),e]
        obtain⟨p,hp,hs2⟩:=hS1.obs o _ e3;refine⟨p,by rw[hblk hnn,←hb1];exact hp,jN hle' hnn (fun _ _ _ e=>by cases e) (fun _ _ _=>⟨rfl,rfl⟩) ?_⟩;simp only[j9] at hs2⊢;obtain⟨b,C,y,q1,q2,q3,q4⟩:=hs2;refine⟨b,C,y,q1,q2,?_,q4⟩;unfold jfu at q3⊢
        split at q3
        · exact⟨q3.1,rfl⟩
        · obtain⟨es,clock,r1,r2,r3,r4,r5,r6,_⟩:=q3;exact⟨es,clock,r1,r2,r3,r4,r5,r6,trivial⟩
        · exact q3
    · rcases ho o hm with e|e
      · rw[hx] at e;cases e
      · have hnn:o∉new:=fun hn=>hm ((mem_new o).1 hn).1
        have e3:(σ.frz fzs).obj o=some x:=by
          rw[obj1,if_neg (fun h=>hm ((fzmem o).1 h).1),←e,hx]
        obtain⟨p,hp,hs2⟩:=hS1.obs o _ e3;exact⟨p,by rw[hblk hnn,←hb1];exact hp,jN hle' hnn (fun T fz cs e4 o' ho'=>freshB o T fz cs (by rw[←e,hx,e4]) o' ho') (fun _ _ _=>⟨rfl,rfl⟩) hs2⟩
  · intro o hx;simp only[ρ2];rw[hx]
  · intro o o' b C1 C2 h1 h2;exact hS.inj o o' b C1 C2 (blk2 _ _ _ h1) (blk2 _ _ _ h2)
  · intro o b Cp h1;exact hS.own o b Cp (blk2 _ _ _ h1)
  · intro s sv hv;have hg:τ.get s=sv:=(by unfold St.get;rw[hv]);have hd:SV.den P ρ (σ.get s) (a.tmps.getD s undef):=by
      have:=jK (a:=a) hSl (.tmp s);simpa only[jL,Act.eval] using this
    by_cases hm:s∈ks
    · rcases jhe ks hs s hm with e|e
      · rw[hg] at e;subst e;exact wg _
      · rw[hg] at e;exact jlP hS hle hnew e (fun o hn=>freshV s o hn) hd
    · rcases hk s hm with e|e
      · rw[hg] at e;subst e;exact wg _
      · rw[hg] at e;subst e;exact SV.den_mono hle _ _ (fun o hn=>freshV s o hn) hd
end
end Go.X
