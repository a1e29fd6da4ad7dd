/-
  Part 3 of the road: a checked reading of bodies, and what the functions on it do (X22 X23).
-/
import Derived.Test.YtnkahkkofmoipaaGreatDoorK02
import Derived.Deep.LoopGhost
import Derived.Scope
namespace Go.X
open Go.RowKit (Below)
def jff:Ex→Exit
  | .normal=> .normal
  | .ret=> .ret
  | .exit id=> .exit id
structure Ext (σ σ':St):Prop where
  sl:∃p,σ'.sl=p++σ.sl
  ob:∃p,σ'.ob=p++σ.ob
theorem Ext.refl (σ:St):Ext σ σ:=⟨⟨[],rfl⟩,⟨[],rfl⟩⟩
theorem Ext.trans {a b c:St} (h:Ext a b) (k:Ext b c):Ext a c:=by
  obtain⟨⟨p,hp⟩,⟨q,hq⟩⟩:=h;obtain⟨⟨p',hp'⟩,⟨q',hq'⟩⟩:=k;exact⟨⟨p'++p,by rw[hp',hp,jHc]⟩,⟨q'++q,by rw[hq',hq,jHc]⟩⟩
theorem jj0 (n:Nat) (σ:St):Ext σ (gc n σ):=by
  unfold gc
  split
  · exact Ext.refl σ
  · exact⟨⟨_,rfl⟩,⟨[],rfl⟩⟩
theorem jxE (s:Nat) (σ:St):Ext σ (jrL s σ):=by
  unfold jrL
  split
  case h_2=>exact Ext.refl σ
  split
  · exact Ext.refl σ
  · split
    case h_2=>exact Ext.refl σ
    exact⟨⟨_,(jHi).symm⟩,⟨[_,_],rfl⟩⟩
theorem jm3 (σ:St) (b j:Nat):Ext σ (jiH b j σ):=by
  unfold jiH
  split
  case h_2=>exact Ext.refl σ
  split
  case h_2=>exact Ext.refl σ
  split
  case h_2=>exact Ext.refl σ
  split
  case h_2=>exact Ext.refl σ
  exact⟨⟨_,rfl⟩,⟨[_,_,_],rfl⟩⟩
theorem juV (σ:St) (b j:Nat):Ext σ (jf5 b j σ):=by
  unfold jf5
  split
  case h_2=>exact Ext.refl σ
  split
  case h_2=>exact Ext.refl σ
  split
  case h_2=>exact Ext.refl σ
  split
  case h_2=>exact Ext.refl σ
  exact⟨⟨_,rfl⟩,⟨[_,_,_],rfl⟩⟩
theorem jjZ (b:Nat):∀(j:Nat) (σ:St),Ext σ (jkL b j σ)
  |0,σ=>Ext.refl σ
  |j+1,σ=>(jjZ b j σ).trans (juV _ b j)
theorem jgy (σ:St) (t:Nat):Ext σ (jf6 σ t):=by
  unfold jf6
  split
  · exact(jm3 σ _ _).trans (jjZ _ _ _)
  · exact jm3 σ _ _
  · exact Ext.refl σ
theorem juW (σ:St) (c:Callee):Ext σ (jl4 σ c):=by
  unfold jl4
  split
  · exact jgy σ _
  · exact Ext.refl σ
theorem juX (σ:St) (l:List Operand):Ext σ (jl5 σ l):=by
  unfold jl5
  split
  · exact jgy σ _
  · exact Ext.refl σ
theorem juU (σ:St) (t:Nat):Ext σ (jl3 σ t):=by
  unfold jl3
  split
  case h_2=>exact Ext.refl σ
  unfold jf5
  split
  case h_2=>exact Ext.refl σ
  split
  case h_2=>exact Ext.refl σ
  split
  case h_2=>exact Ext.refl σ
  split
  case h_2=>exact Ext.refl σ
  exact⟨⟨_,rfl⟩,⟨[_,_,_],rfl⟩⟩
theorem zL:∀(l:List Oper) (σ:St),Ext σ (w6 l σ)
  |[],σ=>Ext.refl σ
  |o::r,σ=>by
    simp only[w6]
    split
    · exact((jxE _ σ).trans (jgy _ _)).trans (zL r _)
    · exact((juX σ _).trans (juW _ _)).trans (zL r _)
    · exact(juU σ _).trans (zL r _)
    · exact zL r σ
theorem qB {C:Ctx} {ops:List Oper}:∀(l:List Oper) (rs rs':RS) (es:List Eff),yz C ops l rs=some (es,rs')→Ext rs.st rs'.st
  |[],rs,rs',es,h=>by simp[yz] at h;obtain⟨_,rfl⟩:=h;exact Ext.refl _
  |o::r,rs,rs',es,h=>by
    simp only[yz] at h
    split at h
    · cases h
    rename_i e he
    split at h
    · cases h
    split at h
    · cases h
    rename_i es' rs2 hr
    simp at h
    obtain⟨_,rfl⟩:=h
    exact Ext.trans ⟨⟨_,rfl⟩,⟨_,rfl⟩⟩ (qB r _ _ _ hr)
theorem jxF {C:Ctx} {ops:List Oper} {draw:Bool} {σ:St} {es:List Eff} {rs:RS} (h:ja1 C ops draw σ=some (es,rs)):Ext σ rs.st:=by
  cases draw with
  |false=>exact qB _ _ _ _ h
  |true=>
    simp only[ja1] at h
    split at h
    case h_2=>cases h
    rename_i aZ rs' ps hr hp
    split at h
    case h_2=>cases h
    simp at h;obtain⟨_,rfl⟩:=h;obtain⟨_,i2,_⟩:=jbU _ _ _ _ hr;subst i2;exact⟨⟨_,rfl⟩,⟨_,rfl⟩⟩
theorem jiT {α:Type} (x:α):∀(ws:List Nat) (s:Nat),jF (ws.map fun k=>(k,x)) s=none∨jF (ws.map fun k=>(k,x)) s=some x
  |[],s=> .inl rfl
  |k::r,s=>by
    simp only[jHU,jF]
    cases Nat.beq k s with
    |true=>exact .inr rfl
    |false=>exact jiT x r s
theorem jbh {α:Type}:∀(p q:List (Nat×α)) (k:Nat),k∈ki p→k∈jdU (p++q) q.length
  |[],q,k,h=>by simp[ki] at h
  | (j,x)::p,q,k,h=>by
    simp only[jHi,jdU]
    have:Nat.ble ((p++q).length+1) q.length=false:=by
      cases hb:Nat.ble ((p++q).length+1) q.length with
      |false=>rfl
      |true=>have:=jG6 hb;simp at this;omega
    rw[this];simp only[ki,jGS] at h;rcases h with rfl|h
    · exact(zP _ _ _).2 (.inl (by simp))
    · exact(zP _ _ _).2 (.inr (jbh p q k h))
section
variable {P:Program} {B:zF} {C:Ctx}
theorem jwd (L:jgP) (ws:List Nat) (σ:St) (x:L.X) (s:Nat) (h:s∉ki (L.sl x)):(zu L ws σ x).get s= .any∨(zu L ws σ x).get s=σ.get s:=by
  unfold St.get zu;simp only;rw[jk,jy _ _ h];simp only;rw[jk];rcases jiT SV.any ws s with e|e
  · rw[e];exact .inr rfl
  · rw[e];exact .inl rfl
theorem jhP (L:jgP) (ws:List Nat) (σ:St) (x:L.X) (s:Nat) (h:s∉ki (L.sl x)):jF (zu L ws σ x).sl s=jF (ws.map (fun s=>(s,SV.any))++σ.sl) s:=by
  unfold zu;simp only;rw[jk,jy _ _ h]
theorem jbi (L:jgP) (ws:List Nat) (σ:St) (x:L.X) (s:Nat) (h:s∉ki (L.ob x)):jF (zu L ws σ x).ob s=jF (ws.map (fun s=>(s,(none:Option Ob)))++σ.ob) s:=by
  unfold zu;simp only;rw[jk,jy _ _ h]
theorem jwc (L:jgP) (ws:List Nat) (σ:St) (x:L.X) (o:Nat) (h:o∉ki (L.ob x)):(zu L ws σ x).obj o=none∨(zu L ws σ x).obj o=σ.obj o:=by
  simp only[St.obj];rw[jbi L ws σ x o h,jk];rcases jiT (none:Option Ob) ws o with e|e
  · rw[e];exact .inr rfl
  · rw[e];exact .inl rfl
theorem jxb (hC:C.ok P) {ops:Array Oper} {d:Nat} {it:Operand} {r:List Oper} {σ:St} {K:Ex→St→Prop} {Q:Exit→Act→World→Prop} {a:Act} {w:World}
    (hop:jzI ops.toList=some (d,it,r)) (h:jzH C ops.toList r d it σ K) (hR:Rel P B C.n σ a w)
    (hQ:∀σ' a' w',Ext σ σ'→K .normal σ'→Rel P B C.n σ' a' w'→Q .normal a' w'):jy9 P ops false Q a w:=by
  unfold jzI at hop
  split at hop
  · cases hop
  rename_i o rr hl
  split at hop
  case h_2=>cases hop
  rename_i it' d' e1 e2 e3;simp at hop;obtain⟨rfl,rfl,rfl⟩:=hop;unfold jzH at h
  split at h
  case h_2=>exact h.elim
  rename_i ob hfr hit;have hfr:d'<C.n:=jG6 hfr
  split at h
  case h_2=>exact h.elim
  rename_i kt vt left cur ho;obtain⟨hover,hnext⟩:=h;obtain⟨hd,hn,ρ,hS,hSl,hPin⟩:=hR;show wpList P ops Q ops.toList a w;rw[hl];have hw:Region.wanted o (yielded ops a.tmps)=true:=(by simp[Region.wanted,e3]);unfold wpList;rw[if_pos hw];refine .inl ?_;have hden:=jK (P:=P) (ρ:=ρ) hSl it';rw[hit] at hden;obtain⟨p,hp,hs⟩:=hS.obs ob _ ho;simp only[j9] at hs;obtain⟨b,Cp,y,rfl,k1,k2,k3⟩:=hs;simp only[SV.den] at hden;obtain⟨b',C',f1,f2⟩:=hden _ hp;simp at f1;obtain⟨rfl,rfl⟩:=f1;have hg:(∀c T fr,y≠.cells c T fr)→(getObj b).run P w= .ok y w:=fun hne=>by
    cases y with
    |cells c T fr=>exact absurd rfl (hne c T fr)
    |_=>simp[getObj,Sem.run,k1]
  have hblt:b<w.heap.size:=(jGZ.1 k1).1;have rest:∀(σ2:St) (a2:Act) (w2:World),Ext σ σ2→jdE C ops.toList rr σ.ob.length σ2 K→Rel P B C.n σ2 a2 w2→wpList P ops Q rr a2 w2:=by
    intro σ2 a2 w2 hE hv hR2;unfold jdE at hv
    split at hv
    · exact hv.elim
    rename_i ss rs hr;obtain⟨g1,g2,ρ2,g3,g4,g5⟩:=hR2;refine wH hC _ _ _ _ _ _ hr hv ⟨g1,g2,ρ2,g3,g4,(fun s g v hm=>by simp at hm),g5⟩ (fun hk' a' w' hI'=> ?_);obtain⟨i1,i2,ρ3,i3,i4,_,i5⟩:=hI';have e1:=qB _ _ _ _ hr;exact hQ _ a' w' (hE.trans (e1.trans ((jj0 _ _).trans (zL _ _)))) hk' (zJ _ (jjG ⟨i1,i2,ρ3,i3,i4,i5⟩))
  have slotsPut:∀(ρ2:Env) (sv:SV) (v:Value),ρ.le ρ2 []→SV.den P ρ2 sv v→jih P ρ2 ((d',sv)::σ.sl) (a.put o.dst v):=by
    intro ρ2 sv v hle hv s x hx;rw[e2];simp only[Act.put];by_cases hs:s=d'
    · subst hs;rw[jH] at hx;simp at hx;subst hx;simp only[jG0,jG7];simp only[if_true];rw[if_pos (by rw[hn];exact hfr)];exact hv
    · rw[jw (fun h=>hs h.symm)] at hx;simp only[jG0,jG7];rw[if_neg (fun h=>hs h.symm)];have:=SV.den_mono hle _ _ (fun r hr=>by simp at hr) (hSl s x hx);simpa only[jG0] using this
  have szPut:∀v,(a.put o.dst v).tmps.size=C.n∧(a.put o.dst v).defers=[]:=by
    intro v;rw[e2];simp only[Act.put];exact⟨by simpa using hn,hd⟩
  have over:∀w2:World,Sat P B ρ σ.obj w2→left=[]→(execOp a.eval o).run P w= .ok (.value (.tuple #[.bool false])) w2→o.wp P a w (wpList P ops Q rr) Q:=by
    intro w2 hS2 hl0 hrun;unfold Oper.wp;rw[hrun];simp only[Oper.upon];refine rest ⟨(d',.tup [.dat .bool false])::σ.sl,σ.ob⟩ _ _ ⟨⟨[_],rfl⟩,⟨[],rfl⟩⟩ (hover hl0) ⟨(szPut _).2,(szPut _).1,ρ,hS2,slotsPut ρ _ _ (Env.le.refl _ _) ?_,hPin⟩;simp only[SV.den,SV.denL];exact⟨_,rfl,_,_,rfl,w5 _,rfl⟩
  unfold jfu at k2
  split at k2
  · refine over w hS k2.1 ?_;simp[execOp,e1,Instr.next,f2,hg (by intros;simp)]
  · rename_i m since seen stepped;obtain⟨es,clock,h1,h2,h3,h4,h5,⟨fs,h6,h7,h8⟩,_⟩:=k2;have hm:w.heap[m]? =some (.map es clock):=hS.good.1 m _ h1;have hg2:(getObj m).run P w= .ok (.map es clock) w:=(by simp[getObj,Sem.run,hm]);have hchk:(!seen.isEmpty&& !es.isEmpty&&es.all (fun x=>decide (x.born≥stepped)))=false:=by
      rcases h5 with rfl|rfl
      · simp
      · cases hes:es.isEmpty with
        |true=>simp
        |false=>
          have:∃e,es[0]? =some e:=by
            have:0<es.size:=by
              cases h0:es.size with
              |zero=>simp[Array.isEmpty,h0] at hes
              |succ n=>omega
            exact⟨es[0],jHe this⟩
          obtain⟨e0,he0⟩:=this;have hb:=h3 0 e0 he0;have:es.all (fun x=>decide (x.born≥stepped))=false:=by
            rw[Array.all_eq_false];obtain⟨hlt,hx⟩:=jGZ.1 he0;exact⟨0,hlt,by rw[hx];simp;omega⟩
          simp[this]
    have hleft:(es.filter fun e=> !seen.contains e.born)=fs.toArray:=by
      rw[h6,←jHb];simp
    have hborn:∀e,e∈fs→e.born<since:=by
      intro e he;rw[h6,jHg] at he;obtain⟨i,hi⟩:=jH5 he.1;have:=h3 i e (by simpa using hi);omega
    have hold:(fs.toArray.filter fun x=>decide (x.born<since))=fs.toArray:=by
      rw[←jHb];simp only[Array.toList_filter];rw[List.filter_eq_self.2];intro e he;simpa using hborn e he
    have hnew:(fs.toArray.filter fun x=>decide (x.born≥since))= #[]:=by
      rw[←jHb];simp only[Array.toList_filter];rw[List.filter_eq_nil_iff.2];intro e he;have:=hborn e (by simpa using he);simp;omega
    cases hfs:fs with
    |nil=>
      have hl0:left=[]:=(by rw[hfs] at h7;exact List.length_eq_zero_iff.1 h7.symm);rw[hfs] at hleft;refine over w hS hl0 ?_;have hN:(Instr.next (a.eval it') false o.type).run P w= .ok (.tuple #[.bool false]) w:=by
        rw[f2];unfold Instr.next;simp only[Sem.run_bind,hg (by intros;simp),Result.andThen_ok,hg2,hchk,Bool.false_eq_true,if_false,hleft];simp[Question.forced]
      simp[execOp,e1,hN]
    |cons f0 fr=>
      have hne:fs≠[]:=(by rw[hfs];simp);have hrun0:∃(c:Nat) (w1:World),c<fs.length∧(choose (.mapNext fs.length)).run P w= .ok c w1∧(w1=w∨w1={w with drawn:=w.drawn+1}):=by
        have hpos:0<fs.length:=List.length_pos_iff.2 hne;rw[run_choose]
        split
        · exact⟨0,w,hpos,rfl,.inl rfl⟩
        · refine⟨_,_,?_,rfl,.inr rfl⟩;simp only[Question.cut];exact Nat.mod_lt _ hpos
      obtain⟨c,w1,hc,hrun,hw1⟩:=hrun0;obtain⟨e,he⟩:∃e,fs[c]? =some e:=⟨fs[c],jGY hc⟩;obtain⟨x,hx⟩:∃x,left[c]? =some x:=⟨left[c],jGY (by omega)⟩;obtain⟨e',q1,q2,q3⟩:=h8 c x hx;rw[he] at q1;simp at q1;subst q1;have hS1:Sat P B ρ σ.obj w1:=(by rcases hw1 with rfl|rfl;exact hS;exact jhk hS);have k1':w1.heap[b]? =some (.mapIter (some m) since seen stepped):=by rcases hw1 with rfl|rfl<;>exact k1
      have hset:∀y:Obj,(setObj b y).run P w1= .ok () {w1 with heap:=w1.heap.setIfInBounds b y}:=fun y=>by simp[setObj,Sem.run,k1']
      have hexec:(execOp a.eval o).run P w= .ok (.value (.tuple #[.bool true,e.key,e.val])) {w1 with heap:=w1.heap.setIfInBounds b (.mapIter (some m) since (seen.push e.born) clock)}:=by
        have hemp:fs.toArray.isEmpty=false:=(by rw[hfs];rfl);have hN:(Instr.next (a.eval it') false o.type).run P w= .ok (.tuple #[.bool true,e.key,e.val]) {w1 with heap:=w1.heap.setIfInBounds b (.mapIter (some m) since (seen.push e.born) clock)}:=by
          rw[f2];unfold Instr.next;have hcand:((if fs.toArray.isEmpty=true then #[none] else #[])++Array.map some (fs.toArray++(#[]:Array MapEntry)))=fs.toArray.map some:=by
            rw[hemp];simp
          simp only[Sem.run_bind,hg (by intros;simp),Result.andThen_ok,hg2,hchk,Bool.false_eq_true,if_false,hleft,hold,hnew];rw[hcand];have hsz:(fs.toArray.map some).size=fs.length:=(by simp);rw[hsz,hrun];simp[he,hset]
        simp[execOp,e1,hN]
      have hsplit:left=left.take c++x::left.drop (c+1):=by
        have hlt:c<left.length:=(by omega);have:left[c]=x:=by
          rw[jGY hlt] at hx;simpa using hx
        rw[←this,←List.drop_eq_getElem_cons hlt,jH9]
      unfold Oper.wp;rw[hexec];simp only[Oper.upon];have hS2:=jdz (w':={w1 with heap:=w1.heap.setIfInBounds b (.mapIter (some m) since (seen.push e.born) clock)}) hS1 hp k3 (.iter kt vt (left.take c++left.drop (c+1)) (some x))
        ⟨rfl,rfl,rfl,jGU _,by simp,fun j hj=>(by show(w1.heap.setIfInBounds b _)[j]? =_;rw[jG7,if_neg (fun h=>hj h.symm)])⟩ (by
        simp only[j9];refine⟨b,Cp,.mapIter (some m) since (seen.push e.born) clock,rfl,(by have:b<w1.heap.size:=(jGZ.1 k1').1;simp[this]),?_,k3⟩;have hmem:e∈fs:=jHP he;have hmem':e∈es.toList:=(by rw[h6,jHg] at hmem;exact hmem.1);have inj:∀g,g∈fs→g.born=e.born→g=e:=by
          intro g hg hb;rw[h6,jHg] at hg;obtain⟨i,hi⟩:=jH5 hg.1;obtain⟨j,hj⟩:=jH5 hmem';have:=h4 i j g e (by simpa using hi) (by simpa using hj) hb;subst this;rw[hi] at hj;simpa using hj
        have nodup:∀(i j:Nat) (g:MapEntry),fs[i]? =some g→fs[j]? =some g→i=j:=by
          have hpw:es.toList.Pairwise (fun g g'=>g.born≠g'.born):=by
            rw[jHV];intro i j hi hj hij hh;have:=h4 i j es.toList[i] es.toList[j] (by simp) (by simp) hh;omega
          have hpf:fs.Pairwise (fun g g'=>g.born≠g'.born):=(by rw[h6];exact hpw.sublist List.filter_sublist);rw[jHV] at hpf;intro i j g hi hj;obtain⟨hi1,hi2⟩:=jGW.1 hi;obtain⟨hj1,hj2⟩:=jGW.1 hj;rcases Nat.lt_trichotomy i j with h|h|h
          · exact absurd (by rw[hi2,hj2]) (hpf i j hi1 hj1 h)
          · exact h
          · exact absurd (by rw[hi2,hj2]) (hpf j i hj1 hi1 h)
        have hfs':es.toList.filter (fun g=> !(seen.push e.born).contains g.born)=fs.take c++fs.drop (c+1):=by
          have:es.toList.filter (fun g=> !(seen.push e.born).contains g.born)=fs.filter (fun g=> !(g.born==e.born)):=by
            rw[h6,List.filter_filter];congr 1;funext g;by_cases hb:g.born=e.born<;>simp[hb]
          rw[this];have hsp:fs=fs.take c++e::fs.drop (c+1):=by
            have:fs[c]=e:=(by rw[jGY hc] at he;simpa using he);rw[←this,←List.drop_eq_getElem_cons hc,jH9]
          have hpre:∀g,g∈fs.take c→¬(g.born==e.born)=true:=by
            intro g hg hb;obtain⟨i,hi⟩:=jH5 hg;have hil:i<c:=(by have:=(jGW.1 hi).1;simp at this;omega);rw[jHd hil] at hi;have:=inj g (jHP hi) (by simpa using hb);subst this;have:=nodup i c g hi he;omega
          have hpost:∀g,g∈fs.drop (c+1)→¬(g.born==e.born)=true:=by
            intro g hg hb;obtain⟨i,hi⟩:=jH5 hg;rw[jHw] at hi;have:=inj g (jHP hi) (by simpa using hb);subst this;have:=nodup (c+1+i) c g hi he;omega
          conv=>lhs;rw[hsp]
          rw[List.filter_append,List.filter_cons];simp only[beq_self_eq_true,Bool.not_true,Bool.false_eq_true,if_false];rw[List.filter_eq_self.2 (fun g hg=>by simpa using hpre g hg),List.filter_eq_self.2 (fun g hg=>by simpa using hpost g hg)]
        refine⟨es,clock,h1,h2,h3,h4,.inr rfl,⟨_,rfl,?_,fun i y hy=> ?_⟩,rfl,e,hmem',by simp,q2,q3⟩
        · rw[hfs'];simp;omega
        · rw[hfs'];by_cases hi:i<c
          · have hlt:i<(left.take c).length:=(by simp;omega);rw[jG4 hlt,jHd hi] at hy;rw[jG4 (by simp;omega),jHd hi];exact h8 i y hy
          · rw[jG3 (by simp;omega),jHw] at hy;rw[jG3 (by simp;omega),jHw];simp only[jHj] at hy⊢;rw[show min c fs.length=c by omega];rw[show min c left.length=c by omega] at hy;exact h8 _ y hy)
      refine rest ⟨(d',.tup [.dat .bool true,.dat kt x.1,.dat vt x.2])::σ.sl,(ob,some (.iter kt vt (left.take c++left.drop (c+1)) (some x)))::σ.ob⟩ _ _ ⟨⟨[_],rfl⟩,⟨[_],rfl⟩⟩ (hnext _ x _ hsplit) ⟨(szPut _).2,(szPut _).1,ρ,by rw[←wt] at hS2;exact hS2,slotsPut ρ _ _ (Env.le.refl _ _) ?_,hPin⟩;simp only[SV.den,SV.denL];exact⟨_,rfl,_,_,rfl,w5 _,_,_,rfl,q2,_,_,rfl,q3,rfl⟩
  · exact k2.elim
theorem jmG {done:List Nat}:∀(l:List Edge),(∀e,e∈l→Region.binds .any e=true→jaH done e.on=true)→jpa done l=true
  |[],_=>rfl
  |e::r,h=>by
    have ih:=jmG r (fun e he hb=>h e (by simp[he]) hb)
    simp only[jpa]
    split
    · exact ih
    · rename_i hb
      rw[h e (by simp) hb]
      exact ih
theorem jsS {C:Ctx} {ops:List Oper} {done:List Nat} {rs:RS} {rec:List Nat→RS→Prop}:∀(l:List Oper) (n:Nat),jce C ops done rs rec l n→∀j o,l[j]? =some o→jaH done (n+j)=false→jpa done o.after.toList=true→jyD C ops o rs (rec ((n+j)::done))
  |[],_,_,j,o,hj,_,_=>by simp at hj
  |x::l,n,h,j,o,hj,hd,hn=>by
    simp only[jce] at h
    cases j with
    |zero=>
      simp at hj;subst hj
      rw[jH4] at hd⊢
      rw[hd,hn] at h
      exact h.1
    |succ j=>
      have hj':l[j]? =some o:=by simpa using hj
      have h':jce C ops done rs rec l (n+1):=by
        split at h
        · exact h
        · split at h
          · exact h
          · exact h.2
      rw[show n+(j+1)=(n+1)+j from by omega] at hd⊢;exact jsS l (n+1) h' j o hj' hd hn
theorem juY (hC:C.ok P) {ops:Array Oper} {o:Oper} {rs:RS} {a:Act} {w:World} {x:jvu} (h:juZ C ops.toList o rs=some x) (hI:Inv P B C.n ops rs a w) {K:Act→World→Prop} {Q:Exit→Act→World→Prop}
    (hK:∀(s:Int) a' w',Inv P B C.n ops (zp (jeE x s) rs) a' w'→K a' w'):if Region.wanted o (yielded ops a.tmps) then o.wp P a w K Q else K (a.put o.dst undef) w:=by
  unfold juZ at h
  split at h
  case h_2=>cases h
  rename_i U m ix d hop hgd hdst
  split at h
  case h_2=>cases h
  rename_i ti tk te ob hmp hm
  split at h
  case h_2=>cases h
  rename_i kt vt l ho
  split at h
  case h_2=>cases h
  rename_i l' k hc hk hfr hokd;simp at h;subst h;obtain⟨e,rfl⟩:=jl hc;obtain⟨e1,e2⟩:kt=tk.ty∧vt=te.ty:=by injection e with a b;exact⟨a,b⟩
  subst e1;subst e2;have hcast:qU e l=l:=rfl;have hw:Region.wanted o (yielded ops a.tmps)=true:=(by simp[Region.wanted,hgd]);rw[if_pos hw];obtain⟨hd,hn,ρ,hS,hSl,hG,hPin⟩:=hI;have hmv:=jK (P:=P) (a:=a) hSl m;rw[hm] at hmv;simp only[SV.den] at hmv;have hkr:=jM hS (fz:=[]) (fun o=>⟨.inl rfl,fun ho=>by simp at ho⟩) hk (fun o ho=>ho) (jK (P:=P) (a:=a) hSl ix);obtain⟨p,hp,hs⟩:=hS.obs ob _ ho;simp only[j9,fzM] at hs;obtain⟨b,Cp,es,clock,rfl,k1,k2,k3⟩:=hs;obtain⟨b',C',f1,f2⟩:=hmv _ hp;simp at f1;obtain⟨rfl,rfl⟩:=f1;have hblt:b<w.heap.size:=(jGZ.1 k1).1;obtain⟨v,s,es',clock',r1,r2,r3,r4⟩:=jyW (P:=P) hC hmp k1 k2 hkr;have hrun:(execOp a.eval o).run P w= .ok (.value (.tuple #[v,.int .i64 s])) {w with heap:=w.heap.setIfInBounds b (.map es' clock')}:=by
    simp[execOp,hop,f2,r1]
  unfold Oper.wp;rw[hrun];simp only[Oper.upon];rw[hcast] at hK;refine hK s _ _ (jgo (C:=C) (gv:= .any) (sv:= .tup [.dat te.ty (wc te.ty.dflt (zC tk.ty k l)),.dat .int s]) (ρ'':=ρ) hd hn hSl hG hPin ?_ (Env.le.refl _ _) ?_ (fun d' hd'=> ?_) ?_ (fun d' _=> ?_) (fun x hx=>by simp[jeE] at hx) (fun d g _ hg=>by rw[hgd] at hg;cases hg))
  · have:=jdz hS hp k3 (.mape tk.ty te.ty l k s) (w':={w with heap:=w.heap.setIfInBounds b (.map es' clock')}) ⟨rfl,rfl,rfl,jGU _,by simp,fun j hj=>(by show(w.heap.setIfInBounds b _)[j]? =_;rw[jG7,if_neg (fun h=>hj h.symm)])⟩ (by
      simp only[j9];exact⟨b,Cp,es',clock',rfl,by simp[hblt],r2,k3,r4⟩)
    rw[←wt] at this;exact this
  · exact⟨fun d' hd'=>by rw[hdst] at hd';simp at hd';subst hd';exact jG6 hfr,fun d' hd'=>(jb3 hokd hd').1,fun d' hd'=>(jb3 hokd hd').2,fun d' hd'=>by simp[jeE] at hd',
      fun hor=>by rcases hor with hor|hor<;>simp[jeE,jdX,hop] at hor⟩
  · rw[hdst] at hd';simp at hd';subst hd';exact jG6 hfr
  · simp[jeE,jrC,hdst]
  · simp only[SV.den,SV.denL];exact⟨_,rfl,_,_,rfl,r3,_,_,rfl,w9 _,rfl⟩
theorem jmc (hC:C.ok P) {ops:Array Oper} {σ0:St} {ps:List (List Nat)} (hps:qg ops.toList []=some ps) {K:RS→Prop} {Q:Exit→Act→World→Prop}
    (hQ:∀rs a w,Ext σ0 rs.st→K rs→Inv P B C.n ops rs a w→Q .normal a w):
    ∀(fuel:Nat) (done:List Nat) (listed:Array Bool) (rs:RS) (a:Act) (w:World),listed.size=ops.size→cnt ops.size listed=fuel→(∀k,k∈done↔listed.getD k false=true)→Ext σ0 rs.st→
      jp9 C ops.toList K fuel done rs→Inv P B C.n ops rs a w→wpAny P .any ops Q fuel listed a w:=by
  intro fuel
  induction fuel with
  |zero=>
    intro done listed rs a w hs hc hdn hE h hI;refine⟨?_,hQ rs a w hE h hI⟩;rw[List.eq_nil_iff_forall_not_mem];intro i hi;obtain⟨o,h1,h2,_⟩:=(jbd hs).1 hi;have hlt:=(jGW.1 h1).1;have:=jIf.1 hc i (by simpa using hlt);simp[h2] at this
  |succ fuel ih=>
    intro done listed rs a w hs hc hdn hE h hI;refine⟨fun hr=> ?_,fun i hi=> ?_⟩
    · exfalso;have:cnt ops.size listed=0:=by
        refine jIf.2 (fun k hk=> ?_);have:=jeM hps hs hr (k+1) k (by omega) (by simpa using hk);simp[this]
      omega
    obtain⟨o,h1,h2,h3⟩:=(jbd hs).1 hi;have hlt:i<ops.size:=(by have:=(jGW.1 h1).1;simpa using this);have hnd:jaH done i=false:=by
      cases hb:jaH done i with
      |false=>rfl
      |true=>have:=(hdn i).1 ((kA _ _).1 hb);rw[h2] at this;cases this
    have hstep:=jsS ops.toList 0 h i o h1 (by rw[jHX];exact hnd) (jmG _ (fun e he hb=>(kA _ _).2 ((hdn e.on).2 (h3 e he hb))));rw[jHX] at hstep;have hset:∀k,(listed.setIfInBounds i true).getD k false=if k=i then true else listed.getD k false:=jhX (by omega);have hcnt:cnt ops.size (listed.setIfInBounds i true)=fuel:=by
      have:=jjc (p:=fun k=> !(listed.getD k false)) (q:=fun k=> !((listed.setIfInBounds i true).getD k false)) (i:=i) (by simp[h2]) (by simp[hset]) (fun y hy=>by simp only[hset,if_neg hy]) ops.size;rw[if_pos hlt] at this;unfold cnt at hc⊢;omega
    have hdn':∀k,k∈i::done↔(listed.setIfInBounds i true).getD k false=true:=by
      intro k;rw[hset,jGS];by_cases e:k=i
      · simp[e]
      · rw[if_neg e,←hdn k];simp[e]
    unfold wpOp;have hoi:ops[i]? =some o:=(by simpa using h1);rw[hoi];simp only;have fin:(if Region.wanted o (yielded ops a.tmps) then o.wp P a w (wpAny P .any ops Q fuel (listed.setIfInBounds i true)) Q else wpAny P .any ops Q fuel (listed.setIfInBounds i true) (a.put o.dst undef) w):=by
      unfold jyD at hstep
      split at hstep
      · split at hstep
        · rename_i x hx;exact juY hC hx hI (fun s a' w' hI'=>ih (i::done) _ _ a' w' (by simpa using hs) hcnt hdn' (hE.trans ⟨⟨_,rfl⟩,⟨_,rfl⟩⟩) (hstep s) hI')
        · exact hstep.elim
      · split at hstep
        · exact hstep.elim
        rename_i e he
        split at hstep
        · exact hstep.elim
        rename_i hf;obtain⟨hvc,hk⟩:=jbF [e] hstep;exact yL hC he (vG hf) (Fit.refl P B rs e) hI (hvc e (by simp)) (fun a' w' hI' _=>ih (i::done) _ _ a' w' (by simpa using hs) hcnt hdn' (hE.trans ⟨⟨_,rfl⟩,⟨_,rfl⟩⟩) hk hI')
    split
    · rename_i hw;rw[if_pos hw] at fin;exact .inl fin
    · rename_i hw;rw[if_neg hw] at fin;exact fin
theorem jzT (hC:C.ok P) {ops:Array Oper} {σ:St} {K:Ex→St→Prop} {Q:Exit→Act→World→Prop} {a:Act} {w:World}
    (h:jEd C ops.toList σ K) (hR:Rel P B C.n σ a w) (hQ:∀σ' a' w',Ext σ σ'→K .normal σ'→Rel P B C.n σ' a' w'→Q .normal a' w'):jy9 P ops true Q a w:=by
  unfold jEd at h
  split at h
  case h_2=>exact h.elim
  rename_i d U body m ps hsp hps
  split at h
  case h_2=>exact h.elim
  rename_i ti tk te aZ rsF hmp htl hrun
  split at h
  case h_2=>exact h.elim
  rename_i es hord hent haside hnew;obtain⟨i1,i2,i3⟩:=jbU _ _ _ _ hrun;obtain⟨hvc,hnd,hk⟩:=jbF _ h;obtain⟨j1,j2⟩:=jm4 _ _ _ _ hent;obtain⟨o,b',f,s1,s2,s3,s4,s5,s6⟩:=jqt hsp;have hlen:ops.size=body.length+m:=by
    have:ops.toList.length=body.length+m:=(by rw[s1,←s6,jHa]);simpa using this
  subst i2;have L:jyd P C ops aZ ⟨σ,[]⟩ ps body m d U tk te es:=by
    refine⟨hC,⟨ti,hmp⟩,fun k o' hk=> ?_,hlen,⟨o,by rw[s2];rfl,s3,s4,s5⟩,hps,fun k p hk hp=>jlN ps 0 body.length htl k p hp (by omega),i3,i1,hord,j2,j1,fun k o' x hk ho hx hi=> ?_,hnd,hnew,fun y hy=>hvc y.e (List.mem_map_of_mem hy)⟩
    · rw[s1,jG4 (jGW.1 hk).1];exact hk
    · obtain⟨k,rfl⟩:∃q,k=q+1:=⟨k-1,by omega⟩;exact jpv _ _ haside k o' x (by rw[List.getElem?_tail];exact ho) (by rw[List.getElem?_tail];exact hx) hi
  show wpAny P .any ops Q ops.size (Array.replicate ops.size false) a {w with drawn:=w.drawn+1};obtain⟨h1,h2,ρ,h3,h4,h5⟩:=hR;have hrep:∀k,(Array.replicate ops.size false).getD k false=false:=fun k=>by
    simp only[jG0,jIc]
    split<;>simp
  have hE:Ext σ (bld (fun _=>true) aZ ⟨σ,[]⟩).st:=⟨⟨_,rfl⟩,⟨_,rfl⟩⟩;refine L.go (fun l a' w' listed hl hs hm hI=> ?_) ops.size _ a _ (by simp) ?_ (fun k hk=>by rw[hrep] at hk;cases hk) (fun k o' _ hk=>by simp only[hrep] at hk;cases hk) ⟨B,none,jor.refl B,⟨h1,h2,ρ,?_,?_,fun s g v hm=> ?_,h5⟩,hrep 0⟩
  · refine jmc hC (σ0:=σ) hps (fun rs a' w' hE hk hI=> ?_) m (jDC body.length) listed _ a' w' hs ?_ hm (hE.trans ⟨⟨[_],rfl⟩,⟨[_],rfl⟩⟩) (hk l hl) hI
    · obtain⟨i1,i2,ρ',i3,i4,_,i5⟩:=hI;exact hQ _ a' w' (hE.trans ((jj0 _ _).trans (zL _ _))) hk (zJ _ (jjG ⟨i1,i2,ρ',i3,i4,i5⟩))
    · rw[hlen];exact jnb (fun k hk=>(hm k).1 ((jkK _ _).2 hk)) (fun k hk=>(jkK _ _).1 ((hm k).2 hk))
  · unfold cnt;rw[List.countP_eq_length.2 (fun k hk=>by simp[hrep])];simp
  · rw[jeK aZ ⟨σ,[]⟩ hrep];exact jhk h3
  · rw[jeK aZ ⟨σ,[]⟩ hrep];exact h4
  · rw[jeK aZ ⟨σ,[]⟩ hrep] at hm;simp[lvO] at hm
theorem jua (hC:C.ok P) {ops:Array Oper} {draw:Bool} {σ:St} {K:Ex→St→Prop} {Q:Exit→Act→World→Prop} {a:Act} {w:World}
    (h:jDZ C ops.toList draw σ K) (hR:Rel P B C.n σ a w) (hQ:∀σ' a' w',Ext σ σ'→K .normal σ'→Rel P B C.n σ' a' w'→Q .normal a' w'):jy9 P ops draw Q a w:=by
  unfold jDZ at h
  split at h
  case h_3=>exact h.elim
  case h_2=>exact jzT hC h hR hQ
  rename_i ps _ hps;show wpAny P .any ops Q ops.size (Array.replicate ops.size false) a {w with drawn:=w.drawn+1};obtain⟨h1,h2,ρ,h3,h4,h5⟩:=hR;refine jmc hC (σ0:=σ) hps (fun rs a' w' hE hk hI=> ?_) ops.size [] _ ⟨σ,[]⟩ a _ (by simp) ?_ (fun k=> ?_) (Ext.refl σ) (by simpa using h) ⟨h1,h2,ρ,jhk h3,h4,(fun s g v hm=>by simp at hm),h5⟩
  · obtain⟨i1,i2,ρ',i3,i4,_,i5⟩:=hI;exact hQ _ a' w' (hE.trans ((jj0 _ _).trans (zL _ _))) hk (zJ _ (jjG ⟨i1,i2,ρ',i3,i4,i5⟩))
  · unfold cnt;rw[List.countP_eq_length.2 (fun k hk=> ?_)]
    · simp
    · simp only[jG0,jIc]
      split<;>simp
  · simp only[jG0,jIc]
    split<;>simp
theorem jaD (hC:C.ok P) {ops:Array Oper} {draw:Bool} {σ:St} {K:Ex→St→Prop} {Q:Exit→Act→World→Prop} {a:Act} {w:World}
    (h:jht C ops.toList draw σ K) (hR:Rel P B C.n σ a w) (hQ:∀σ' a' w',Ext σ σ'→K .normal σ'→Rel P B C.n σ' a' w'→Q .normal a' w'):jy9 P ops draw Q a w:=by
  unfold jht at h
  split at h
  · exact jua hC h hR hQ
  rename_i es rs hr;refine jrM hC hr h hR (fun hk a' w' hR'=> ?_);have e1:=jxF hr;exact hQ _ a' w' (e1.trans ((jj0 _ _).trans (zL _ _))) hk (zJ _ (jjG hR'))
theorem jiE (hC:C.ok P) {ops:Array Oper} {Q:Exit→Act→World→Prop} {k:Prop} (r:List Oper):∀(l:List Oper) (rs rs':RS) (es:List Eff) (a:Act) (w:World),yz C ops.toList l rs=some (es,rs')→zV false es k→Inv P B C.n ops rs a w→
    (k→∀a' w',Inv P B C.n ops rs' a' w'→wpList P ops Q r a' w')→wpList P ops Q (l++r) a w
  |[],rs,rs',es,a,w,h,hk,hI,hQ=>by
    simp[yz] at h
    obtain⟨rfl,rfl⟩:=h
    exact hQ hk a w hI
  |o::l,rs,rs',es,a,w,h,hk,hI,hQ=>by
    simp only[yz] at h
    split at h
    · cases h
    rename_i e he
    split at h
    · cases h
    rename_i hf
    split at h
    · cases h
    rename_i es' rs2 hr
    simp at h
    obtain⟨rfl,rfl⟩:=h
    obtain⟨h1,h2⟩:=jfJ hk
    have:=yL (K:=wpList P ops Q (l++r)) (Q:=Q) hC he (vG hf) (Fit.refl P B rs e) hI h1 (fun a' w' hI' hfact=>jiE hC r l _ _ _ a' w' hr (h2 hfact) hI' hQ)
    rw[jHi]
    unfold wpList
    split
    · rename_i hw;rw[if_pos hw] at this;exact .inl this
    · rename_i hw;rw[if_neg hw] at this;exact this
theorem jo0:∀(l:List Oper) {i:List Oper} {U t d:Nat},jsj l=some (i,U,t,d)→∃o v ft,l=i++[o]∧o.op= .binOp .eql U (.tmp t) (.const v) ft∧o.dst=some d∧o.guard=none∧zc v=true
  |[],_,_,_,_,h=>by simp[jsj] at h
  |[o],i,U,t,d,h=>by
    simp only[jsj] at h
    split at h
    · rename_i e1 e2 e3
      split at h
      · rename_i hv
        simp at h
        obtain⟨rfl,rfl,rfl,rfl⟩:=h
        exact⟨o,_,_,rfl,e1,e2,e3,hv⟩
      · cases h
    · cases h
  |o::o'::r,i,U,t,d,h=>by
    simp only[jsj] at h
    split at h
    · rename_i i' U' t' d' h'
      simp at h
      obtain⟨rfl,rfl,rfl,rfl⟩:=h
      obtain⟨o1,v,ft,e,q⟩:=jo0 (o'::r) (by simpa only[jsj] using h')
      exact⟨o1,v,ft,by rw[e];rfl,q⟩
    · cases h
theorem jzE (hC:C.ok P) {ops:Array Oper} {i:List Oper} {U t d:Nat} {σ:St} {K:Ex→St→Prop} {Q:Exit→Act→World→Prop} {a:Act} {w:World}
    (hop:jsj ops.toList=some (i,U,t,d)) (h:jD7 C ops.toList i U t d σ K) (hR:Rel P B C.n σ a w)
    (hQ:∀σ' a' w',Ext σ σ'→K .normal σ'→Rel P B C.n σ' a' w'→Q .normal a' w'):jy9 P ops false Q a w:=by
  unfold jD7 at h
  split at h
  · exact h.elim
  rename_i ss rs hr
  split at h
  case h_2=>exact jaD hC h hR hQ
  rename_i u l hget
  split at h
  case h_2=>exact h.elim
  rename_i tt hsl hfr;obtain⟨ti,te⟩:=tt;have hfr:d<C.n:=jG6 hfr;obtain⟨o,v,ft,e0,e1,e2,e3,hv⟩:=jo0 _ hop;obtain⟨_,_,_,_,hund,_⟩:=zn hC hsl;show wpList P ops Q ops.toList a w;rw[e0];have hI:Inv P B C.n ops ⟨σ,[]⟩ a w:=by
    obtain⟨h1,h2,ρ,h3,h4,h5⟩:=hR;exact⟨h1,h2,ρ,h3,h4,(fun s g v hm=>by simp at hm),h5⟩
  refine jiE hC [o] i _ _ _ a w hr h hI (fun hk a1 w1 hI1=> ?_);obtain⟨h1,h2,ρ,h3,h4,_,h5⟩:=hI1;have hw:Region.wanted o (yielded ops a1.tmps)=true:=(by simp[Region.wanted,e3]);unfold wpList;rw[if_pos hw];refine .inl ?_;have hden:=jK (P:=P) (ρ:=ρ) h4 (.tmp t);simp only[jL] at hden;rw[hget] at hden;have hrv:=zb (t:= .slice u) rfl (by simpa[SV.den] using hden);obtain⟨ad,n,c,g1,g2,g3,g4,g6,g5⟩:=hrv;simp at g1;have hnil:ad.isNone=true→l=[]:=by
    intro hn;refine Classical.byContradiction fun hne=> ?_
    obtain⟨b,off,blk,rfl,_⟩:=g5 hne;cases hn
  have hrun:(execOp a1.eval o).run P w1= .ok (.value (.bool ad.isNone)) w1:=by
    have he:=jhm (w:=w1) (ad:=ad) (n:=n) (c:=c) hund;have ev:a1.eval (.const v)= .slice none 0 0:=wy hv;simp only[execOp,e1];rw[g1,ev];simp[eqGuard,binOp,he]
  unfold Oper.wp;rw[hrun];simp only[Oper.upon];have hE:Ext σ rs.st:=qB _ _ _ _ hr;have hE2:Ext rs.st (⟨(d,.dat .bool ad.isNone)::rs.st.sl,rs.st.ob⟩:St):=⟨⟨[_],rfl⟩,⟨[],rfl⟩⟩;refine hQ _ _ _ ((hE.trans hE2).trans ((jj0 _ _).trans (zL _ _))) (hk ad.isNone hnil) (zJ _ (jjG ⟨?_,?_,ρ,h3,?_,h5⟩))
  · rw[e2];simp only[Act.put];exact h1
  · rw[e2];simp only[Act.put];simpa using h2
  · intro s x hx;rw[e2];simp only[Act.put];by_cases hs:s=d
    · subst hs;rw[jH] at hx;simp at hx;subst hx;simp only[jG0,jG7];simp only[if_true];rw[if_pos (by rw[h2];exact hfr)];exact w5 _
    · rw[jw (fun h=>hs h.symm)] at hx;simp only[jG0,jG7];rw[if_neg (fun h=>hs h.symm)];have:=h4 s x hx;simpa only[jG0] using this
theorem jlM:∀(l:List Oper) {i post:List Oper} {o:Oper},jjD l=some (i,o,post)→l=i++o::post∧o.guard=none∧∃c,o.op= .call c∧c.callee= .builtin .append
  |[],_,_,_,h=>by simp[jjD] at h
  |x::r,i,post,o,h=>by
    have go:(match jjD r with|some (i,y,q)=>some (x::i,y,q)|none=>none)=some (i,o,post)→x::r=i++o::post∧o.guard=none∧∃c,o.op= .call c∧c.callee= .builtin .append:=by
      intro h
      split at h
      · rename_i i' y q hr;simp at h;obtain⟨rfl,rfl,rfl⟩:=h;obtain⟨e1,e2,e3⟩:=jlM r hr;exact⟨by rw[e1];rfl,e2,e3⟩
      · cases h
    simp only[jjD] at h
    split at h
    · rename_i c e1 e2
      split at h
      · rename_i e3;simp at h;obtain⟨rfl,rfl,rfl⟩:=h;exact⟨rfl,e2,c,e1,e3⟩
      · exact go h
    · exact go h
theorem jwJ (hC:C.ok P) {ops:Array Oper} {i post:List Oper} {o:Oper} {σ:St} {K:Ex→St→Prop} {Q:Exit→Act→World→Prop} {a:Act} {w:World}
    (hop:jjD ops.toList=some (i,o,post)) (h:jyv C ops.toList i o post σ K) (hR:Rel P B C.n σ a w)
    (hQ:∀σ' a' w',Ext σ σ'→K .normal σ'→Rel P B C.n σ' a' w'→Q .normal a' w'):jy9 P ops false Q a w:=by
  obtain⟨e0,e3,c0,e1,e2⟩:=jlM _ hop;unfold jyv at h
  split at h
  · exact h.elim
  rename_i ss rs hr
  split at h
  case h_2=>exact h.elim
  rename_i c d hgl hop' hdst;rw[e1] at hop';simp only[Op.call.injEq] at hop';subst hop'
  split at h
  case h_2=>exact h.elim
  rename_i b x U U' hargs htys;have hargs:c0.args= #[b,x]:=(by rw[←jHb];exact hargs);have htys:c0.argTypes= #[U,U']:=by rw[←jHb];exact htys
  split at h
  case h_2=>exact h.elim
  rename_i ti te hUU hsl hfr;have hUU:=jGP hUU;subst hUU;have hfr:d<C.n:=jG6 hfr
  split at h
  case h_2=>exact h.elim
  rename_i q t lo n y ys hb hel
  split at h
  case h_2=>exact h.elim
  rename_i E t' nl l ho
  split at h
  case h_2=>exact h.elim
  rename_i l' hl' ht hE hfq;obtain⟨e,rfl⟩:=jl hl';have e':t'=te.ty:=(by injection e);subst e';have ht:=yQ ht;subst ht;have hE:=jGP hE;subst hE;have hcast:qU e l=l:=rfl;rw[hcast] at h;simp only[jGT] at hfq;obtain⟨hfq,hqlt⟩:=hfq;have hqlt:q<1000000:=jG6 hqlt;show wpList P ops Q ops.toList a w;rw[e0];have hI:Inv P B C.n ops ⟨σ,[]⟩ a w:=by
    obtain⟨h1,h2,ρ,h3,h4,h5⟩:=hR;exact⟨h1,h2,ρ,h3,h4,(fun s g v hm=>by simp at hm),h5⟩
  refine jiE hC (o::post) i _ _ _ a w hr h hI (fun hk a1 w1 hI1=> ?_);obtain⟨h1,h2,ρ,hS,h4,_,h5⟩:=hI1;obtain⟨hlen,hn0,h62,hbytes,hcont⟩:=hk;obtain⟨news,hnews⟩:∃news,news=y::ys:=⟨_,rfl⟩;rw[←hnews] at hcont hbytes hel h62;have hnpos:0<news.length:=(by rw[hnews];simp);have hw:Region.wanted o (yielded ops a1.tmps)=true:=(by simp[Region.wanted,e3]);unfold wpList;rw[if_pos hw];refine .inl ?_;have hden:=jK (P:=P) (ρ:=ρ) h4 b;rw[hb] at hden;have hsrc:=jh3 hS hel (jK (P:=P) (ρ:=ρ) h4 x);obtain⟨p,hp,k1,k0,k2⟩:=hS.obs q _ ho;simp only[SV.den] at hden;have hden:=hden p hp;obtain⟨_,hte,_,hokE,hund,hka,hks,hpos⟩:=zn hC hsl;obtain⟨iE,z,g0,g1,g2,g3,g4,g5⟩:=hokE.info;rw[hte] at g0;have hsz:iE.size=te.ty.size:=(by rw[g1,hks]);have hzs:z.cells.size=te.ty.size:=(by rw[←jHm,g4,hokE.zlen,hks]);have hbp:0<te.bytes:=(hokE.pos (jf0 hsl)).2;have hsm:(n+news.length)*1≤(n+news.length)*te.bytes:=jH7 _ hbp;cases p with
  |none=>have:=hden.2;omega
  |some bc=>
  obtain⟨bl,Cp⟩:=bc;obtain⟨ad0,cap,f1,f2,f3,f4,f5⟩:=hden;have f5:=f5 (.inr (by omega));subst f5;obtain⟨k3,vs,hwb,hvs,hlC,hCm,hrd,hHb⟩:=k2;simp only[fzH] at hHb;obtain⟨hsl2,⟨_,hnil⟩|⟨ad,cs,us,f6,u1,u2,u3,u4⟩⟩:=hsrc
  · rw[hnil] at hnpos;simp at hnpos
  have noref:kz rs.st.obj q:=by
    intro o' T fz cs' hbox;have:(o',some (.box T fz cs'))∈rs.st.ob:=by
      unfold St.obj at hbox
      split at hbox
      · rename_i y0 hy;subst hbox;exact zk _ _ _ hy
      · cases hbox
    exact vE _ _ _ _ _ _ hfq this
  have hE1:Ext σ rs.st:=qB _ _ _ _ hr;have fin:∀(w2:World) (g capn:Nat) (pre:List te.ty.Data),(execOp a1.eval o).run P w1= .ok (.value (.slice (some ⟨g,pre.length*te.ty.size,none⟩) (n+news.length) (capn-pre.length))) w2→
      w1.grownBy w2 (some bl)→w1.drawn≤w2.drawn→(g=bl∨g=w1.heap.size)→pre.length+n+news.length≤capn→capn≤maxLen→pre.length≤lo→
      (∃vs2,w2.heap[g]? =some (.cells vs2 ti.elem (0,0))∧vs2.size=capn*te.ty.size∧∀(j:Nat) x,(pre++l.drop lo++news)[j]? =some x→te.ty.rd ρ.H (fun k=>vs2[j*te.ty.size+k]?) x)→
      o.wp P a1 w1 (wpList P ops Q post) Q:=by
    intro w2 g capn pre hrun hgr hdr hgn hfit hcm hple ⟨vs2,m1,m2,m3⟩;have hsmall:pre.length+n+news.length<4611686018427387904:=(by omega);have hrl:(pre++l.drop lo++news).length=pre.length+n+news.length:=(by simp;omega);have hHg:ρ.H g=none:=by
      rcases hgn with rfl|rfl
      · exact hHb
      · cases hc:ρ.H w1.heap.size with
        |none=>rfl
        |some c=>have:=hS.good.lt hc;omega
    obtain⟨ρ',q1,q2,q3,q4,q5⟩:=jBJ hS hp hHb noref hgr hdr g capn hgn (pre.length+n+news.length) (.row ti.elem te.ty false nl (pre++l.drop lo++news)) (fun ρ' hH hlen' _=>by
      refine⟨by rw[hlen',hrl],by rw[hrl];exact hsmall,fun _ hnil=> ?_,vs2,m1,m2,by rw[hrl];exact hfit,hcm,fun j x hx=>by rw[hH];exact m3 j x hx,?_⟩
      · rw[hnil] at hrl;simp at hrl;omega
      · rw[hH];simpa[fzH] using hHg)
    unfold Oper.wp;rw[hrun];simp only[Oper.upon];obtain⟨σ2,hσ2⟩:∃σ2:St,σ2=⟨(d,.osl q te.ty pre.length (n+news.length))::(jeW rs.st (SV.refs q) rs.st.sl++rs.st.sl),(q,some (.row ti.elem te.ty false nl (pre++l.drop lo++news)))::rs.st.ob⟩:=⟨_,rfl⟩;have hv:=hcont pre hple;rw[←hσ2] at hv;have hR2:Rel P B C.n σ2 (a1.put o.dst (.slice (some ⟨g,pre.length*te.ty.size,none⟩) (n+news.length) (capn-pre.length))) w2:=by
      refine⟨?_,?_,ρ',?_,?_,h5.mono q2 (fun d hd=>by simp at hd;subst hd;exact hqlt)⟩
      · rw[hdst];simp only[Act.put];exact h1
      · rw[hdst];simp only[Act.put];simpa using h2
      · have:σ2.obj=jij rs.st.obj q (some (.row ti.elem te.ty false nl (pre++l.drop lo++news))):=by
          rw[hσ2];exact wt ⟨(d,.osl q te.ty pre.length (n+news.length))::(jeW rs.st (SV.refs q) rs.st.sl++rs.st.sl),rs.st.ob⟩ q _
        rw[this];exact q1
      · intro s v hs;rw[hσ2] at hs;rw[hdst];simp only[Act.put];by_cases hsd:s=d
        · subst hsd;rw[jH] at hs;simp only[Option.some.injEq] at hs;subst hs;simp only[jG0,jG7];simp only[if_true];rw[if_pos (by rw[h2];exact hfr)];simp only[Option.getD_some,SV.den];intro p' hp';rw[q3] at hp';simp at hp';subst hp';exact⟨_,_,rfl,by omega,by omega,by rw[q4];omega,fun _=>rfl⟩
        · rw[jw (fun h=>hsd h.symm)] at hs;simp only[jG0,jG7];rw[if_neg (fun h=>hsd h.symm)];rw[jk] at hs;cases hsc:jF (jeW rs.st (SV.refs q) rs.st.sl) s with
          |some v'=>
            rw[hsc] at hs;simp only[Option.some.injEq] at hs;subst hs;rw[vB _ _ _ _ _ hsc];exact wg _
          |none=>
            rw[hsc] at hs;simp only at hs;have hrf:=kI _ _ _ s hsc (by rw[hs];simp);have hgv:rs.st.get s=v:=(by unfold St.get;rw[hs]);rw[hgv] at hrf;have:=SV.den_mono q2 v _ (fun r hr=>by simp at hr;subst hr;exact hrf) (h4 s v hs);simpa only[jG0] using this
    have hE2:Ext rs.st σ2:=(by rw[hσ2];exact⟨⟨(d,.osl q te.ty pre.length (n+news.length))::jeW rs.st (SV.refs q) rs.st.sl,by simp⟩,⟨[_],rfl⟩⟩);unfold jdE at hv
    split at hv
    · exact hv.elim
    rename_i ss2 rs2 hr2;obtain⟨j1,j2,ρ2,j3,j4,j5⟩:=hR2;refine wH hC _ _ _ _ _ _ hr2 hv ⟨j1,j2,ρ2,j3,j4,(fun s g v hm=>by simp at hm),j5⟩ (fun hk' a' w' hI'=> ?_);obtain⟨i1,i2,ρ3,i3,i4,_,i5⟩:=hI';have e1:=qB _ _ _ _ hr2;exact hQ _ a' w' ((hE1.trans hE2).trans (e1.trans ((jj0 _ _).trans (zL _ _)))) hk' (zJ _ (jjG ⟨i1,i2,ρ3,i3,i4,i5⟩))
  have hexec:∀(v':Value) (w2:World),(Builtin.append_ #[U,U] o.type #[a1.eval b,a1.eval x]).run P w1= .ok v' w2→(execOp a1.eval o).run P w1= .ok (.value v') w2:=by
    intro v' w2 hrun;simp only[execOp,e1,Sem.run_bind,resolve,e2,hargs,htys,Sem.run_pure,Result.andThen_ok,invoke,builtin];simp[hrun]
  have hlo:(l.take lo).length=lo:=(by simp;omega);have hmulC:(lo+n)*te.ty.size≤Cp*te.ty.size:=jG8 _ (by omega);by_cases hroom:n+news.length≤cap
  · --there is room
    have hf:=run_firstCells_some (P:=P) w1 iE.size news.length ad news.length cs us (by rw[hsz];exact u1) u2;have hmul:(lo+n+news.length)*te.ty.size≤Cp*te.ty.size:=jG8 _ (by omega);rw[jHD,jHD] at hmul;have hst:=run_storeCells_at P bl (lo*te.ty.size+n*te.ty.size) ti.elem us 0 vs w1 hwb (by rw[u1,hvs];omega) u3;simp only[jH4] at hst;obtain⟨m1,m2⟩:=vT w1 hwb (vs.toList.take (lo*te.ty.size+n*te.ty.size)++us++vs.toList.drop (lo*te.ty.size+n*te.ty.size+us.length)).toArray;obtain⟨m3,m4,m5,m6,m7,m8⟩:=m1;have hrunA:(Builtin.append_ #[U,U] o.type #[a1.eval b,a1.eval x]).run P w1= .ok (.slice (some ⟨bl,lo*te.ty.size,none⟩) (n+news.length) cap) (w1.setRow bl (vs.toList.take (lo*te.ty.size+n*te.ty.size)++us++vs.toList.drop (lo*te.ty.size+n*te.ty.size+us.length)).toArray):=by
      rw[f1,f6];have hadd:(⟨bl,lo*te.ty.size,none⟩:Addr).add (n*iE.size)=⟨bl,lo*te.ty.size+n*te.ty.size,none⟩:=(by rw[hsz];simp[qW]);simp[Builtin.append_,run_underlying hund,sizeOf,typeInfo,g0,Builtin.lenOf,hroom,hf,hadd,hst]
    have hl1:(vs.toList.take (lo*te.ty.size+n*te.ty.size)).length=lo*te.ty.size+n*te.ty.size:=(by simp;omega);refine fin _ bl Cp (l.take lo) (by rw[hlo,show Cp-lo=cap by omega];exact hexec _ _ hrunA) ⟨m3,m4,m5,by rw[m7];exact jGU _,fun k hk hne=>m8 k (fun e=>hne (by rw[e]))⟩ m6 (.inl rfl) (by omega) hCm (by omega) ⟨_,m2,?_,?_⟩
    · simp only[List.size_toArray,jHa,hl1,u1,jHR,jHm];omega
    · intro j x hx;rw[jH9] at hx;simp only[jH1,jHc];by_cases hj:j<l.length
      · rw[jG4 hj] at hx;refine te.ty.rd_congr _ _ _ (fun k hk=> ?_) (hrd j x hx);have:(j+1)*te.ty.size≤(lo+n)*te.ty.size:=jG8 _ (by omega);rw[jHA,jHD] at this;rw[jG4 (by omega),jHd (by omega)];simp
      · have hjl:j<(l++news).length:=(jGW.1 hx).1;rw[jG3 (by omega)] at hx;obtain⟨dd,rfl⟩:∃dd,j=lo+n+dd:=⟨j-(lo+n),by omega⟩;rw[show lo+n+dd-l.length=dd by omega] at hx;refine te.ty.rd_congr _ _ _ (fun k hk=> ?_) (u4 dd x hx);have hd:dd<news.length:=(jGW.1 hx).1;have:(dd+1)*te.ty.size≤news.length*te.ty.size:=jG8 _ hd;rw[jHA] at this;rw[jHD,jHD,jG3 (by omega),hl1,jG4 (by omega)];congr 1;omega
  · --it moves
    have hml:n+news.length≤maxLen:=(by simp only[maxLen];omega);have hmp:cap<n+news.length:=(by omega);obtain⟨olds,hol⟩:∃olds,olds=(vs.toList.drop (lo*te.ty.size)).take (n*te.ty.size):=⟨_,rfl⟩;rw[jHD] at hmulC;have hol1:olds.length=n*te.ty.size:=(by rw[hol];simp;omega);have hol2:∀j v,olds[j]? =some v→w1.cell? ((⟨bl,lo*te.ty.size,none⟩:Addr).add j)=some v:=by
      intro j v hj;rw[hol,jH3] at hj
      split at hj
      · rw[jHw,jHB] at hj;have:(⟨bl,lo*te.ty.size,none⟩:Addr).add j=⟨bl,lo*te.ty.size+j,none⟩:=(by simp[qW]);rw[this];simp[World.cell?,hwb,hj]
      · cases hj
    have hr:=run_append_grow (P:=P) w1 U o.type ti.elem iE z hund g0 g3 ⟨bl,lo*te.ty.size,none⟩ n cap olds (by rw[hsz];exact hol1) hol2 ad news.length cs us (by rw[hsz];exact u1) u2 hmp (by simp only[maxLen] at hml;omega) (growslice_fits hmp (by rw[g2];exact hbytes));have hge:=grownCap_ge w1 (n+news.length) cap ti.elem;have hcm:=grownCap_le_maxLen w1 (n+news.length) cap ti.elem hml;generalize hcap:grownCap w1 (n+news.length) cap ti.elem=capn at hr hge hcm;have hlen2:(olds++us).length=(n+news.length)*te.ty.size:=(by rw[jHa,hol1,u1,jHD]);refine fin (w1.drew.alloc (.cells (olds.toArray++us.toArray++Builtin.zeroCells z.cells (capn-(n+news.length))) ti.elem)) w1.heap.size capn [] (by rw[f1,f6] at hexec;have:=hexec _ _ hr;simp only[jHI,Nat.zero_mul,Nat.sub_zero];exact this) ⟨rfl,rfl,rfl,by simp,fun k hk _=>heap_alloc_old w1.drew _ k hk⟩ (Nat.le_succ _) (.inr rfl) (by simp;exact hge) hcm (by simp) ⟨_,heap_alloc_new w1.drew _,?_,?_⟩
    · simp only[Array.size_append,List.size_toArray,size_zeroCells,hzs,hol1,u1,←jHD];congr 1;omega
    · intro j x hx;rw[jHh] at hx;have hcell:∀m,m<(olds++us).length→(olds.toArray++us.toArray++Builtin.zeroCells z.cells (capn-(n+news.length)))[m]? =(olds++us)[m]? :=by
        intro m hm;rw[jHE (by simpa using hm)];simp
      have hjl:j<(l.drop lo++news).length:=(jGW.1 hx).1;have hdl:(l.drop lo).length=n:=(by simp;omega);rw[jHa,hdl] at hjl;by_cases hj:j<n
      · rw[jG4 (by omega),jHw] at hx;refine te.ty.rd_congr _ _ _ (fun k hk=> ?_) (hrd (lo+j) x hx);have:(j+1)*te.ty.size≤n*te.ty.size:=jG8 _ hj;rw[jHA] at this;rw[hcell _ (by rw[jHa];omega),jG4 (by omega),hol,jHd (by omega),jHw,jHB,jHD];congr 1;omega
      · obtain⟨dd,rfl⟩:∃dd,j=n+dd:=⟨j-n,by omega⟩;rw[jG3 (by omega),hdl,show n+dd-n=dd by omega] at hx;refine te.ty.rd_congr _ _ _ (fun k hk=> ?_) (u4 dd x hx);have hd:dd<news.length:=(jGW.1 hx).1;have:(dd+1)*te.ty.size≤news.length*te.ty.size:=jG8 _ hd;rw[jHA] at this;rw[hcell _ (by rw[jHa,jHD];omega),jHD,jG3 (by omega),hol1];congr 1;omega
def jBO:Option Nat→Option Nat→Prop
  |some m,some n=>m<n
  |some _,none=>True
  |none,_=>False
theorem jvW:WellFounded jBO:=by
  have h1:∀n,Acc jBO (some n):=by
    intro n
    induction n using Nat.strongRecOn with
    |_ n ih=>
      refine⟨_,fun y hy=> ?_⟩;cases y with
      |none=>exact hy.elim
      |some m=>exact ih m hy
  refine⟨fun x=> ?_⟩;cases x with
  |some n=>exact h1 n
  |none=>
    refine⟨_,fun y hy=> ?_⟩;cases y with
    |none=>exact hy.elim
    |some m=>exact h1 m
theorem jov {α:Type} (r:α→α→Prop) (hwf:WellFounded r) {Q:Exit→Act→World→Prop} {c:Code} {a:Act} {w:World} (I:α→Act→World→Prop) (x₀:α) (h₀:I x₀ a w)
    (round:∀x a w,I x a w→c.wp P (Exit.then (fun a' w'=>∃x',r x' x∧I x' a' w') Q) a w):(Code.loop c).wp P Q a w:=by
  intro b k cs;have key:∀x a w,I x a w→∃e a' w',Q e a' w'∧Arrives P (lone (b.at a (.code c:: .inLoop c::k)) cs w) b k cs e a' w':=by
    intro x
    induction x using hwf.induction with
    |_ x ih=>
      intro a w hI;obtain⟨e,a₁,w₁,hq,harr⟩:=round x a w hI b (.inLoop c::k) cs;cases e with
      |normal=>
        obtain⟨x',hlt,hI₁⟩:=hq;obtain⟨e₂,a₂,w₂,hq₂,harr₂⟩:=ih x' hlt a₁ w₁ hI₁;exact⟨e₂,a₂,w₂,hq₂,.of_steps (Steps.trans harr (.one step_inLoop)) harr₂⟩
      |exit id=>exact⟨_,a₁,w₁,hq,.pass (x:= .inLoop c) rfl (fun _ _=> .inl (by simp)) harr⟩
      |goto l=>exact⟨_,a₁,w₁,hq,.pass (x:= .inLoop c) rfl (fun _ _=> .inl (by simp)) harr⟩
      |ret=>exact⟨_,a₁,w₁,hq,.pass (x:= .inLoop c) rfl (fun _ _=> .inl (by simp)) harr⟩
      |panic ch=>exact⟨_,a₁,w₁,hq,.pass (x:= .inLoop c) rfl (fun _ _=> .inl (by simp)) harr⟩
      |outgrown=>exact⟨_,a₁,w₁,hq,.pass (x:= .inLoop c) rfl (fun _ _=> .inl (by simp)) harr⟩
  obtain⟨e,a',w',hq,harr⟩:=key x₀ a w h₀;exact⟨e,a',w',hq,.of_steps (.one step_loop) harr⟩
def jtm (P:Program) (B:zF) (C:Ctx) (A:Ann) (x:Code) (K:Ex→St→Prop) (σ:St) (n:Nat) (a:Act) (w:World):Prop:=
  ∃L,A (jfn x)=some L∧(∀y:(L σ).X,(L σ).inv y→vcg C A x (zu (L σ) (zN x) σ y) (fun e σ'=>match e with
      | .normal=>∃x':(L σ).X,sub σ' (zu (L σ) (zN x) σ x') (qX (ki ((L σ).sl x')) (qX (ki ((L σ).sl y)) (jdU σ'.sl (zu (L σ) (zN x) σ y).sl.length)))
            (qX (ki ((L σ).ob x')) (qX (ki ((L σ).ob y)) (jdU σ'.ob (zu (L σ) (zN x) σ y).ob.length)))∧(L σ).inv x'∧(L σ).mu x'<(L σ).mu y
      |e=>K e σ'))∧
    ∃y,(L σ).inv y∧(L σ).mu y=n∧Rel P B C.n (zu (L σ) (zN x) σ y) a w
theorem jjT {A:Ann} {x:Code} {K:Ex→St→Prop} {a:Act} {σ:St} {w:World} (h:jv8 A x (vcg C A x) σ K) (hR:Rel P B C.n σ a w):∃n,jtm P B C A x K σ n a w:=by
  unfold jv8 at h
  split at h
  · exact h.elim
  rename_i L hL;obtain⟨⟨x0,hs0,hi0⟩,hround⟩:=h;exact⟨_,L,hL,hround,x0,hi0,rfl,jt0 hs0 (fun s hs=>jwd (L σ) (zN x) σ x0 s hs) (fun o ho=>jwc (L σ) (zN x) σ x0 o ho) hR⟩
theorem jjU {A:Ann} {x:Code} {K:Ex→St→Prop} {Q:Exit→Act→World→Prop} {n:Nat} {a:Act} {σ:St} {w:World} {J:Act→World→Prop}
    (hrun:∀(σ:St) (K:Ex→St→Prop) (Q:Exit→Act→World→Prop) (a:Act) (w:World),vcg C A x σ K→Rel P B C.n σ a w→(∀e σ' a' w',Ext σ σ'→K e σ'→Rel P B C.n σ' a' w'→Q (jff e) a' w')→x.wp P Q a w)
    (hI:jtm P B C A x K σ n a w) (hQ:∀e σ' a' w',Ext σ σ'→K e σ'→Rel P B C.n σ' a' w'→Q (jff e) a' w')
    (hJ:∀n',n'<n→∀a' w',jtm P B C A x K σ n' a' w'→J a' w'):x.wp P (Exit.then J Q) a w:=by
  obtain⟨L,hL,hround,y,hiy,rfl,hR1⟩:=hI;generalize hws:zN x=ws at hround hR1;refine hrun _ _ _ a w (hround y hiy) hR1 (fun e σ' a' w' hE hK hR'=> ?_);have hE0:Ext σ (zu (L σ) ws σ y):=⟨⟨(L σ).sl y++ws.map (fun s=>(s,SV.any)),by simp[zu]⟩,⟨(L σ).ob y++ws.map (fun s=>(s,none)),by simp[zu]⟩⟩;cases e with
  |ret=>exact hQ .ret σ' a' w' (hE0.trans hE) hK hR'
  |exit id=>exact hQ (.exit id) σ' a' w' (hE0.trans hE) hK hR'
  |normal=>
    obtain⟨y',hs',hi',hmu⟩:=hK;have hrel:Rel P B C.n (zu (L σ) ws σ y') a' w':=by
      refine jt0 hs' (fun s hs=> ?_) (fun o ho=> ?_) hR'
      · simp only[zP,not_or] at hs;obtain⟨k1,k2,k3⟩:=hs;refine .inr ?_;obtain⟨p,hp⟩:=hE.sl;have hnp:s∉ki p:=fun hk=>k3 (by rw[hp];exact jbh p _ s hk)
        have e1:jF σ'.sl s=jF (ws.map (fun s=>(s,SV.any))++σ.sl) s:=by
          rw[hp,jk,jy _ _ hnp];exact jhP (L σ) ws σ y s k2
        unfold St.get;rw[e1,jhP (L σ) ws σ y' s k1]
      · simp only[zP,not_or] at ho;obtain⟨k1,k2,k3⟩:=ho;refine .inr ?_;obtain⟨p,hp⟩:=hE.ob;have hnp:o∉ki p:=fun hk=>k3 (by rw[hp];exact jbh p _ o hk)
        have e1:jF σ'.ob o=jF (ws.map (fun s=>(s,(none:Option Ob)))++σ.ob) o:=by
          rw[hp,jk,jy _ _ hnp];exact jbi (L σ) ws σ y o k2
        simp only[St.obj];rw[e1,jbi (L σ) ws σ y' o k1]
    exact hJ _ hmu a' w' ⟨L,hL,by rw[hws];exact hround,y',hi',rfl,by rw[hws];exact hrel⟩
theorem jtN (hC:C.ok P) {ops:Array Oper} {σ:St} {K:Ex→St→Prop} {Q:Exit→Act→World→Prop} {a:Act} {w:World}
    (h:jtO C ops.toList σ K) (hR:Rel P B C.n σ a w) (hQ:∀σ' a' w',Ext σ σ'→K .normal σ'→Rel P B C.n σ' a' w'→Q .normal a' w'):jy9 P ops false Q a w:=by
  unfold jtO at h;obtain⟨h1,h2,ρ,h3,h4,h5⟩:=hR;exact joP hC (σ0:=σ) (fun rs a' w' s1 s2 hk hI=>by
    obtain⟨i1,i2,ρ',i3,i4,_,i5⟩:=hI;exact hQ _ a' w' (Ext.trans ⟨s1,s2⟩ ((jj0 _ _).trans (zL _ _))) hk (zJ _ (jjG ⟨i1,i2,ρ',i3,i4,i5⟩))) ops.toList [] _ a w ⟨[],rfl⟩ ⟨[],rfl⟩ h ⟨h1,h2,ρ,h3,h4,(fun s g v hm=>by simp at hm),h5⟩
theorem jow (hC:C.ok P) {A:Ann} {id:Nat} {ops:Array Oper} {draw:Bool} {σ:St} {K:Ex→St→Prop} {Q:Exit→Act→World→Prop} {a:Act} {w:World}
    (h:vcg C A (.region id ops draw) σ K) (hR:Rel P B C.n σ a w) (hQ:∀σ' a' w',Ext σ σ'→K .normal σ'→Rel P B C.n σ' a' w'→Q .normal a' w'):jy9 P ops draw Q a w:=by
  simp only[vcg] at h
  split at h
  · rename_i d it r hop;exact jxb hC hop h hR hQ
  · split at h
    · rename_i i U t d hop _;exact jzE hC hop h hR hQ
    · split at h
      · split at h
        · exact jaD hC h hR hQ
        · exact jtN hC h hR hQ
      · split at h
        · rename_i i o post hop;exact jwJ hC hop h hR hQ
        · exact h.elim
    · exact jaD hC h hR hQ
theorem wC (hC:C.ok P) (hm:P.follows .mixedOrders=true) (A:Ann):∀(c:Code) (σ:St) (K:Ex→St→Prop) (Q:Exit→Act→World→Prop) (a:Act) (w:World),vcg C A c σ K→Rel P B C.n σ a w→
    (∀e σ' a' w',Ext σ σ'→K e σ'→Rel P B C.n σ' a' w'→Q (jff e) a' w')→c.wp P Q a w
  | .skip,σ,K,Q,a,w,h,hR,hQ=>wp_skip (hQ .normal σ a w (Ext.refl _) h hR)
  | .region id ops draw,σ,K,Q,a,w,h,hR,hQ=>jDT hm (jow hC h hR (fun σ' a' w' hE hK hR'=>hQ .normal σ' a' w' hE hK hR'))
  | .seq x y,σ,K,Q,a,w,h,hR,hQ=>by
    simp only[vcg] at h
    refine wp_seq (wC hC hm A x σ _ _ a w h hR (fun e σ' a' w' hE hK hR'=> ?_))
    cases e with
    |normal=>exact wC hC hm A y σ' K Q a' w' hK hR' (fun e2 σ2 a2 w2 hE2=>hQ e2 σ2 a2 w2 (hE.trans hE2))
    |ret=>exact hQ .ret σ' a' w' hE hK hR'
    |exit id=>exact hQ (.exit id) σ' a' w' hE hK hR'
  | .cond c x y,σ,K,Q,a,w,h,hR,hQ=>by
    simp only[vcg] at h
    split at h
    case h_2=>exact h.elim
    rename_i β hc
    have hv:a.eval c= .bool β:=by
      obtain⟨_,_,ρ,_,hSl,_⟩:=hR;have:=jK (P:=P) (ρ:=ρ) hSl c;rw[hc] at this;exact zG (by simpa only[SV.den] using this)
    refine wp_cond_split hv (fun hb=>wC hC hm A x σ K Q a w (h.1 hb) hR hQ) (fun hb=>wC hC hm A y σ K Q a w (h.2 hb) hR hQ)
  | .block id x,σ,K,Q,a,w,h,hR,hQ=>by
    simp only[vcg] at h;refine wp_block (wC hC hm A x σ _ _ a w h hR (fun e σ' a' w' hE hK hR'=> ?_));cases e with
    |normal=>exact hQ .normal σ' a' w' hE hK hR'
    |ret=>exact hQ .ret σ' a' w' hE hK hR'
    |exit id'=>
      simp only[jff,Exit.inBlock];simp only at hK
      split at hK
      · rename_i hb;have:=jGP hb;subst this;rw[if_pos rfl];exact hQ .normal σ' a' w' hE hK hR'
      · rename_i hb;rw[if_neg (fun e=>jS hb e.symm)];exact hQ (.exit id') σ' a' w' hE hK hR'
  | .loop x,σ,K,Q,a,w,h,hR,hQ=>by
    simp only[vcg] at h;have hrun:=fun(σ:St) (K:Ex→St→Prop) (Q:Exit→Act→World→Prop) (a:Act) (w:World)=>wC hC hm A x σ K Q a w
    split at h
    · obtain⟨n0,h0⟩:=jjT h hR;refine jov jBO jvW (fun n a' w'=>∃m,n=some m∧jtm P B C A x K σ m a' w') (some n0) ⟨_,rfl,h0⟩ ?_;rintro n a1 w1 ⟨m,rfl,hI⟩;exact jjU hrun hI (fun e σ' a' w' hE hK hR'=>hQ e σ' a' w' hE hK hR') (fun m' hlt a' w' h'=>⟨some m',hlt,m',rfl,h'⟩)
    · refine jov jBO jvW (fun n a' w'=>(n=none∧a'=a∧w'=w)∨∃m σ1,n=some m∧Ext σ σ1∧jtm P B C A x K σ1 m a' w') none (.inl ⟨rfl,rfl,rfl⟩) ?_;rintro n a1 w1 (⟨rfl,rfl,rfl⟩|⟨m,σ1,rfl,hE1,hI⟩)
      · refine wC hC hm A x σ _ _ a1 w1 h hR (fun e σ' a' w' hE hK hR'=> ?_);cases e with
        |ret=>exact hQ .ret σ' a' w' hE hK hR'
        |exit id=>exact hQ (.exit id) σ' a' w' hE hK hR'
        |normal=>
          obtain⟨n0,h0⟩:=jjT hK hR';exact⟨some n0,trivial,.inr ⟨_,σ',rfl,hE,h0⟩⟩
      · exact jjU hrun hI (fun e σ' a' w' hE hK hR'=>hQ e σ' a' w' (hE1.trans hE) hK hR') (fun m' hlt a' w' h'=>⟨some m',hlt,.inr ⟨m',σ1,rfl,hE1,h'⟩⟩)
  | .exit id,σ,K,Q,a,w,h,hR,hQ=>wp_exit (hQ (.exit id) σ a w (Ext.refl _) h hR)
  | .ret,σ,K,Q,a,w,h,hR,hQ=>wp_ret (hQ .ret σ a w (Ext.refl _) h hR)
  | .rangeFunc ..,_,_,_,_,_,h,_,_=>h.elim
  | .scope x,σ,K,Q,a,w,h,hR,hQ=>by
    simp only[vcg] at h;refine wp_scope_straight (wC hC hm A x σ K _ a w h hR (fun e σ' a' w' hE hK hR'=> ?_));cases e with
    |normal=>exact hQ .normal σ' a' w' hE hK hR'
    |ret=>exact hQ .ret σ' a' w' hE hK hR'
    |exit id=>exact hQ (.exit id) σ' a' w' hE hK hR'
  | .label _,σ,K,Q,a,w,h,hR,hQ=>wp_label (hQ .normal σ a w (Ext.refl _) h hR)
  | .goto _,_,_,_,_,_,h,_,_=>h.elim
  | .refuse _,_,_,_,_,_,h,_,_=>h.elim
end
end Go.X
namespace Go.X
open Go.RowKit (Below)
section
variable {P:Program} {C:Ctx}
theorem qb {f:Nat} {fn:Func} {c:Code} (hf:P.funcs[f]? =some fn) (hb:fn.body=some c) (hn:(fn.name== "runtime.NumGoroutine")=false):enters P f:=by
  intro args w;have hn':fn.name≠ "runtime.NumGoroutine":=(by simpa using hn);simp[callFunc,hf,hn',hb]
theorem vY:∀(ps:List Par) (d:PD ps) (i s:Nat) (v:SV),jF (ko ps d i) s=some v→i≤s∧s<i+ps.length
  |[],_,_,_,_,h=>by simp[ko,jF] at h
  | .val t::ps,d,i,s,v,h=>by
    simp only[ko,jF] at h
    cases hb:Nat.beq i s with
    |true=>have:=jGP hb;subst this;simp
    |false=>rw[hb] at h;have:=vY ps d.2 (i+1) s v h;simp;omega
  | .ref t::ps,d,i,s,v,h=>by
    simp only[ko,jF] at h
    cases hb:Nat.beq i s with
    |true=>have:=jGP hb;subst this;simp
    |false=>rw[hb] at h;have:=vY ps d.2 (i+1) s v h;simp;omega
  | .fn aZ rs::ps,d,i,s,v,h=>by
    simp only[ko,jF] at h
    cases hb:Nat.beq i s with
    |true=>have:=jGP hb;subst this;simp
    |false=>rw[hb] at h;have:=vY ps d.2 (i+1) s v h;simp;omega
  | .rfn aZ rs::ps,d,i,s,v,h=>by
    simp only[ko,jF] at h
    cases hb:Nat.beq i s with
    |true=>have:=jGP hb;subst this;simp
    |false=>rw[hb] at h;have:=vY ps d.2 (i+1) s v h;simp;omega
theorem wU {ρ:Env}:∀(ps:List Par) (vs:List Value) (d:PD ps) (i:Nat),pvs P ρ.H ps vs d→∀s v,jF (ko ps d i) s=some v→∃x,vs[s-i]? =some x∧SV.den P ρ v x
  |[],_,_,_,_,_,_,h=>by simp[ko,jF] at h
  |p::ps,[],d,i,hp,_,_,_=>hp.elim
  | .val t::ps,x::vs,d,i,hp,s,v,h=>by
    simp only[ko,jF] at h
    cases hb:Nat.beq i s with
    |true=>
      have:=jGP hb;subst this
      rw[hb] at h;simp at h;subst h
      exact⟨x,by simp,by simp only[SV.den];exact hp.1⟩
    |false=>
      rw[hb] at h
      have hge:=(vY ps d.2 (i+1) s v h).1
      obtain⟨y,h1,h2⟩:=wU ps vs d.2 (i+1) hp.2 s v h
      exact⟨y,by rw[show s-i=(s-(i+1))+1 by omega];simpa using h1,h2⟩
  | .ref t::ps,x::vs,d,i,hp,s,v,h=>by
    simp only[ko,jF] at h
    cases hb:Nat.beq i s with
    |true=>
      have:=jGP hb;subst this
      rw[hb] at h;simp at h;subst h
      exact⟨x,by simp,by simp only[SV.den];exact hp.1⟩
    |false=>
      rw[hb] at h
      have hge:=(vY ps d.2 (i+1) s v h).1
      obtain⟨y,h1,h2⟩:=wU ps vs d.2 (i+1) hp.2 s v h
      exact⟨y,by rw[show s-i=(s-(i+1))+1 by omega];simpa using h1,h2⟩
  | .fn aZ rs::ps,x::vs,d,i,hp,s,v,h=>by
    simp only[ko,jF] at h
    cases hb:Nat.beq i s with
    |true=>
      have:=jGP hb;subst this
      rw[hb] at h;simp at h;subst h
      exact⟨x,by simp,by simp only[SV.den];exact hp.1⟩
    |false=>
      rw[hb] at h
      have hge:=(vY ps d.2 (i+1) s v h).1
      obtain⟨y,h1,h2⟩:=wU ps vs d.2 (i+1) hp.2 s v h
      exact⟨y,by rw[show s-i=(s-(i+1))+1 by omega];simpa using h1,h2⟩
  | .rfn aZ rs::ps,x::vs,d,i,hp,s,v,h=>by
    simp only[ko,jF] at h
    cases hb:Nat.beq i s with
    |true=>
      have:=jGP hb;subst this
      rw[hb] at h;simp at h;subst h
      exact⟨x,by simp,by simp only[SV.den];exact hp.1⟩
    |false=>
      rw[hb] at h
      have hge:=(vY ps d.2 (i+1) s v h).1
      obtain⟨y,h1,h2⟩:=wU ps vs d.2 (i+1) hp.2 s v h
      exact⟨y,by rw[show s-i=(s-(i+1))+1 by omega];simpa using h1,h2⟩
theorem yN {H:Imm}:∀{ps:List Par} {vs:List Value} {d:PD ps},pvs P H ps vs d→vs.length=ps.length
  |[],vs,_,h=>by simp[pvs] at h;simp[h]
  |p::ps,x::vs,d,h=>by simp[yN h.2]
  |p::ps,[],d,h=>h.elim
def jy7 (C:Ctx) (σ:St):List Ty→List ResultVar→List Nat
  |t::ts,v::r=>(match qH σ t (jl1 C σ v) with|some (_,f)=>f|none=>[])++jy7 C σ ts r
  |_,_=>[]
def jt6 (P:Program) (w:World) (tmps:Array Value):ResultVar→Value→Prop
  | .tmp t,v=>v=tmps.getD t undef
  | .cell a t,v=>∃ad,tmps.getD a undef= .pointer (some ad)∧(loadVar t ad).run P w= .ok v w
def jes (P:Program) (w:World) (tmps:Array Value):List ResultVar→List Value→Prop
  |[],vs=>vs=[]
  |r::rs,v::vs=>jt6 P w tmps r v∧jes P w tmps rs vs
  |_::_,[]=>False
theorem jtZ {B:zF} {σ τ:St} {ρ:Env} {w:World} {a:Act} {fz:List Nat} (hC:C.ok P) (hS:Sat P B ρ τ.obj w) (hF:Frz σ τ fz) (hd:∀s,SV.den P ρ (σ.get s) (a.tmps.getD s undef)) (rv:ResultVar)
    (hne:jl1 C σ rv≠.any):∃v,jt6 P w a.tmps rv v∧SV.den P ρ (jl1 C σ rv) v:=by
  cases rv with
  |tmp s=>exact⟨_,rfl,hd s⟩
  |cell s T=>
    simp only[jl1] at hne⊢
    split at hne
    case h_2=>exact absurd rfl hne
    rename_i ti o hti ho
    split at hne
    case h_2=>exact absurd rfl hne
    rename_i T' f cs hob;obtain⟨rfl,hok⟩:=hC.ti _ _ hti;have hτ:∃f',τ.obj o=some (.box T' f' cs):=by
      rcases(hF o).1 with h|h
      · exact⟨f,by rw[h,hob]⟩
      · exact⟨true,by rw[h,hob];rfl⟩
    obtain⟨f',hτ⟩:=hτ;obtain⟨p,hp,b,Cp,vs,rfl,hw,hdl,h1,_⟩:=hS.obs o _ hτ;have hev:=hd s;rw[ho] at hev;simp only[SV.den] at hev;obtain⟨b',C',e1,e2⟩:=hev _ hp;simp at e1;obtain⟨rfl,rfl⟩:=e1;have hrun:=wl (P:=P) (off:=0) hok hw;have hlen:=zw _ _ hdl
    split at hne
    · rename_i ha hn;have hn:=jGP hn;have hsz:vs.size=ti.size:=(by rw[←jHm,←hlen];exact hn);refine⟨_,⟨_,e2,hrun.1 ha (by omega)⟩,?_⟩;have htk:(vs.toList.drop 0).take ti.size=vs.toList:=(by rw[List.drop_zero,←hsz];exact jHH (by simp));rw[htk];simp only[SV.den];exact⟨_,rfl,by simpa using hdl,fun u hu=>h1 u (by simpa using hu)⟩
    · rename_i ha hn
      split at hne
      · rename_i v;simp only[SV.denL] at hdl;obtain⟨u,r,e,hu,rfl⟩:=hdl;refine⟨u,⟨_,e2,hrun.2 ha u (by rw[←jHB,e];rfl)⟩,?_⟩;exact hu
      · exact absurd rfl hne
    · exact absurd rfl hne
theorem jyp {σ:St} {t:Ty}:qH σ t .any=none:=by
  unfold qH
  split
  · contradiction
  · contradiction
  · split
    · rfl
    · cases t<;>rfl
theorem jf4 {B:zF} {σ τ:St} {ρ:Env} {w:World} {a:Act} {fz:List Nat} (hC:C.ok P) (hS:Sat P B ρ τ.obj w) (hF:Frz σ τ fz) (hd:∀s,SV.den P ρ (σ.get s) (a.tmps.getD s undef)):
    ∀(rs:List Ty) (rv:List ResultVar) (r:(Ty.st rs).Data),jrK C σ rs rv=some r→(∀o,o∈jy7 C σ rs rv→o∈fz)→
      ∃vs:List Value,jes P w a.tmps rv vs∧rvs ρ.H rs vs r
  |[],[],r,_,_=>⟨[],rfl,rfl⟩
  |[],_::_,r,h,_=>by simp[jrK] at h
  |_::_,[],r,h,_=>by simp[jrK] at h
  |t::ts,v::rv,r,h,hf=>by
    simp only[jrK] at h
    split at h
    case h_2=>cases h
    rename_i x fz' hx
    split at h
    case h_2=>cases h
    rename_i y hy
    simp at h
    subst h
    simp only[jy7] at hf
    rw[hx] at hf
    obtain⟨vs,e,hr⟩:=jf4 hC hS hF hd ts rv y hy (fun o ho=>hf o (jGQ _ ho))
    obtain⟨u,h1,h2⟩:=jtZ hC hS hF hd v (fun e=>by rw[e,jyp] at hx;cases hx)
    exact⟨u::vs,⟨h1,e⟩,jM hS hF hx (fun o ho=>hf o (jGR _ ho)) h2,hr⟩
def jvY:List Value→Value
  |[v]=>v
  |vs=> .tuple vs.toArray
theorem jae {fn:Func} {tmps:Array Value} {w:World} {vs:List Value} (h:jes P w tmps fn.results.toList vs):
    (Go.results fn tmps).run P w=Result.ok (jvY vs) w:=by
  have key:∀(g:ResultVar→Sem Value),(∀t,g (.tmp t)=pure (tmps.getD t undef))→(∀a t,g (.cell a t)=(do loadVar t (←asAddr (tmps.getD a undef))))→
      ∀(l:List ResultVar) (vs:List Value),jes P w tmps l vs→(l.mapM g).run P w=Result.ok vs w:=by
    intro g hg hc l
    induction l with
    |nil=>intro vs h;simp only[jes] at h;subst h;rfl
    |cons s l ih=>
      intro vs h;cases vs with
      |nil=>exact h.elim
      |cons v vs=>
        obtain⟨h1,h2⟩:=h;have one:(g s).run P w= .ok v w:=by
          cases s with
          |tmp t=>simp only[jt6] at h1;subst h1;rw[hg];rfl
          |cell a t=>
            obtain⟨ad,e1,e2⟩:=h1;rw[hc,e1];simp[asAddr,e2]
        rw[List.mapM_cons];simp only[Sem.run_bind,one,ih vs h2,Sem.run_pure,Result.andThen_ok]
  have e:fn.results=fn.results.toList.toArray:=(by simp);unfold Go.results;rw[e];simp only[List.mapM_toArray,Sem.run_bind,Sem.run_map];rw[key _ (fun _=>rfl) (fun _ _=>rfl) _ vs h];simp only[Result.andThen_ok,Sem.run_pure];cases vs with
  |nil=>rfl
  |cons v vs=>cases vs with
    |nil=>rfl
    |cons v' vs=>simp[jvY]
theorem jf2 {fn:Func} {ss:List Nat} (h:fn.results.toList=ss.map ResultVar.tmp) (tmps:Array Value) (w:World):
    (Go.results fn tmps).run P w=Result.ok (match ss.map fun s=>tmps.getD s undef with|[v]=>v|vs=> .tuple vs.toArray) w:=by
  have:∀l:List Nat,jes P w tmps (l.map ResultVar.tmp) (l.map fun s=>tmps.getD s undef):=by
    intro l
    induction l with
    |nil=>rfl
    |cons s l ih=>exact⟨rfl,ih⟩
  rw[jae (vs:=ss.map fun s=>tmps.getD s undef) (by rw[h];exact this ss)];generalize ss.map (fun s=>tmps.getD s undef)=vs;cases vs with
  |nil=>rfl
  |cons v vs=>cases vs with
    |nil=>rfl
    |cons v' vs=>rfl
theorem jGn (hC:C.ok P) (hm:P.follows .mixedOrders=true) {f:Nat} {fn:Func} {body:Code} {s:jW} (hf:P.funcs[f]? =some fn) (hb:fn.body=some body)
    (hname:(fn.name== "runtime.NumGoroutine")=false) (hn:fn.ntmps=C.n) (hps:s.ps.length≤C.n) (A:Ann) (h:zq C A fn body s):ze P f s:=by
  unfold zq at h;refine⟨qb hf hb hname,fun H w vals d hg hp hpre=> ?_⟩;have hlen:=yN hp;refine calls_of_wp hf hb ?_;have hv:=vZ _ _ (h d) hpre
  let ρ:Env:=⟨H,fun _=>none,fun _=>0⟩
  have hS:Sat P ⟨w,H,[],fun _=>none,fun _=>0⟩ ρ (⟨ko s.ps d 0,[]⟩:St).obj w:=by
    refine⟨rfl,rfl,rfl,jGU _,jGU _,hg,fun _ _ _=>rfl,fun _ _ _=>rfl,?_,fun _ _=>rfl,?_,?_⟩
    · intro o x hx;simp[St.obj,jF] at hx
    · intro o o' b C1 C2 h1;simp[ρ] at h1
    · intro o b C1 h1;simp[ρ] at h1
  have hR:Rel P ⟨w,H,[],fun _=>none,fun _=>0⟩ C.n ⟨ko s.ps d 0,[]⟩ {tmps:=vals.toArray++Array.replicate (fn.ntmps-vals.toArray.size) undef,defers:=[]} w:=by
    refine⟨rfl,by simp;omega,ρ,hS,?_,fun o p _ hb=>by simp[ρ] at hb,fun _ _ hb=>hb⟩;intro k v hk;obtain⟨x,h1,h2⟩:=wU (P:=P) (ρ:=ρ) s.ps vals d 0 hp k v hk;have hlt:=(jGW.1 h1).1;simp only[Nat.sub_zero] at h1 hlt;have:(vals.toArray++Array.replicate (fn.ntmps-vals.toArray.size) undef).getD k undef=x:=by
      rw[jG0,jHE (by simpa using hlt)];simp[h1]
    rw[this];exact h2
  refine wC hC hm A body _ _ _ _ w hv hR (fun e σ a' w' _ hK hR'=> ?_);have main:(match jrK C σ s.rs fn.results.toList with|some r=>r=s.F d|none=>False)→a'.defers=[]∧∃v,(Go.results fn a'.tmps).run P w'= .ok v w'∧jDn H w s.rs (s.F d) (.returned v) w':=by
    intro hr
    split at hr
    case h_2=>exact hr.elim
    rename_i r hres;subst hr;obtain⟨h1,h2,ρ',hS',hSl,_⟩:=hR';obtain⟨ρ2,hS2,hle,_,_⟩:=jP (σ:=σ) (jy7 C σ s.rs fn.results.toList) hS';have hd:∀k,SV.den P ρ2 (σ.get k) (a'.tmps.getD k undef):=by
      intro k;have:=jK (P:=P) (a:=a') hSl (.tmp k);exact SV.den_mono hle _ _ (fun o ho=>by simp at ho) this
    obtain⟨vs,e1,e2⟩:=jf4 hC hS2 (qa σ _) hd s.rs _ _ hres (fun o ho=>ho);refine⟨h1,_,jae e1,⟨_,ρ2.H,rfl,?_,?_⟩⟩
    · have below:Below w.heap.size w w':=⟨hS2.os,hS2.tape,hS2.output,hS2.size,fun b hb=>hS2.old b hb (by simp)⟩;exact⟨below,hS2.good,fun b hb=>hS2.oldH b hb (by simp),hS2.drawn⟩
    · generalize s.F d=r at e2;clear e1 hres;revert vs r;generalize s.rs=rs;intro vs r e2;cases rs with
      |nil=>simp only[rvs] at e2;subst e2;exact⟨_,rfl,rfl⟩
      |cons t ts=>
        cases vs with
        |nil=>exact e2.elim
        |cons v vs=>
          cases ts with
          |nil=>simp only[rvs] at e2;obtain⟨e3,e4⟩:=e2;subst e4;exact e3
          |cons t2 ts=>
            cases vs with
            |nil=>exact e2.2.elim
            |cons v2 vs=>exact⟨_,rfl,e2⟩
  cases e with
  |normal=>exact main hK
  |ret=>exact main hK
  |exit id=>exact hK.elim
end
end Go.X
