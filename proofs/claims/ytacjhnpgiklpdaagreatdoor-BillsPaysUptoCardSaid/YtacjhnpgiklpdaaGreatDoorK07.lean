/-
  Part 7 of the road: a checked reading of bodies, and what the functions on it do (PW1 PW4 VW2 PW2 VW3 PW3 LW).
-/
import Derived.Test.YtacjhnpgiklpdaaGreatDoorK06
import Derived.Test.YtacjhnpgiklpdaaGreatDoorCards
import Derived.Test.YtacjhnpgiklpdaaGreatDoorTie
import Derived.Deep.DeepHandedRow
import Derived.Lib.LaidTab
namespace Go.X
open U
open Go.Proofs
theorem jdX (l:LgD) (n:Int):BQ l n=iv l n:=by
 unfold BQ iv
 split
 rename_i h;obtain⟨a,b⟩:=YK h;exact YH a (Sn.1 b);rfl
theorem jdY (l:LgD):GI l=pA l:=by
 unfold GI pA
 split
 rename_i h;have a:=aS h;exact MV _ fun b c=>YH a (by omega)
 rfl
theorem jdZ (l:LgD):GJ l=pB l:=by
 unfold GJ pB
 split
 rename_i h;rw[YG (aS h)];rfl
theorem jd0 (l:LgD):GK l=pC l:=by
 unfold GK pC
 split
 rename_i h;rw[uA (aS h)];rfl
theorem jbj:Y6:=fun _ _ _ _ _ _=>rfl
theorem Y7:w9 PR 8 Y5:=wT jbj Tryz.func8 (kcC Yi kcN) koN
theorem HS {l:LgD} (h:Q2 l=false):Kf l:=by
 unfold Q2 at h;simp only[jT,jI] at h;obtain⟨⟨⟨⟨⟨a,b⟩,c⟩,d⟩,e⟩,f⟩:=h;exact⟨jaR a,by omega,by omega,by omega,by omega,by omega⟩
theorem Y8 {l:LgD} (h:Q2 l=false):(qi (wq l)).length<=100000/\(wm (wq l)).length<=1000000:=by
 have a:=(HS h).1;have b:=a.2.2.2.1;have c:=a.2.2.1;omega
theorem J4:Gy:=by
 rintro⟨a,b,⟨⟩⟩ _ l;refine⟨fun h=> ?_,fun h=>⟨⟨0,⟨⟨rfl,tZ⟩,tZ⟩,jl _,fun j k=>by omega⟩,fun x g f=>⟨fun c=>⟨jU _,ja c,jU _,?_,fun d=> ?_,fun d=> ?_⟩,fun c=> ?_⟩⟩⟩;have h:(a.length:Int)≠b.length:=ja h;have:¬a=b:=fun e=>h (by rw[e])
 show(false,())=(decide (a=b),());rw[zp this];have h:(a.length:Int)=b.length:=jM.1 (jc h);have c:(x:Int)<a.length:=ja c;show(x:Int)<b.length;omega;have d:nth a x≠nth b x:=ja d;have:¬a=b:=fun e=>d (by rw[e])
 show(false,())=(decide (a=b),());rw[zp this];have c:(x:Int)<a.length:=ja c;have d:nth a x=nth b x:=jM.1 (jc d);have f:a.length<4611686018427387904:=f;refine⟨iZ6,x+1,⟨⟨by simp,tZ⟩,tZ⟩,⟨by show x+1<=a.length;omega,fun j k=> ?_⟩,by show a.length-(x+1)<a.length-x;omega⟩;by_cases e:j=x;subst e;exact d;exact g.2 j (by omega);have h:(a.length:Int)=b.length:=jM.1 (jc h);have c:¬(x:Int)<a.length:=jc c;have e:a=b:=L.ext_nth (by omega) fun i hi=>g.2 i (by omega)
 show(true,())=(decide (a=b),());rw[jG e]
theorem pv:w9 PR 27 Gw:=vb Gx J4 Tryz.func27 kcN koN
theorem Nc:J2:=fun _=>rfl
theorem J5:w9 PR 32 J1:=wT Nc Tryz.func32 (kcC Jq kcN) koN
theorem jd1:wU AI=0:=by decide+kernel
theorem jd2:Nt AI=[940,100]:=by decide+kernel
theorem jd3:BQ AI 2=[390,390,0,0]:=by decide+kernel
theorem jd4:GG AI 0 0=185:=by decide+kernel
theorem jbk:Nx AI 0 0=0:=by decide+kernel
theorem jbl:Nw AI 0 0= -940:=by decide+kernel
theorem jfq:qk AI (qU AI 2)=0:=by decide+kernel
theorem jfs:qk AI (qU AI 0&&gB 0)=0:=by decide+kernel
theorem Vh:QO:=by
 unfold QO jkp;intro _;have a:(qi (wq AI)).length<=100000:=(by decide+kernel);refine⟨a,a,a,a,?_⟩;rw[jd1,jfq,jfs,jbk,jd2,jd3,jd4,jbl];rfl
theorem QP:w9 PR 9 QN:=wT Vh Tryz.func9 (kcC J5 (kcC QI (kcC Sv (kcC Vf (kcC QM (kcC pv kcN)))))) koN
theorem Gz:E4:=by
 unfold E4 jkq jk6;rintro⟨l,b,⟨⟩⟩ _;refine⟨fun _=>rfl,fun h=> ?_⟩;have h:Q2 l=false:=h;obtain⟨a,c⟩:=Y8 h;refine⟨HS h,a,c,a,c,?_⟩;show(decide (BQ l b=iv l b)&&decide (qk l (qU l b)=qk l (qU l b))&&decide (GI l=pA l)&&decide (GJ l=pB l)&&decide (GK l=pC l)&&decide (wU l=wU l)&&true,())=(true,());rw[jG (jdX l b),jG (jdY l),jG (jdZ l),jG (jd0 l),jG rfl,jG rfl];rfl
theorem Y9:w9 PR 7 E3:=wT Gz Tryz.func7 (kcC Y7 (kcC QP (kcC U8 (kcC Sv (kcC YW (kcC J0 (kcC Gv (kcC pv kcN)))))))) koN
end Go.X
namespace Go.X
open U
open Go.Proofs
end Go.X
namespace Go.X
open U
open Go.Proofs
open Go.Proofs Go.Proofs.YtacjhnpgiklpdaaGreatDoor
noncomputable def jbm:Array Field:=match Tryz.prog.underlying 63 with|some (.struct fs)=>fs|_=> #[]
theorem jft:Tryz.prog.globalNamed "handshape/rosters.some"=some 0:=by kernel_rfl
theorem jfu:(Tryz.prog.globals[0]?).map (·.type)=some 63:=by kernel_rfl
theorem jgK:Tryz.prog.underlying 63=some (.struct jbm):=by kernel_rfl
theorem jgL:Tryz.prog.underlying 3=some (.int .i64):=by kernel_rfl
theorem jgM:Tryz.prog.cellsOf 3=1:=by kernel_rfl
noncomputable def eK (i:Nat):Bool:=match jbm[i]? with|some f=>Nat.beq f.type 3&&Nat.beq f.offset i|none=>false
theorem fields:(eK 0&&eK 1&&eK 2&&eK 3&&eK 4&&eK 5)=true:=by kernel_rfl
theorem jbn {i:Nat} (h:eK i=true):∃f,jbm[i]? =some f/\f.type=3/\f.offset=i:=by
 unfold eK at h
 split at h
 rename_i f a;rw[ji] at h;exact⟨f,a,jb h.1,jb h.2⟩;cases h
theorem jbo {H:Type} {enc:TypeId×Value->H} {w:World} {base:Nat} {sp:Nat->Bool} {a:Bool} {n:Nat} {cs:List Value} {xs:List (DataW H×List MemPlace)} {d:List Int} (o:xs.map (·.1)=d.map fun z=>(DataW.lit (.int .i64 z):DataW H))
 (k:∀(i:Nat) (f:Field),jbm[i]? =some f->DataW.trod enc Tryz.prog w base sp a n f.type ((cs.drop f.offset).take (Tryz.prog.cellsOf f.type))=xs[i]?) {i:Nat} {z:Int} (hi:eK i=true) (q:d[i]? =some z):cs[i]? =some (.int .i64 z):=by
 obtain⟨f,g,h,j⟩:=jbn hi;have b:=k i f g;rw[h,j,jgM] at b;have c:(xs.map (·.1))[i]? =some (DataW.lit (.int .i64 z):DataW H):=(by rw[o,zV,q];rfl);rw[zV] at c;obtain⟨y,p,e⟩:=ki.1 c;rw[p] at b;obtain⟨m,l,rfl,_⟩:=DataW.trod_int jgL b;have e:m=z:=by
  have e:(DataW.lit (.int .i64 m):DataW H)=DataW.lit (.int .i64 z):=e;simpa only[DataW.lit.injEq,Lit.int.injEq,true_and] using e
 subst e;have:=jD (·[0]?) l;simpa[zS,zi] using this
theorem jge {W:World} (h:laidMet Tryz.prog [("handshape/rosters.some",Rows.laid_handshape_rosters_some)] W):jcu (Hof W):=by
 obtain⟨ps,⟨H,E,cs,k,p,q,d,f,a,A,_,_⟩,_⟩:=h;obtain rfl:=Option.some.inj (jft.symm.trans d);obtain rfl:=Option.some.inj (jfu.symm.trans f);obtain⟨xs,n,_,C,I,l,B⟩:=DataW.trod_struct jgK A;have j:xs.map (·.1)=[0,1,0,0,0,1].map fun z=>(DataW.lit (.int .i64 z):DataW Unit):=by
  have e:=jD Prod.fst C;have e:(DataW.agg [.lit (.int .i64 0),.lit (.int .i64 1),.lit (.int .i64 0),.lit (.int .i64 0),.lit (.int .i64 0),.lit (.int .i64 1)]:DataW Unit)= .agg (xs.map (·.1)):=e;simp only[DataW.agg.injEq] at e;exact e.symm
 have fs:=fields;simp only[ji] at fs;obtain⟨⟨⟨⟨⟨o,r⟩,s⟩,u⟩,v⟩,w⟩:=fs;have c:∀{i:Nat} {z:Int},eK i=true->([0,1,0,0,0,1]:List Int)[i]? =some z->cs[i]? =some (.int .i64 z):=fun hi D=>by
  have:=jbo j B hi D;simpa using this
 unfold World.var? at a;rw[jft] at a;intro g x b;have b:wS [(0,(⟨.st [.int,.int,.int,.int,.int,.int],((0:Int),(1:Int),(0:Int),(0:Int),(0:Int),(1:Int),())⟩:(t:Ty)×t.Data))] g=some x:=b;have y:Hof W 0=some (.cells cs):=by
  unfold Hof;simp only[Option.bind_some] at a
  split at a
  rename_i F E G e;rw[e];have:=Option.some.inj a;rw[this];cases a
 have m:=qV _ _ _ b;simp only[kX,Prod.mk.injEq] at m;obtain⟨rfl,rfl⟩:=m;exact⟨cs,y,c o rfl,c r rfl,c s rfl,c u rfl,c v rfl,c w rfl,tZ⟩
end Go.X
