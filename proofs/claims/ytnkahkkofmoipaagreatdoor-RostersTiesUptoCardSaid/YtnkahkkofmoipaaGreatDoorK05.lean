/-
  Part 5 of the road: a checked reading of bodies, and what the functions on it do (T L BT BS NL DF RC FX A1 P1 A2 P2 A4 P4 A5 P5 A3 P6 CM MP O1 B1 P7 IS B2 P8 B3 P9 DI B4).
-/
import Derived.Test.YtnkahkkofmoipaaGreatDoorK04
import Derived.Test.YtnkahkkofmoipaaGreatDoorProg
import Derived.KernelRfl
import Derived.Shelf.SlSortCmp.WholeK
import Derived.Shelf.Sort.Plain
namespace Go.X
open Go.Proofs
abbrev bT:=true
abbrev bF:=false
abbrev vO:Value:=.int .i64 0
abbrev qy0:Ty:=.st [.int,.int]
abbrev qy1:Ty:=.ptr (.uint .u8)
abbrev qy2:Ty:=.ptr (.uint .u64)
abbrev qy3:Ty:=.slice (.slice .int)
abbrev qy4:Ty:=.st [.int,.int,.bool]
abbrev qy5:Ty:=.slice qy0
abbrev qy6:Ty:=.slice qy4
abbrev qy7:Ty:=.st [.int,.int,.bool,.uint .u8]
abbrev qy8:Ty:=.st [.int,.int,.int,.int,.int]
abbrev qy9:Ty:=.slice qy5
abbrev qy10:Ty:=.st [.int,.int,.int,.int,.int,.int]
abbrev qy11:Ty:=.slice qy8
abbrev qy12:Ty:=.slice qy10
abbrev qy13:Ty:=.slice qy11
abbrev qy14:Ty:=.st [.slice .int,.int,.int,.slice .int,.bool,.int]
abbrev qy15:Ty:=.map qy0 qy8
abbrev qy16:Ty:=.st [qy10,.int,.int,.int]
abbrev qy17:Ty:=.slice qy14
abbrev qy18:Ty:=.slice qy16
abbrev qy19:Ty:=.st [.int,qy17,qy6]
abbrev qy20:Ty:=.st [qy19,qy10,qy4]
abbrev qy21:Ty:=.ptr qy20
abbrev qy22:Ty:=.st [qy19,qy9,qy18,.int,.int,qy11]
abbrev qy23:Ty:=.slice qy22
abbrev qy24:Ty:=.st [qy22,.slice .int,qy3,.slice .int]
abbrev qy25:Ty:=.ptr qy24
abbrev qy26:Ty:=.st [qy25,qy3,.slice .int,.slice .int,.int,.bool]
abbrev qy27:Ty:=.ptr qy26
def rr (i:Nat)(t:Ty)(n:Nat)(a:Bool)(f:List (Nat×Nat))(s:Bool)(e b:Nat)(z:List Value)(c m:Bool)(k:Nat)(q:Bool):TI:=⟨i,t,n,a,f,s,e,b,z,c,m,k,q,false,false,false⟩
def rf (i:Nat):TI:=⟨i,.unit,1,false,[],false,0,8,[.nilFunc],false,false,0,false,false,false,true⟩
def rq (i:Nat):TI:=⟨i,.unit,1,false,[],false,0,8,[.pointer none],false,false,0,false,false,true,false⟩
def ti:List TI:=[
 rf 1,
 rr 2 .int 1 bF [] bF 0 8 [vO] bF bF 0 bT,
 rr 3 .int 1 bF [] bF 0 8 [vO] bF bF 0 bT,
 rr 4 .bool 1 bF [] bF 0 1 [.bool false] bT bF 0 bF,
 rr 5 (.uint .u8) 1 bF [] bF 0 1 [.int .u8 0] bF bF 0 bF,
 rr 6 (.uint .u8) 1 bF [] bF 0 1 [.int .u8 0] bF bF 0 bF,
 rr 7 qy7 4 bT [(0,2),(1,3),(2,4),(3,6)] bF 0 24 [vO,vO,.bool false,.int .u8 0] bT bF 0 bT,
 rr 8 qy7 4 bT [(0,2),(1,3),(2,4),(3,6)] bF 0 24 [vO,vO,.bool false,.int .u8 0] bT bF 0 bT,
 rr 12 (.uint .u64) 1 bF [] bF 0 8 [.int .u64 0] bF bF 0 bF,
 rq 15,
 rq 16,
 rq 17,
 rr 18 .unit 1 bT [(0,17)] bF 0 8 [.pointer none] bF bF 0 bF,
 rr 19 .unit 1 bT [(0,17)] bF 0 8 [.pointer none] bF bF 0 bF,
 rr 21 (.uint .i32) 1 bF [] bF 0 4 [.int .i32 0] bF bF 0 bF,
 rr 22 qy17 1 bF [] bT 102 24 [.slice none 0 0] bF bF 0 bF,
 rr 23 qy6 1 bF [] bT 104 24 [.slice none 0 0] bF bF 0 bF,
 rr 24 qy19 3 bT [(0,3),(1,22),(2,23)] bF 0 56 [vO,.slice none 0 0,.slice none 0 0] bF bF 0 bF,
 rr 25 qy19 3 bT [(0,3),(1,22),(2,23)] bF 0 56 [vO,.slice none 0 0,.slice none 0 0] bF bF 0 bF,
 rr 26 qy9 1 bF [] bT 75 24 [.slice none 0 0] bF bF 0 bF,
 rr 27 qy18 1 bF [] bT 62 24 [.slice none 0 0] bF bF 0 bF,
 rr 28 qy11 1 bF [] bT 54 24 [.slice none 0 0] bF bF 0 bF,
 rr 29 qy22 8 bT [(0,25),(3,26),(4,27),(5,3),(6,3),(7,28)] bF 0 144 [vO,.slice none 0 0,.slice none 0 0,.slice none 0 0,.slice none 0 0,vO,vO,.slice none 0 0] bF bF 0 bF,
 rr 30 qy22 8 bT [(0,25),(3,26),(4,27),(5,3),(6,3),(7,28)] bF 0 144 [vO,.slice none 0 0,.slice none 0 0,.slice none 0 0,.slice none 0 0,vO,vO,.slice none 0 0] bF bF 0 bF,
 rf 31,
 rf 32,
 rr 33 (.slice .int) 1 bF [] bT 3 24 [.slice none 0 0] bF bF 0 bF,
 rr 34 .int 1 bF [] bF 0 8 [vO] bF bF 0 bT,
 rf 36,
 rf 37,
 rf 38,
 rf 39,
 rf 41,
 rr 42 qy0 2 bT [(0,3),(1,3)] bF 0 16 [vO,vO] bT bF 0 bT,
 rr 43 qy0 2 bT [(0,3),(1,3)] bF 0 16 [vO,vO] bT bF 0 bT,
 rf 44,
 rf 45,
 rf 47,
 rf 48,
 rf 50,
 rf 51,
 rf 52,
 rr 53 qy8 5 bT [(0,3),(1,3),(2,3),(3,3),(4,3)] bF 0 40 [vO,vO,vO,vO,vO] bT bF 0 bT,
 rr 54 qy8 5 bT [(0,3),(1,3),(2,3),(3,3),(4,3)] bF 0 40 [vO,vO,vO,vO,vO] bT bF 0 bT,
 rf 55,
 rf 56,
 rf 57,
 rf 58,
 rr 59 qy10 6 bT [(0,3),(1,3),(2,3),(3,3),(4,3),(5,3)] bF 0 48 [vO,vO,vO,vO,vO,vO] bT bF 0 bT,
 rr 60 qy10 6 bT [(0,3),(1,3),(2,3),(3,3),(4,3),(5,3)] bF 0 48 [vO,vO,vO,vO,vO,vO] bT bF 0 bT,
 rr 61 qy16 9 bT [(0,60),(6,3),(7,3),(8,3)] bF 0 72 [vO,vO,vO,vO,vO,vO,vO,vO,vO] bT bF 0 bT,
 rr 62 qy16 9 bT [(0,60),(6,3),(7,3),(8,3)] bF 0 72 [vO,vO,vO,vO,vO,vO,vO,vO,vO] bT bF 0 bT,
 rf 63,
 {rr 64 qy25 1 bF [] bF 0 8 [.pointer none] bF bF 0 bF with pt:=true},
 rf 66,
 {rr 67 qy27 1 bF [] bF 0 8 [.pointer none] bF bF 0 bF with pt:=true},
 rr 68 qy3 1 bF [] bT 33 24 [.slice none 0 0] bF bF 0 bF,
 rr 69 qy26 6 bT [(0,64),(1,68),(2,33),(3,33),(4,3),(5,4)] bF 0 96 [.pointer none,.slice none 0 0,.slice none 0 0,.slice none 0 0,vO,.bool false] bF bF 0 bF,
 rr 70 qy26 6 bT [(0,64),(1,68),(2,33),(3,33),(4,3),(5,4)] bF 0 96 [.pointer none,.slice none 0 0,.slice none 0 0,.slice none 0 0,vO,.bool false] bF bF 0 bF,
 rr 71 qy24 11 bT [(0,30),(8,33),(9,68),(10,33)] bF 0 216 [vO,.slice none 0 0,.slice none 0 0,.slice none 0 0,.slice none 0 0,vO,vO,.slice none 0 0,.slice none 0 0,.slice none 0 0,.slice none 0 0] bF bF 0 bF,
 rr 72 qy24 11 bT [(0,30),(8,33),(9,68),(10,33)] bF 0 216 [vO,.slice none 0 0,.slice none 0 0,.slice none 0 0,.slice none 0 0,vO,vO,.slice none 0 0,.slice none 0 0,.slice none 0 0,.slice none 0 0] bF bF 0 bF,
 rf 73,
 rf 74,
 rr 75 qy5 1 bF [] bT 92 24 [.slice none 0 0] bF bF 0 bF,
 rf 76,
 rf 77,
 rf 78,
 rf 79,
 rf 80,
 rf 81,
 rf 82,
 rf 84,
 rf 85,
 rf 86,
 rf 87,
 rf 88,
 rf 89,
 rf 90,
 rr 91 qy0 2 bT [(0,3),(1,3)] bF 0 16 [vO,vO] bT bF 0 bT,
 rr 92 qy0 2 bT [(0,3),(1,3)] bF 0 16 [vO,vO] bT bF 0 bT,
 rf 93,
 rf 94,
 rr 95 (.uint .u64) 1 bF [] bF 0 8 [.int .u64 0] bF bF 0 bF,
 rf 96,
 rr 97 qy23 1 bF [] bT 30 24 [.slice none 0 0] bF bF 0 bF,
 rf 98,
 rf 99,
 rf 100,
 rr 101 qy14 6 bT [(0,33),(1,3),(2,3),(3,33),(4,4),(5,3)] bF 0 80 [.slice none 0 0,vO,vO,.slice none 0 0,.bool false,vO] bF bF 0 bF,
 rr 102 qy14 6 bT [(0,33),(1,3),(2,3),(3,33),(4,4),(5,3)] bF 0 80 [.slice none 0 0,vO,vO,.slice none 0 0,.bool false,vO] bF bF 0 bF,
 rr 103 qy4 3 bT [(0,3),(1,3),(2,4)] bF 0 24 [vO,vO,.bool false] bT bF 0 bT,
 rr 104 qy4 3 bT [(0,3),(1,3),(2,4)] bF 0 24 [vO,vO,.bool false] bT bF 0 bT,
 rf 105,
 rf 106,
 rr 107 qy12 1 bF [] bT 60 24 [.slice none 0 0] bF bF 0 bF,
 rf 109,
 rf 110,
 rf 111,
 rf 113,
 rf 114,
 rf 115,
 rf 116,
 rf 117,
 rf 118,
 rf 119,
 rf 120,
 rf 121,
 rf 122,
 rf 123,
 rf 124,
 rr 125 (.map .int .int) 1 bF [] bF 3 8 [.map none] bF bT 3 bF,
 rf 126,
 rf 127,
 rf 128,
 rf 129,
 rf 130,
 rf 131,
 rf 132,
 rf 133,
 rf 134,
 rf 135,
 rf 136,
 rr 137 qy13 1 bF [] bT 28 24 [.slice none 0 0] bF bF 0 bF,
 rf 138,
 rf 139,
 rf 140,
 rf 141,
 rf 142,
 {rr 143 qy21 1 bF [] bF 0 8 [.pointer none] bF bF 0 bF with pt:=true},
 rf 145,
 rr 146 (.uint .u64) 1 bF [] bF 0 8 [.int .u64 0] bF bF 0 bF,
 rf 147,
 rr 148 qy15 1 bF [] bF 54 8 [.map none] bF bT 150 bF,
 rr 149 qy0 2 bT [(0,3),(1,3)] bF 0 16 [vO,vO] bT bF 0 bT,
 rr 150 qy0 2 bT [(0,3),(1,3)] bF 0 16 [vO,vO] bT bF 0 bT,
 rf 151,
 rf 152,
 rf 153,
 rf 154,
 rf 155,
 rf 156,
 rf 157,
 rf 158,
 rf 159,
 rf 160,
 rf 161,
 rf 162,
 rf 163,
 rf 164,
 rf 165,
 rf 166,
 rr 167 qy20 12 bT [(0,25),(3,60),(9,104)] bF 0 128 [vO,.slice none 0 0,.slice none 0 0,vO,vO,vO,vO,vO,vO,vO,vO,.bool false] bF bF 0 bF,
 rr 168 qy20 12 bT [(0,25),(3,60),(9,104)] bF 0 128 [vO,.slice none 0 0,.slice none 0 0,vO,vO,vO,vO,vO,vO,vO,vO,.bool false] bF bF 0 bF,
 rf 169,
 rf 170,
 rf 171,
 rf 172,
 rf 173,
 rf 174,
 rf 175,
 rf 176,
 rf 177,
 rf 178,
 rf 179,
 rr 180 .int 1 bF [] bF 0 8 [vO] bF bF 0 bT,
 rf 182,
 rf 183,
 rf 184,
 rf 186,
 rf 187,
 rr 188 (.uint .u32) 1 bF [] bF 0 4 [.int .u32 0] bF bF 0 bF,
 rf 189,
 rr 190 (.uint .u64) 1 bF [] bF 0 8 [.int .u64 0] bF bF 0 bF,
 rf 191,
 rf 192,
 rf 193,
 rf 194,
 rf 195,
 rf 196,
 rf 197,
 rf 198,
 rf 199,
 rf 200,
 rf 201,
 rf 202,
 rr 203 (.uint .u64) 1 bF [] bF 0 8 [.int .u64 0] bF bF 0 bF,
 rf 204,
 rf 205,
 rf 206,
 {rr 207 (.ptr .int) 1 bF [] bF 0 8 [.pointer none] bF bF 0 bF with pt:=true},
 rf 208,
 rf 209,
 rf 210,
 rf 211,
 rf 212,
 rf 213,
 rf 214,
 rf 215,
 rf 217,
 {rr 218 qy2 1 bF [] bF 0 8 [.pointer none] bF bF 0 bF with pt:=true},
 rf 220,
 rf 221,
 rf 222,
 rf 223,
 rf 225,
 rf 227,
 rf 228,
 rf 229,
 rr 233 .unit 0 bT [(0,232)] bF 0 0 [] bF bF 0 bF,
 rr 234 .unit 0 bT [(0,232)] bF 0 0 [] bF bF 0 bF,
 rr 235 (.uint .u8) 1 bF [] bF 0 1 [.int .u8 0] bF bF 0 bF,
 rr 236 (.uint .u8) 1 bF [] bF 0 1 [.int .u8 0] bF bF 0 bF,
 rf 237,
 {rr 238 qy1 1 bF [] bF 0 8 [.pointer none] bF bF 0 bF with pt:=true},
 rr 239 (.uint .i32) 1 bF [] bF 0 4 [.int .i32 0] bF bF 0 bF,
 rr 240 (.uint .i32) 1 bF [] bF 0 4 [.int .i32 0] bF bF 0 bF,
 rr 241 .unit 11 bT [(0,12),(1,12),(2,188),(3,235),(4,5),(5,5),(6,236),(7,237),(8,238),(9,239),(10,240)] bF 0 48 [.int .u64 0,.int .u64 0,.int .u32 0,.int .u8 0,.int .u8 0,.int .u8 0,.int .u8 0,.nilFunc,.pointer none,.int .i32 0,.int .i32 0] bF bF 0 bF,
 rr 242 .unit 11 bT [(0,12),(1,12),(2,188),(3,235),(4,5),(5,5),(6,236),(7,237),(8,238),(9,239),(10,240)] bF 0 48 [.int .u64 0,.int .u64 0,.int .u32 0,.int .u8 0,.int .u8 0,.int .u8 0,.int .u8 0,.nilFunc,.pointer none,.int .i32 0,.int .i32 0] bF bF 0 bF,
 rf 243,
 rf 245]
def strs:List Nat:=[9,10,11]
noncomputable abbrev PR:Program:=Tryz.prog
theorem jAg:ti.all (jCF PR)=true:=by kernel_rfl
def jAT (P:Program) (k:Nat):Bool:=match P.underlying k with|some .string=>true|_=>false
theorem jwA {P:Program} {l:List Nat} (a:l.all (jAT P)=true) (T:Nat) (h:vz l T=true):P.underlying T=some .string:=by
 have:=jEf.1 a T ((zP _ _).1 h);unfold jAT at this
 split at this
 .assumption
 .cases this
theorem jAk:strs.all (jAT PR)=true:=by kernel_rfl
theorem jvb:∀T,vz strs T=true->PR.underlying T=some .string:=jwA jAk
theorem mixed:PR.follows .mixedOrders=true:=by kernel_rfl
def jDa (n:Nat) (fs:List (Nat×jR)):Ctx:=⟨n,ti,fs,fun _ _ _ _=>none,strs,false⟩
def ctx (n:Nat) (fs:List (Nat×jR)) (os:List (Nat×zw)):Ctx:=⟨n,ti,fs,jCZ (jDa n fs) os,strs,false⟩
def jdV:List (Nat×jR)->Prop
 |[]=>True
 |p::r=>(p.2.own=false->zh PR p.1 p.2)/\jdV r
def ye:List (Nat×zw)->Prop
 |[]=>True
 |p::r=>wD PR p.1 p.2/\ye r
theorem jb2:∀{l:List (Nat×jR)},jdV l->∀f s,jt l f=some s->s.own=false->zh PR f s
 |[],_,f,s,h,_=>by simp[jt] at h
 | (j,x)::r,hk,f,s,h,ho=>by
  simp only[jt] at h
  cases a:Nat.beq j f with
  |true=>rw[a] at h;simp at h;subst h;have:=jDE a;subst this;exact hk.1 ho
  |false=>rw[a] at h;exact jb2 hk.2 f s h ho
theorem jds:∀{l:List (Nat×zw)},ye l->∀f s,jt l f=some s->wD PR f s
 |[],_,f,s,h=>by simp[jt] at h
 | (j,x)::r,hk,f,s,h=>by
  simp only[jt] at h
  cases a:Nat.beq j f with
  |true=>rw[a] at h;simp at h;subst h;have:=jDE a;subst this;exact hk.1
  |false=>rw[a] at h;exact jds hk.2 f s h
theorem jxm {n:Nat} {fs:List (Nat×jR)} (h:jdV fs):(jDa n fs).ok PR:=
 ⟨ju5 jAg,jb2 h,jvb,rfl,fun _ _ _ _ _ a=>by cases a⟩
theorem jjL {n:Nat} {fs:List (Nat×jR)} {os:List (Nat×zw)} (h:jdV fs) (b:ye os):(ctx n fs os).ok PR:=
 ⟨ju5 jAg,jb2 h,jvb,rfl,fun f dst σ svs out a=>jtW (jxm h) (jds b) a⟩
def gd (t:Ty) (σ:St) (s:Nat):t.Data:=match σ.get s with
 | .dat a d=>(match j8 a t d with|some x=>x|none=>t.dflt)
 |_=>t.dflt
def gr (t:Ty) (σ:St) (o:Nat):List t.Data:=match σ.obj o with
 |some (.row _ a _ _ l)=>(match j8 (.slice a) (.slice t) l with|some l'=>l'|none=>[])
 |_=>[]
def gfn (ps rs:List Ty) (σ:St) (s:Nat):(Ty.st ps).Data->(Ty.st rs).Data:=match σ.get s with
 | .fn a b _ F=>if h:a=ps/\b=rs then h.1▸h.2▸F else fun _=>(Ty.st rs).dflt
 |_=>fun _=>(Ty.st rs).dflt
def zz (fn:Func):Code:=match fn.body with|some c=>c|none=> .skip
theorem jDo {f:Nat} {fn:Func} {n:Nat} {fs:List (Nat×jR)} {os:List (Nat×zw)} {s:jR} {A:Ann} (h:jCl (ctx n fs os) A fn (zz fn) s) (d:PR.funcs[f]? =some fn) (c:fn.body=some (zz fn)) (a:(fn.name== "runtime.NumGoroutine")=false)
 (e:fn.ntmps=n) (b:Nat.ble s.ps.length n=true) (hk:jdV fs) (g:ye os):zh PR f s:=
 jC5 (jjL hk g) mixed d c a e (jDT b) A h
theorem jAL {f:Nat} {fn:Func} {n:Nat} {fs:List (Nat×jR)} {os:List (Nat×zw)} {s:zw} {A:Ann} (h:jtV (ctx n fs os) A fn (zz fn) s) (e:PR.funcs[f]? =some fn) (d:fn.body=some (zz fn)) (a:(fn.name== "runtime.NumGoroutine")=false)
 (g:fn.ntmps=n) (c:Nat.ble s.ps.length n=true) (b:ww (jq7 s.ps 0)=true) (hk:jdV fs) (i:ye os):wD PR f s:=
 jBW (jjL hk i) mixed e d a g (jDT c) b A h
theorem kcC {f:Nat} {s:jR} {fs:List (Nat×jR)} (h:zh PR f s) (hk:jdV fs):jdV ((f,s)::fs):=⟨fun _=>h,hk⟩
theorem kcN:jdV []:=trivial
theorem koC {f:Nat} {s:zw} {fs:List (Nat×zw)} (h:wD PR f s) (hk:ye fs):ye ((f,s)::fs):=⟨h,hk⟩
theorem koN:ye []:=trivial
theorem wt (A:Ann) {f:Nat} {fn:Func} {fs:List (Nat×jR)} {os:List (Nat×zw)} {s:jR} {P:Prop} (h:P) (e:PR.funcs[f]? =some fn) (hk:jdV fs) (g:ye os) (d:jCl (ctx fn.ntmps fs os) A fn (zz fn) s=P:=by kernel_rfl) (c:fn.body=some (zz fn):=by kernel_rfl) (a:(fn.name== "runtime.NumGoroutine")=false:=by kernel_rfl) (b:Nat.ble s.ps.length fn.ntmps=true:=by kernel_rfl):zh PR f s:=jDo (d.mpr h) e c a rfl b hk g
theorem jM {f:Nat} {fn:Func} {fs:List (Nat×jR)} {os:List (Nat×zw)} {s:jR} {P:Prop} (h:P) (e:PR.funcs[f]? =some fn) (hk:jdV fs) (g:ye os) (d:jCl (ctx fn.ntmps fs os) (fun _=>none) fn (zz fn) s=P:=by kernel_rfl) (c:fn.body=some (zz fn):=by kernel_rfl) (a:(fn.name== "runtime.NumGoroutine")=false:=by kernel_rfl) (b:Nat.ble s.ps.length fn.ntmps=true:=by kernel_rfl):zh PR f s:=jDo (d.mpr h) e c a rfl b hk g
theorem ji0 (A:Ann) {f:Nat} {fn:Func} {fs:List (Nat×jR)} {os:List (Nat×zw)} {s:zw} {P:Prop} (h:P) (g:PR.funcs[f]? =some fn) (hk:jdV fs) (i:ye os) (e:jtV (ctx fn.ntmps fs os) A fn (zz fn) s=P:=by kernel_rfl) (d:fn.body=some (zz fn):=by kernel_rfl) (a:(fn.name== "runtime.NumGoroutine")=false:=by kernel_rfl) (c:Nat.ble s.ps.length fn.ntmps=true:=by kernel_rfl) (b:ww (jq7 s.ps 0)=true:=by kernel_rfl):wD PR f s:=jAL (e.mpr h) g d a rfl c b hk i
theorem jgK {f:Nat} {fn:Func} {fs:List (Nat×jR)} {os:List (Nat×zw)} {s:zw} {P:Prop} (h:P) (g:PR.funcs[f]? =some fn) (hk:jdV fs) (i:ye os) (e:jtV (ctx fn.ntmps fs os) (fun _=>none) fn (zz fn) s=P:=by kernel_rfl) (d:fn.body=some (zz fn):=by kernel_rfl) (a:(fn.name== "runtime.NumGoroutine")=false:=by kernel_rfl) (c:Nat.ble s.ps.length fn.ntmps=true:=by kernel_rfl) (b:ww (jq7 s.ps 0)=true:=by kernel_rfl):wD PR f s:=jAL (e.mpr h) g d a rfl c b hk i
def jpV (n:Nat) (fs:List (Nat×jR)) (os:List (Nat×zw)) (cs:List (Nat×jdW)) (vs:List (Nat×jnh)):Ctx:=⟨n,ti,fs,jCQ (jDa n fs) os cs vs,strs,false⟩
def jxP:List (Nat×jdW)->Prop
 |[]=>True
 |p::r=>jpR PR p.1 p.2/\jxP r
def jxO:List (Nat×jnh)->Prop
 |[]=>True
 |p::r=>VOK PR p.1 p.2/\jxO r
theorem jjc:∀{l:List (Nat×jdW)},jxP l->∀f s,jt l f=some s->jpR PR f s
 |[],_,f,s,h=>by simp[jt] at h
 | (j,x)::r,hk,f,s,h=>by
  simp only[jt] at h
  cases a:Nat.beq j f with
  |true=>rw[a] at h;simp at h;subst h;have:=jDE a;subst this;exact hk.1
  |false=>rw[a] at h;exact jjc hk.2 f s h
theorem jjb:∀{l:List (Nat×jnh)},jxO l->∀f s,jt l f=some s->VOK PR f s
 |[],_,f,s,h=>by simp[jt] at h
 | (j,x)::r,hk,f,s,h=>by
  simp only[jt] at h
  cases a:Nat.beq j f with
  |true=>rw[a] at h;simp at h;subst h;have:=jDE a;subst this;exact hk.1
  |false=>rw[a] at h;exact jjb hk.2 f s h
theorem jrR {n:Nat} {fs:List (Nat×jR)} {os:List (Nat×zw)} {cs:List (Nat×jdW)} {vs:List (Nat×jnh)} (h:jdV fs) (c:ye os) (a:jxP cs) (d:jxO vs):(jpV n fs os cs vs).ok PR:=
 ⟨ju5 jAg,jb2 h,jvb,rfl,fun f dst σ svs out b=>jtb (jxm h) (jds c) (jjc a) (jjb d) b⟩
theorem jB0 {f:Nat} {fn:Func} {n:Nat} {fs:List (Nat×jR)} {os:List (Nat×zw)} {s:jdW} {A:Ann} (h:jxv (ctx n fs os) A fn (zz fn) s) (d:PR.funcs[f]? =some fn) (c:fn.body=some (zz fn)) (a:(fn.name== "runtime.NumGoroutine")=false)
 (e:fn.ntmps=n) (b:Nat.ble s.ps.length n=true) (hk:jdV fs) (g:ye os):jpR PR f s:=
 jCw (jjL hk g) mixed d c a e (jDT b) A h
end Go.X
namespace Go.X
namespace L
theorem nth_lt {α:Type} [Inhabited α] {l:List α} {i:Nat} (h:i<l.length):nth l i=l[i]:=by
 unfold nth;simp[h]
theorem take_succ {α:Type} [Inhabited α] {l:List α} {i:Nat} (h:i<l.length):l.take (i+1)=l.take i++[nth l i]:=by
 rw[nth_lt h];exact List.take_succ_eq_append_getElem h
theorem mem_nth {α:Type} [Inhabited α] {l:List α} {i:Nat} (h:i<l.length):nth l i∈l:=by
 rw[nth_lt h];exact List.getElem_mem h
theorem mem_iff {α:Type} [Inhabited α] {l:List α} {x:α}:x∈l↔∃i,i<l.length/\nth l i=x:=by
 constructor
 .intro h;obtain⟨i,hi,e⟩:=List.getElem_of_mem h;exact⟨i,hi,by rw[nth_lt hi,e]⟩
 .rintro⟨i,hi,rfl⟩;exact mem_nth hi
theorem all_false {α:Type} [Inhabited α] {l:List α} {i:Nat} {p:α->Bool} (h:i<l.length) (a:p (nth l i)=false):l.all p=false:=by
 rw[jEM];exact⟨nth l i,mem_nth h,by simp[a]⟩
theorem in64 {x:Int} (a: -9223372036854775808<=x) (b:x<=9223372036854775807):jC x:=⟨a,b⟩
end L
end Go.X
namespace Go.X
namespace BT
theorem two_nat (k:Nat):(2:Int)^k=((2^k:Nat):Int):=by simp
theorem div_nat (n k:Nat):(n:Int)/2^k=((n/2^k:Nat):Int):=by simp
theorem pow63 {k:Nat} (h:k<=62):2^k<2^63:=Nat.pow_lt_pow_right (by decide) (by omega)
theorem ofInt_nat {n:Nat} (a:n<2^63):(BitVec.ofInt 64 (n:Int)).toNat=n:=by
 simp only[BitVec.toNat_ofInt];omega
theorem wrap_nat {n:Nat} (h:n<2^63):IntKind.i64.wrap (n:Int)=(n:Int):=by
 unfold IntKind.wrap;simp[IntKind.signed,IntKind.bits];omega
theorem wrapU_nat {n:Nat} (h:n<2^63):IntKind.u64.wrap (n:Int)=(n:Int):=by
 unfold IntKind.wrap;simp[IntKind.signed,IntKind.bits];omega
theorem band_nat {a b:Nat} (c:a<2^63) (d:b<2^63):va (a:Int) (b:Int)=((a&&&b:Nat):Int):=by
 unfold va;rw[BitVec.toNat_and,ofInt_nat c,ofInt_nat d];exact wrap_nat (Nat.lt_of_le_of_lt Nat.and_le_left c)
theorem uand_nat {a b:Nat} (c:a<2^63) (d:b<2^63):wb (a:Int) (b:Int)=((a&&&b:Nat):Int):=by
 unfold wb;rw[BitVec.toNat_and,ofInt_nat c,ofInt_nat d];exact wrapU_nat (Nat.lt_of_le_of_lt Nat.and_le_left c)
theorem bor_nat {a b:Nat} (c:a<2^63) (d:b<2^63):bor (a:Int) (b:Int)=((a|||b:Nat):Int):=by
 unfold bor;rw[BitVec.toNat_or,ofInt_nat c,ofInt_nat d,wrap_nat (Nat.or_lt_two_pow c d)]
def Set' (s:Int):Prop:=0<=s/\s<2^62
def has (s:Int) (p:Nat):Bool:=s.toNat.testBit p
theorem nat_of {s:Int} (h:Set' s):∃n:Nat,s=(n:Int)/\n<2^62:=⟨s.toNat,by unfold Set' at h;omega,by unfold Set' at h;omega⟩
theorem lt63 {n:Nat} (h:n<2^62):n<2^63:=by omega
theorem has_shr {s:Int} (h:Set' s) (p:Nat):decide (va (s/2^p) 1=1)=has s p:=by
 obtain⟨n,rfl,b⟩:=nat_of h;unfold has;rw[jDN,div_nat];have a:n/2^p<2^63:=Nat.lt_of_le_of_lt (Nat.div_le_self _ _) (lt63 b);rw[show(1:Int)=((1:Nat):Int) from rfl,band_nat a (by decide),Nat.and_one_is_mod,Nat.testBit_eq_decide_div_mod_eq];exact decide_eq_decide.2 ⟨fun h=>by omega,fun h=>by omega⟩
theorem bit_num {s:Int} (h:Set' s) (p:Nat):va (s/2^p) 1=if has s p=true then 1 else 0:=by
 obtain⟨n,rfl,b⟩:=nat_of h;unfold has;rw[jDN,div_nat];have a:n/2^p<2^63:=Nat.lt_of_le_of_lt (Nat.div_le_self _ _) (lt63 b);rw[show(1:Int)=((1:Nat):Int) from rfl,band_nat a (by decide),Nat.and_one_is_mod,Nat.testBit_eq_decide_div_mod_eq]
 split
 .rename_i h;have:=of_decide_eq_true h;omega
 .rename_i h;have:¬(n/2^p%2=1):=fun e=>h (decide_eq_true e);omega
theorem has_zero (p:Nat):has 0 p=false:=by unfold has;simp
theorem has_two (k p:Nat):has ((2:Int)^k) p=decide (k=p):=by
 unfold has;rw[two_nat,jDN,Nat.testBit_two_pow]
theorem has_bor {a b:Int} (c:Set' a) (d:Set' b) (p:Nat):has (bor a b) p=(has a p||has b p):=by
 obtain⟨n,rfl,f⟩:=nat_of c;obtain⟨m,rfl,e⟩:=nat_of d;unfold has;rw[bor_nat (lt63 f) (lt63 e)];simp only[jDN,Nat.testBit_or]
theorem bor_set {a b:Int} (e:Set' a) (f:Set' b):Set' (bor a b):=by
 obtain⟨n,rfl,d⟩:=nat_of e;obtain⟨m,rfl,c⟩:=nat_of f;rw[bor_nat (lt63 d) (lt63 c)];have:n|||m<2^62:=Nat.or_lt_two_pow d c;unfold Set';omega
theorem zero_set:Set' 0:=by unfold Set';omega
theorem two_set {k:Nat} (h:k<=61):Set' ((2:Int)^k):=by
 rw[two_nat];have:2^k<2^62:=Nat.pow_lt_pow_right (by decide) (by omega);obtain⟨q,a⟩:∃q,q=2^k:=⟨_,rfl⟩;rw[<-a] at this⊢;unfold Set';omega
theorem ext {a b:Int} (c:Set' a) (d:Set' b) (h:∀p,has a p=has b p):a=b:=by
 obtain⟨n,rfl,f⟩:=nat_of c;obtain⟨m,rfl,e⟩:=nat_of d;have:n=m:=Nat.eq_of_testBit_eq (fun i=>by have:=h i;unfold has at this;simpa using this);rw[this]
theorem has_lt {s:Int} {k:Nat} (c:0<=s) (h:s<2^k) {p:Nat} (b:has s p=true):p<k:=by
 obtain⟨n,rfl⟩:∃n:Nat,s=(n:Int):=⟨s.toNat,by omega⟩;rw[two_nat] at h;unfold has at b;rw[jDN] at b;have d:=Nat.ge_two_pow_of_testBit b;rcases Nat.lt_or_ge p k with a|a
 .exact a
 .have:=Nat.pow_le_pow_right (n:=2) (by decide) a;omega
theorem lt_of_has {s:Int} {k:Nat} (a:Set' s) (h:∀p,has s p=true->p<k):s<2^k:=by
 obtain⟨n,rfl,b⟩:=nat_of a;rw[two_nat];have:n<2^k:=Nat.lt_pow_two_of_testBit n (fun i hi=>by
  cases e:n.testBit i with
  |false=>rfl
  |true=>have:=h i (by unfold has;simpa using e);omega)
 omega
theorem or_two {n p:Nat} (h:n.testBit p=false):n+2^p=n|||2^p:=by
 have g:n=2^(p+1)*(n/2^(p+1))+n%2^(p+1):=(Nat.div_add_mod _ _).symm;have c:n%2^(p+1)<2^p:=by
  have b:n%2^(p+1)<2^(p+1):=Nat.mod_lt _ (Nat.pow_pos (by decide));rcases Nat.lt_or_ge (n%2^(p+1)) (2^p) with a|a
  .exact a
  .exfalso;have:(n%2^(p+1)).testBit p=true:=Nat.testBit_of_two_pow_le_and_two_pow_add_one_gt a b;rw[Nat.testBit_mod_two_pow,h] at this;simp at this
 apply Nat.eq_of_testBit_eq;intro i;rw[Nat.testBit_or,Nat.testBit_two_pow];have e:n+2^p=2^(p+1)*(n/2^(p+1))+(2^p+n%2^(p+1)):=(by omega);have j:2^p+n%2^(p+1)<2^(p+1):=jEC (Nat.add_lt_add_left c _) (by rw[Nat.pow_succ];omega);rw[e,Nat.testBit_two_pow_mul_add _ j]
 conv=>rhs;rw[g,Nat.testBit_two_pow_mul_add _ (Nat.mod_lt _ (Nat.pow_pos (by decide)))]
 have f:2^p+n%2^(p+1)=2^p*1+n%2^(p+1):=(by omega);by_cases hi:i<p+1
 .rw[if_pos hi,if_pos hi,f,Nat.testBit_two_pow_mul_add _ c];by_cases d:i<p
  .rw[if_pos d,decide_eq_false (by omega),Bool.or_false]
  .have:i=p:=(by omega);subst this;rw[if_neg d,Nat.sub_self,decide_eq_true rfl,Bool.or_true];simp
 .rw[if_neg hi,if_neg hi,decide_eq_false (by omega),Bool.or_false]
theorem add_two {s:Int} (b:Set' s) {p:Nat} (c:p<=61) (h:has s p=false):s+2^p=bor s (2^p):=by
 obtain⟨n,rfl,a⟩:=nat_of b;rw[two_nat,bor_nat (lt63 a) (pow63 (by omega))];unfold has at h;rw[jDN] at h;rw[<-or_two h];omega
def size (s:Int):Int:=(((List.range 62).countP (fun p=>has s p):Nat):Int)
theorem size_zero:size 0=0:=by
 unfold size;have:(List.range 62).countP (fun p=>has 0 p)=0:=jEV.2 (fun p _=>by rw[has_zero];simp);rw[this];rfl
theorem size_le (s:Int):0<=size s/\size s<=62:=by
 have:=List.countP_le_length (l:=List.range 62) (p:=fun p=>has s p);rw[List.length_range] at this;unfold size;omega
theorem has_half {s:Int} (a:Set' s) (p:Nat):has (s/2) p=has s (p+1):=by
 obtain⟨n,rfl,b⟩:=nat_of a;unfold has;have:((n:Int)/2).toNat=n/2:=(by omega);rw[this,jDN,Nat.testBit_succ]
theorem size_half {s:Int} (d:Set' s):size s=s%2+size (s/2):=by
 obtain⟨n,e,i⟩:=nat_of d;have b:has (s/2) 61=false:=by
  rw[has_half d];subst e;unfold has;rw[jDN];exact Nat.testBit_lt_two_pow i
 have j:(List.range 62)=0::(List.range 61).map (·+1):=by
  rw[show(62:Nat)=61+1 from rfl,List.range_succ_eq_map]
 have c:(List.range 62)=List.range 61++[61]:=(by rw[show(62:Nat)=61+1 from rfl,jEw]);have f:(has s 0=true)↔s%2=1:=by
  subst e;unfold has;rw[jDN,Nat.testBit_zero];simp only[decide_eq_true_eq];omega
 have g:(List.range 62).countP (fun p=>has (s/2) p)=(List.range 61).countP (fun p=>has s (p+1)):=by
  rw[c,jE5];simp only[jE3,List.countP_nil,b];simp only[has_half d];simp
 unfold size;rw[g]
 conv=>lhs;rw[j]
 rw[jE3,List.countP_map];have h:((fun p=>has s p)∘fun(x:Nat)=>x+1)=fun p=>has s (p+1):=rfl
 rw[h];by_cases a:has s 0=true
 .rw[if_pos a];have:=f.1 a;omega
 .rw[if_neg a];have:¬s%2=1:=fun e=>a (f.2 e);omega
end BT
end Go.X
namespace Go.X
namespace BT
theorem uor_nat {a b:Nat} (c:a<2^63) (d:b<2^63):uor (a:Int) (b:Int)=((a|||b:Nat):Int):=by
 unfold uor;rw[BitVec.toNat_or,ofInt_nat c,ofInt_nat d,wrapU_nat (Nat.or_lt_two_pow c d)]
theorem has_uor {a b:Int} (c:Set' a) (d:Set' b) (p:Nat):has (uor a b) p=(has a p||has b p):=by
 obtain⟨n,rfl,f⟩:=nat_of c;obtain⟨m,rfl,e⟩:=nat_of d;unfold has;rw[uor_nat (lt63 f) (lt63 e)];simp only[jDN,Nat.testBit_or]
theorem uor_set {a b:Int} (e:Set' a) (f:Set' b):Set' (uor a b):=by
 obtain⟨n,rfl,d⟩:=nat_of e;obtain⟨m,rfl,c⟩:=nat_of f;rw[uor_nat (lt63 d) (lt63 c)];have:n|||m<2^62:=Nat.or_lt_two_pow d c;unfold Set';omega
theorem pred_odd (k:Nat):(2*k+1)&&&(2*k+1-1)=2*k:=by
 apply Nat.eq_of_testBit_eq;intro i;rw[Nat.testBit_and,Nat.add_sub_cancel];cases i with
 |zero=>simp
 |succ i=>
  rw[Nat.testBit_succ,Nat.testBit_succ];have:(2*k+1)/2=k:=(by omega);have a:(2*k)/2=k:=(by omega);rw[this,a,Bool.and_self]
theorem pred_even (k:Nat) (h:k≠0):(2*k)&&&(2*k-1)=2*(k&&&(k-1)):=by
 apply Nat.eq_of_testBit_eq;intro i;rw[Nat.testBit_and];cases i with
 |zero=>simp
 |succ i=>
  rw[Nat.testBit_succ,Nat.testBit_succ,Nat.testBit_succ];have:(2*k)/2=k:=(by omega);have a:(2*k-1)/2=k-1:=(by omega);have b:(2*(k&&&(k-1)))/2=k&&&(k-1):=(by omega);rw[this,a,b,Nat.testBit_and]
theorem size_dbl {k:Nat} (h:k<2^61):size ((2*k:Nat):Int)=size (k:Int):=by
 rw[size_half (s:=((2*k:Nat):Int)) (by unfold Set';omega)];have a:((2*k:Nat):Int)%2=0:=(by omega);have b:((2*k:Nat):Int)/2=(k:Int):=(by omega);rw[a,b];omega
theorem size_odd {k:Nat} (h:k<2^61):size ((2*k+1:Nat):Int)=1+size (k:Int):=by
 rw[size_half (s:=((2*k+1:Nat):Int)) (by unfold Set';omega)];have a:((2*k+1:Nat):Int)%2=1:=(by omega);have b:((2*k+1:Nat):Int)/2=(k:Int):=(by omega);rw[a,b]
theorem pred_nat:∀(n:Nat),n≠0->n<2^62->(n&&&(n-1))<n/\size ((n&&&(n-1):Nat):Int)+1=size (n:Int)
 |n,b,d=>by
  rcases Nat.mod_two_eq_zero_or_one n with e|e
  .obtain⟨k,rfl⟩:∃k,n=2*k:=⟨n/2,by omega⟩
   have hk:k≠0:=by omega
   obtain⟨c,a⟩:=pred_nat k hk (by omega)
   rw[pred_even k hk]
   exact⟨by omega,by rw[size_dbl (by omega),size_dbl (by omega)];exact a⟩
  .obtain⟨k,rfl⟩:∃k,n=2*k+1:=⟨n/2,by omega⟩
   rw[pred_odd]
   exact⟨by omega,by rw[size_dbl (by omega),size_odd (by omega)];omega⟩
termination_by n=>n
theorem pred {s:Int} (d:Set' s) (h:s≠0):Set' (wb s (s-1))/\wb s (s-1)<s/\size (wb s (s-1))+1=size s:=by
 obtain⟨n,rfl,a⟩:=nat_of d;have b:n≠0:=(by omega);have e:(n:Int)-1=((n-1:Nat):Int):=(by omega);rw[e,uand_nat (lt63 a) (by omega)];obtain⟨f,c⟩:=pred_nat n b a;exact⟨by unfold Set';omega,by omega,c⟩
end BT
end Go.X
namespace Go.X
namespace U
def ga {α:Type} (eq:α->α->Bool) (p:α):List α->List α
 |[]=>[]
 |y::r=>if eq y p=true then ga eq y r else y::ga eq y r
def qF {α:Type} (eq:α->α->Bool):List α->List α
 |[]=>[]
 |x::r=>x::ga eq x r
def jAU {α:Type} (eq:α->α->Bool) (l:List α) (i:Nat):Prop:=1<=i/\i<=l.length/\qF eq (l.take i)=l.take i
def jcC {α:Type} (eq:α->α->Bool) (l:List α) (n:Nat):Int:=((qF eq (l.take n)).length:Int)
def jre {α:Type} (eq:α->α->Bool) (l:List α) (i k:Nat) (r:List α):Prop:=1<=k/\i+k<=l.length/\r.length=l.length/\qF eq (l.take (i+k))=r.take (qF eq (l.take (i+k))).length/\r.drop (i+k-1)=l.drop (i+k-1)/\(qF eq (l.take (i+k))).length<i+k
end U
namespace L
theorem nodup_len {α:Type}:∀(a b:List α),a.Nodup->(∀x∈a,x∈b)->a.length<=b.length
 |[],_,_,_=>by simp
 |x::a,b,hn,h=>by
  obtain⟨e,f,rfl⟩:=List.append_of_mem (h x (by simp))
  rw[jEu] at hn
  have:=nodup_len a (e++f) hn.2 (fun y d=>by
   have:=h y (by simp[d])
   rw[jDP,jDH] at this
   rw[jDP]
   rcases this with c|c|c
   .exact .inl c
   .subst c;exact absurd d hn.1
   .exact .inr c)
  simp at this⊢
  omega
theorem perm_of_nodup {α:Type} [DecidableEq α]:∀{a b:List α},a.Nodup->b.Nodup->(∀n,n∈a↔n∈b)->a.Perm b
 |[],b,_,_,h=>by
  have:b=[]:=by
   cases b with
   |nil=>rfl
   |cons x r=>exact absurd ((h x).2 (by simp)) (by simp)
  rw[this]
 |x::r,b,ha,hb,h=>by
  have i:x∈b:=(h x).1 (by simp);have f:=List.perm_cons_erase i;refine(List.Perm.cons x (perm_of_nodup (jEu.1 ha).2 (hb.erase x) (fun n=> ?_))).trans f.symm;rw[hb.mem_erase_iff];constructor
  .intro c;exact⟨fun e=>by subst e;exact(jEu.1 ha).1 c,(h n).1 (jDO _ c)⟩
  .rintro⟨d,c⟩;rcases jDH.1 ((h n).2 c) with e|g
   .exact absurd e d
   .exact g
theorem nodup_inj {α d:Type} {f:α->d}:∀{l:List α},(l.map f).Nodup->∀{x y:α},x∈l->y∈l->f x=f y->x=y
 |[],_,_,_,h,_,_=>by simp at h
 |a::r,hn,x,y,hx,hy,e=>by
  simp only[jEH,jEu] at hn
  rcases jDH.1 hx with rfl|c
  .rcases jDH.1 hy with rfl|b
   .rfl
   .exact absurd (jEj.2 ⟨y,b,e.symm⟩) hn.1
  .rcases jDH.1 hy with rfl|b
   .exact absurd (jEj.2 ⟨x,c,e⟩) hn.1
   .exact nodup_inj hn.2 c b e
theorem nth_take {α:Type} [Inhabited α] {l:List α} {i n:Nat} (h:i<n):nth (l.take n) i=nth l i:=by
 unfold nth;rw[jEc,jEc,jD1 h]
theorem nth_drop {α:Type} [Inhabited α] {l r:List α} {a n:Nat} (h:l.drop a=r.drop a) (b:a<=n):nth l n=nth r n:=by
 have e:=congrArg (fun x=>x[n-a]?) h;simp only[jEh] at e;rw[show a+(n-a)=n by omega] at e;unfold nth;rw[jEc,jEc,e]
theorem nth_map {α a:Type} [Inhabited α] [Inhabited a] {f:α->a} {l:List α} {i:Nat} (h:i<l.length):nth (l.map f) i=f (nth l i):=by
 rw[nth_lt (by simpa using h),nth_lt h];simp
theorem nth_set {α:Type} [Inhabited α] {l:List α} {i j:Nat} {x:α} (h:i<l.length):nth (l.set i x) j=if i=j then x else nth l j:=by
 unfold nth;rw[jEc,jEc,List.getElem?_set]
 split
 .rename_i e;subst e;simp[h]
 .rfl
theorem nth_rep {α:Type} [Inhabited α] {n i:Nat} {x:α} (h:i<n):nth (List.replicate n x) i=x:=by
 unfold nth;rw[jEc,List.getElem?_replicate,if_pos h];rfl
theorem ext_nth {α:Type} [Inhabited α] {a b:List α} (h:a.length=b.length) (d:∀i,i<a.length->nth a i=nth b i):a=b:=by
 apply List.ext_getElem h;intro i c e;rw[<-nth_lt c,<-nth_lt e];exact d i c
theorem range_map_nth {α:Type} [Inhabited α] (l:List α):(List.range l.length).map (nth l)=l:=by
 apply ext_nth
 .simp
 .intro i hi;rw[nth_map (by simpa using hi)];congr 1;rw[nth_lt (by simpa using hi)];simp
section
variable {α:Type} [Inhabited α] {eq:α->α->Bool}
theorem compT_snoc (y:α):∀(r:List α) (p:α),U.ga eq p (r++[y])=U.ga eq p r++(if eq y (nth (p::r) r.length)=true then[] else[y])
 |[],p=>rfl
 |z::r,p=>by
  have e:nth (p::z::r) (z::r).length=nth (z::r) r.length:=rfl
  rw[e]
  simp only[jD4,U.ga]
  split
  .exact compT_snoc y r z
  .rw[compT_snoc y r z];rfl
theorem comp_snoc (y:α) {l:List α} (h:l≠[]):U.qF eq (l++[y])=U.qF eq l++(if eq y (nth l (l.length-1))=true then[] else[y]):=by
 cases l with
 |nil=>exact absurd rfl h
 |cons x r=>
  show x::U.ga eq x (r++[y])=_;rw[compT_snoc];have:(x::r).length-1=r.length:=(by simp);rw[this];rfl
theorem comp_take {l:List α} {n:Nat} (b:1<=n) (a:n<l.length):U.qF eq (l.take (n+1))=U.qF eq (l.take n)++(if eq (nth l n) (nth l (n-1))=true then[] else[nth l n]):=by
 rw[L.take_succ a,comp_snoc]
 .have e:(l.take n).length-1=n-1:=(by rw[jEa];omega);rw[e,nth_take (by omega)]
 .intro e;have:=congrArg List.length e;rw[jEa,jEt] at this;omega
end
theorem comp_short {α:Type} {eq:α->α->Bool} {l:List α} (h:l.length<2):U.qF eq l=l:=by
 match l,h with
 |[],_=>rfl
 |[x],_=>rfl
theorem comp_len {α:Type} {eq:α->α->Bool} (l:List α):(U.qF eq l).length<=l.length:=by
 have:∀(r:List α) (p:α),(U.ga eq p r).length<=r.length:=by
  intro r
  induction r with
  |nil=>intro p;simp[U.ga]
  |cons y r a=>
   intro p;unfold U.ga
   split
   .have:=a y;simp;omega
   .have:=a y;simp;omega
 cases l with
 |nil=>simp[U.qF]
 |cons x r=>have:=this r x;simp[U.qF];omega
theorem inv9_next {α:Type} [Inhabited α] {eq:α->α->Bool} {l r:List α} {i k:Nat} (hi:1<=i) (h:U.jre eq l i k r) (g:i+k<l.length):
 (eq (nth r (i+k)) (nth r (i+k-1))=false->U.jcC eq l (i+(k+1))=U.jcC eq l (i+k)+1/\U.jre eq l i (k+1) (r.set (U.jcC eq l (i+k)).toNat (nth r (i+k))))/\
 (eq (nth r (i+k)) (nth r (i+k-1))=true->U.jcC eq l (i+(k+1))=U.jcC eq l (i+k)/\U.jre eq l i (k+1) r):=by
 obtain⟨t,u,j,d,e,q⟩:=h;have o:nth r (i+k)=nth l (i+k):=nth_drop e (by omega);have p:nth r (i+k-1)=nth l (i+k-1):=nth_drop e (by omega);have a:=comp_take (eq:=eq) (l:=l) (n:=i+k) (by omega) g;rw[show i+k+1=i+(k+1) by omega] at a;have m:r.drop (i+k)=l.drop (i+k):=by
  have:=congrArg (List.drop 1) e;rw[List.drop_drop,List.drop_drop,show i+k-1+1=i+k by omega] at this;exact this
 rw[o,p];obtain⟨c,b⟩:∃c,c=U.qF eq (l.take (i+k)):=⟨_,rfl⟩;rw[<-b] at a d q;have s:(U.jcC eq l (i+k))=(c.length:Int):=(by unfold U.jcC;rw[<-b]);rw[s];refine⟨fun f=> ?_,fun f=> ?_⟩
 .rw[if_neg (by rw[f];simp)] at a;refine⟨by unfold U.jcC;rw[a];simp,by omega,by omega,by simpa using j,?_,?_,?_⟩
  .rw[a];simp only[jDN,jD0,jEe,jEt];rw[List.take_add_one,List.getElem?_set_self (by omega)];rw[List.take_set_of_le (by omega),<-d];rfl
  .rw[show i+(k+1)-1=i+k by omega];simp only[jDN];rw[List.drop_set_of_lt (by omega)];exact m
  .rw[a];simp;omega
 .rw[if_pos f,jEb] at a;refine⟨by unfold U.jcC;rw[a],by omega,by omega,j,?_,?_,?_⟩
  .rw[a];exact d
  .rw[show i+(k+1)-1=i+k by omega];exact m
  .rw[a];omega
theorem compT_sub {α:Type} {eq:α->α->Bool}:∀(r:List α) (p x:α),x∈U.ga eq p r->x∈r
 |[],_,_,h=>by simp[U.ga] at h
 |y::r,p,x,h=>by
  unfold U.ga at h
  split at h
  .exact jDO _ (compT_sub r y x h)
  .rcases jDH.1 h with rfl|h
   .simp
   .exact jDO _ (compT_sub r y x h)
theorem comp_sub {α:Type} {eq:α->α->Bool} {l:List α} {x:α} (h:x∈U.qF eq l):x∈l:=by
 cases l with
 |nil=>simp[U.qF] at h
 |cons y r=>
  unfold U.qF at h;rcases jDH.1 h with rfl|h
  .simp
  .exact jDO _ (compT_sub r y x h)
theorem compT_mem {α:Type} [DecidableEq α]:∀(r:List α) (p x:α),x∈r->x=p\/x∈U.ga (fun a b=>decide (a=b)) p r
 |y::r,p,x,h=>by
  unfold U.ga
  rcases jDH.1 h with rfl|h
  .by_cases e:x=p
   .exact .inl e
   .rw[if_neg (by simpa using e)];right;simp
  .rcases compT_mem r y x h with rfl|c
   .by_cases e:x=p
    .exact .inl e
    .rw[if_neg (by simpa using e)];right;simp
   .right
    split
    .exact c
    .exact jDO _ c
theorem comp_mem {α:Type} [DecidableEq α] {l:List α} {x:α}:x∈U.qF (fun a b=>decide (a=b)) l↔x∈l:=by
 refine⟨comp_sub,fun h=> ?_⟩;cases l with
 |nil=>simp at h
 |cons y r=>
  unfold U.qF;rcases jDH.1 h with rfl|h
  .simp
  .rcases compT_mem r y x h with rfl|c
   .simp
   .exact jDO _ c
theorem comp_asc {α:Type} [DecidableEq α] {lt:α->α->Bool}:∀{l:List α},kh lt l->js9 lt l->(U.qF (fun a b=>decide (a=b)) l).Pairwise (fun a b=>lt a b=true):=by
 have i:∀(r:List α) (p:α),kh lt (p::r)->js9 lt (p::r)->(p::U.ga (fun a b=>decide (a=b)) p r).Pairwise (fun a b=>lt a b=true):=by
  intro r
  induction r with
  |nil=>intro p _ _;exact List.pairwise_singleton _ _
  |cons y r n=>
   intro p f j;have d:=jEr.1 j;have k:kh lt (y::r):=f.sub (fun z c=>jDO _ c);have hi:=n y k d.2;unfold U.ga;by_cases e:y=p
   .rw[if_pos (by simpa using e)];subst e;exact hi
   .rw[if_neg (by simpa using e)];refine jEr.2 ⟨fun z c=> ?_,hi⟩;have g:lt p y=true:=by
     cases h:lt p y with
     |true=>rfl
     |false=>exact absurd (f.total p y (by simp) (by simp) h (d.1 y (by simp))).symm e
    rcases jDH.1 c with rfl|c
    .exact g
    .have m:=compT_sub r y z c;exact f.trans p y z (by simp) (by simp) (by simp[m]) g ((jEr.1 hi).1 z c)
 intro l f j;cases l with
 |nil=>exact List.Pairwise.nil
 |cons p r=>exact i r p f j
theorem asc_nodup {α:Type} {lt:α->α->Bool} {l:List α} (hi:∀x,lt x x=false) (h:l.Pairwise (fun a b=>lt a b=true)):l.Nodup:=
 h.imp (fun{a b} h e=>by subst e;rw[hi] at h;cases h)
theorem filter_take {α:Type} [Inhabited α] {p:α->Bool} {l:List α} {i:Nat} (h:i<l.length):(l.take (i+1)).filter p=(l.take i).filter p++(if p (nth l i)=true then[nth l i] else[]):=by
 rw[take_succ h,List.filter_append];congr 1;by_cases e:p (nth l i)=true<;>simp[e]
theorem range_filter_succ {p:Nat->Bool} {n:Nat}:(List.range (n+1)).filter p=(List.range n).filter p++(if p n=true then[n] else[]):=by
 rw[jEw,List.filter_append];congr 1;by_cases e:p n=true<;>simp[e]
end L
end Go.X
namespace Go.X
abbrev tSp:Ty:= .st [.int,.int]
abbrev tPe:Ty:= .st [.slice .int,.int,.int,.slice .int,.bool,.int]
abbrev tLw:Ty:= .st [.int,.int,.bool]
abbrev tCr:Ty:= .st [.int,.slice tPe,.slice tLw]
abbrev tJb:Ty:= .st [.int,.int,.int,.int,.int,.int]
abbrev tBk:Ty:= .st [tJb,.int,.int,.int]
abbrev tSh:Ty:= .st [.int,.int,.int,.int,.int]
abbrev tDy:Ty:= .st [tCr,.slice (.slice tSp),.slice tBk,.int,.int,.slice tSh]
abbrev SpD:Type:=Int×Int×Unit
abbrev PeD:Type:=List Int×Int×Int×List Int×Bool×Int×Unit
abbrev LwD:Type:=Int×Int×Bool×Unit
abbrev CrD:Type:=Int×List PeD×List LwD×Unit
abbrev JbD:Type:=Int×Int×Int×Int×Int×Int×Unit
abbrev BkD:Type:=JbD×Int×Int×Int×Unit
abbrev ShD:Type:=Int×Int×Int×Int×Int×Unit
abbrev DyD:Type:=CrD×List (List SpD)×List BkD×Int×Int×List ShD×Unit
namespace U
def lo (s:SpD):Int:=s.1
def hi (s:SpD):Int:=s.2.1
def ja (n a b:Int):Bool:=decide (a<=n)&&decide (n<=b)
def lv (p:PeD):List Int:=p.1
def fd (p:PeD):Int:=p.2.1
def cl (p:PeD):Int:=p.2.2.1
def zn (p:PeD):List Int:=p.2.2.2.1
def deaf (p:PeD):Bool:=p.2.2.2.2.1
def fe (p:PeD):Int:=p.2.2.2.2.2.1
def jDq (l:LwD):Int:=l.1
def jC2 (l:LwD):Int:=l.2.1
def jDC (l:LwD):Bool:=l.2.2.1
def la (c:CrD):Int:=c.1
def jh (c:CrD):List PeD:=c.2.1
def kz (c:CrD):List LwD:=c.2.2.1
def jyH (j:JbD):Int:=j.1
def jrb (j:JbD):Int:=j.2.1
def jBG (j:JbD):Int:=j.2.2.1
def jyI (j:JbD):Int:=j.2.2.2.1
def jyG (j:JbD):Int:=j.2.2.2.2.1
def jCa (j:JbD):Int:=j.2.2.2.2.2.1
def jcJ (b:BkD):JbD:=b.1
def jBj (b:BkD):Int:=b.2.1
def jdM (b:BkD):Int:=b.2.2.1
def jzj (b:BkD):Int:=b.2.2.2.1
def zX (s:ShD):Int:=s.1
def jnl (s:ShD):Int:=s.2.1
def jx7 (s:ShD):Int:=s.2.2.1
def jix (s:ShD):Int:=s.2.2.2.1
def vS (s:ShD):Int:=s.2.2.2.2.1
def jf (d:DyD):CrD:=d.1
def jz (d:DyD):List (List SpD):=d.2.1
def jp (d:DyD):List BkD:=d.2.2.1
def jog (d:DyD):Int:=d.2.2.2.1
def jt1 (d:DyD):Int:=d.2.2.2.2.1
def zv (d:DyD):List ShD:=d.2.2.2.2.2.1
def jI (d:DyD) (l:List ShD):DyD:=(jf d,jz d,jp d,jog d,jt1 d,l,())
def yn (L:Int) (p:PeD):Bool:=decide (((lv p).length:Int)=L/\0<=fd p/\fd p<=255/\0<=cl p/\cl p<=255/\(zn p).length<=10/\0<=fe p/\fe p<=1000)&&((lv p).all (fun n=>ja n 0 5)&&(zn p).all (fun n=>ja n 0 99))
def yP (l:LwD):Bool:=ja (jDq l) 1 5&&ja (jC2 l) 1 8
def jr (c:CrD):Bool:=decide (2<=la c/\la c<=5/\(jh c).length<=8/\(kz c).length=4)&&((jh c).all (yn (la c))&&(kz c).all yP)
def j7 (c:CrD) (j:JbD):Bool:=decide (0<=jyH j/\jyH j<=la c-1/\0<=jrb j/\jrb j<=la c-1/\jyH j≠jrb j/\0<=jBG j/\jBG j<=99/\0<=jyI j/\jyI j<=7/\0<=jyG j/\jyG j<=3/\1<=jCa j/\jCa j<=8)
def zN (c:CrD) (j:JbD):Int:=if jr c=false then 30 else if j7 c j=false then 31 else 0
def jeM (s:SpD):Bool:=decide (0<=lo s/\lo s<=hi s/\hi s<=300)
def qv (n:Nat) (r:List SpD):Bool:=decide (r.length=n)&&r.all jeM
def jbq (n:Nat) (b:BkD):Bool:=decide (0<=jBj b/\jBj b<=(n:Int)-1/\0<=jdM b/\jdM b<jzj b/\jzj b<=1440)
def yO (nb a:Nat) (s:ShD):Bool:=decide (0<=zX s/\zX s<=99/\0<=jnl s/\jnl s<=9999/\1<=jx7 s/\jx7 s<=2/\0<=jix s/\jix s<=(nb:Int)-1/\0<=vS s/\vS s<=(a:Int)-1)
def zi (d:DyD):Bool:=decide ((jp d).length<=4/\1<=(jz d).length/\(jz d).length<=5/\0<=jog d/\jog d<=300/\0<=jt1 d/\jt1 d<=1440/\(zv d).length<=30)&&
 ((jz d).all (qv (jz d).length)&&((jp d).all (jbq (jz d).length)&&(zv d).all (yO (jp d).length (jh (jf d)).length)))
def jjO (a b:ShD):Bool:=decide (zX a=zX b)&& !decide (a=b)
def jhZ (l:List ShD) (i:Nat):Bool:=(l.take i).any (jjO (nth l i))
def wJ (l:List ShD) (n:Nat):Bool:=(List.range n).any (jhZ l)
def kR (l:List ShD):Bool:=wJ l l.length
def jwy (d:DyD):Bool:=(jp d).all (fun b=>j7 (jf d) (jcJ b))
def v8 (d:DyD):Int:=if jr (jf d)=false then 30 else if jwy d=false then 31 else if zi d=false then 50 else if kR (zv d)=true then 51 else 0
def jmZ (l:List ShD) (i:Nat):Bool:= !((l.take i).any (fun x=>decide (x=nth l i)))
def jzk (l:List ShD) (n m:Nat):List ShD:=((List.range n).filter (fun i=>decide (zX (nth l i)=(m:Int))&&jmZ l i)).map (nth l)
def jrN (l:List ShD) (n:Nat):List ShD:=(List.range n).flatMap (jzk l l.length)
def y8 (l:List ShD):List ShD:=jrN l 100
def jaZ (p:PeD) (a:Int):Bool:=(zn p).any (fun t=>decide (t=a))
def qB (s n:Int):Bool:=decide (va (s/2^n.toNat) 1=1)
def ky (c:CrD) (j:JbD) (p:Int):Bool:= !(jaZ (nth (jh c) p.toNat) (jBG j))&&qB (fd (nth (jh c) p.toNat)) (jyI j)&&qB (cl (nth (jh c) p.toNat)) (jyG j)
def bk (d:DyD) (b:Int):BkD:=nth (jp d) b.toNat
def jA3 (d:DyD) (a b:Int):Int:=hi (nth (nth (jz d) (jBj (bk d a)).toNat) (jBj (bk d b)).toNat)
def yc (d:DyD) (a b:Int):Bool:=decide (jdM (bk d a)<jdM (bk d b)\/(jdM (bk d a)=jdM (bk d b)/\a<b))
def vj (d:DyD) (a b:Int):Int:=jdM (bk d b)-jzj (bk d a)-jog d-jA3 d a b
def jaY (d:DyD) (a b:Int):Bool:=if yc d b a=true then decide (0<=vj d b a) else decide (0<=vj d a b)
def jq9 (d:DyD) (l:List Int):Int:=(l.map (fun b=>jzj (bk d b)-jdM (bk d b))).foldl (·+·) 0
def jBS (d:DyD) (l:List Int):Bool:=(List.range l.length).all (fun i=>(l.take i).all (fun b=>jaY d (nth l i) b))
def wC (d:DyD) (p:Int) (l:List Int):Bool:=l.all (fun b=>ky (jf d) (jcJ (bk d b)) p)&&(jBS d l&&decide (jq9 d l<=jt1 d))
def wz (a b:ShD):Bool:=decide (jnl b<jnl a\/(jnl a=jnl b/\zX b<zX a))
def jhX (l:List ShD) (s:ShD):Bool:=decide (jx7 s=1)&& !(l.any (fun t=>decide (jix t=jix s)&&decide (vS t=vS s)&&wz t s))
def jBo (a b:ShD):Bool:=wz b a
def jCY (t:List Int) (p:Int) (n:Nat):List Int:=((List.range n).filter (fun b=>qB (nth t b) p)).map (fun(b:Nat)=>(b:Int))
def on (t:List Int) (p:Int):List Int:=jCY t p t.length
def jbT (d:DyD) (x:List Int×List Int) (s:ShD):List Int×List Int:=
 if wC d (vS s) (on x.1 (vS s)++[jix s])=true then(x.1.set (jix s).toNat (nth x.1 (jix s).toNat+2^(vS s).toNat),x.2) else(x.1,x.2++[zX s])
def jyB (c:CrD) (j:JbD):LwD:=nth (kz c) (jyG j).toNat
end U
end Go.X
namespace Go.X
inductive Rch (J:Nat->Nat->Bool) (n s:Nat):Nat->Prop where
 |base:Rch J n s s
 |step {a b:Nat}:Rch J n s a->b<n->J a b=true->Rch J n s b
namespace U
def jyZ (J:Nat->Nat->Bool) (r a:Nat) (out:List Int) (b:Nat):List Int:=if nth out a=(r:Int)/\nth out b<0/\J a b=true then out.set b ((r:Int)+1) else out
def jC6 (J:Nat->Nat->Bool) (r a:Nat) (out:List Int) (k:Nat):List Int:=(List.range k).foldl (jyZ J r a) out
def jC7 (J:Nat->Nat->Bool) (n r:Nat) (out:List Int) (k:Nat):List Int:=(List.range k).foldl (fun o a=>jC6 J r a o n) out
def kJ (n s:Nat):List Int:=(List.replicate n (-1:Int)).set s 0
def jCn (J:Nat->Nat->Bool) (n s k:Nat):List Int:=(List.range k).foldl (fun o r=>jC7 J n r o n) (kJ n s)
def jfk (J:Nat->Nat->Bool) (q:Nat) (x:List Int×List Int) (b:Nat):List Int×List Int:=if nth x.1 b<0/\J q b=true then(x.1.set b (nth x.1 q+1),x.2++[(b:Int)]) else x
def jfl (J:Nat->Nat->Bool) (q:Nat) (x:List Int×List Int) (k:Nat):List Int×List Int:=(List.range k).foldl (jfk J q) x
def wL (J:Nat->Nat->Bool) (n:Nat) (x:List Int×List Int):List Int×List Int:=match x.2 with
 |[]=>x
 |q::_=>((jfl J q.toNat x n).1,(jfl J q.toNat x n).2.drop 1)
def qG (J:Nat->Nat->Bool) (n s:Nat):Nat->List Int×List Int
 |0=>(kJ n s,[(s:Int)])
 |k+1=>wL J n (qG J n s k)
def bfs (J:Nat->Nat->Bool) (n s:Nat):List Int:=(qG J n s (n+1)).1
end U
theorem jjE (n s:Nat):(U.kJ n s).length=n:=by unfold U.kJ;simp
theorem jjD {n s x:Nat} (a:s<n) (b:x<n):nth (U.kJ n s) x=if s=x then 0 else-1:=by
 unfold U.kJ;rw[L.nth_set (by simpa using a),L.nth_rep b]
structure jxQ (J:Nat->Nat->Bool) (n s r a b:Nat) (out:List Int):Prop where
 len:out.length=n
 val:∀x,x<n->nth out x= -1\/(0<=nth out x/\nth out x<=(r:Int)+1)
 top:(a=0/\b=0)->∀x,x<n->nth out x<=(r:Int)
 zero:0<=nth out s
 rch:∀x,x<n->0<=nth out x->Rch J n s x
 lev:∀x,x<n->0<nth out x->∃y,y<n/\nth out y=nth out x-1
 cls:∀x y,x<n->y<n->0<=nth out x->(nth out x<(r:Int)\/(nth out x=(r:Int)/\(x<a\/(x=a/\y<b))))->J x y=true->0<=nth out y
theorem jw4 {J:Nat->Nat->Bool} {n s r a b:Nat} {out:List Int} (B:s<n) (t:a<n) (u:b<n) (h:jxQ J n s r a b out):jxQ J n s r a (b+1) (U.jyZ J r a out b):=by
 unfold U.jyZ
 split
 .rename_i q;obtain⟨c1,c2,v⟩:=q;have p:b<out.length:=(by rw[h.len];exact u);have c:∀j,nth (out.set b ((r:Int)+1)) j=if b=j then(r:Int)+1 else nth out j:=fun j=>L.nth_set p
  have o:b≠a:=fun e=>by subst e;omega
  refine⟨by simpa using h.len,fun x g=> ?_,fun e=>by omega,?_,fun x g f=> ?_,fun x g f=> ?_,fun x y g k f d l=> ?_⟩
  .rw[c];split
   .right;omega
   .exact h.val x g
  .rw[c];split
   .omega
   .exact h.zero
  .rw[c] at f
   split at f
   .rename_i e;subst e;exact .step (h.rch a t (by omega)) u v
   .exact h.rch x g f
  .rw[c] at f⊢
   split at f
   .rename_i e;subst e;rw[if_pos rfl];exact⟨a,t,by rw[c,if_neg o];omega⟩
   .rename_i e;rw[if_neg e];obtain⟨y,k,w⟩:=h.lev x g f;refine⟨y,k,?_⟩;rw[c,if_neg (fun e=>by subst e;omega)];exact w
  .rw[c] at f d⊢
   split
   .omega
   .rename_i A
    split at f
    .rename_i e;rw[if_pos e] at d;omega
    .rename_i e;rw[if_neg e] at d;refine h.cls x y g k f ?_ l;rcases d with d|⟨d,i|⟨i,z⟩⟩
     .exact .inl d
     .exact .inr ⟨d,.inl i⟩
     .exact .inr ⟨d,.inr ⟨i,by omega⟩⟩
 .rename_i q;refine⟨h.len,h.val,fun e=>by omega,h.zero,h.rch,h.lev,fun x y g k f d l=> ?_⟩;rcases d with d|⟨d,i|⟨i,z⟩⟩
  .exact h.cls x y g k f (.inl d) l
  .exact h.cls x y g k f (.inr ⟨d,.inl i⟩) l
  .by_cases e:y=b
   .subst e;subst i;rcases Int.lt_or_le (nth out y) 0 with m|m
    .exact absurd ⟨d,m,l⟩ q
    .exact m
   .exact h.cls x y g k f (.inr ⟨d,.inr ⟨i,by omega⟩⟩) l
theorem jzU {J:Nat->Nat->Bool} {n s r a:Nat} {out:List Int} (c:s<n) (b:a<n) (h:jxQ J n s r a 0 out):∀k,k<=n->jxQ J n s r a k (U.jC6 J r a out k)
 |0,_=>h
 |k+1,hk=>by
  have:=jw4 c b (show k<n by omega) (jzU c b h k (by omega))
  unfold U.jC6 at this⊢
  rw[jEw,jEi];exact this
theorem jA2 {J:Nat->Nat->Bool} {n s r a:Nat} {out:List Int} (k:0<n) (h:jxQ J n s r a n out):jxQ J n s r (a+1) 0 out:=by
 refine⟨h.len,h.val,fun e=>by omega,h.zero,h.rch,h.lev,fun x y i c d b g=>h.cls x y i c d ?_ g⟩;rcases b with b|⟨b,f|⟨f,j⟩⟩
 .exact .inl b
 .by_cases e:x=a
  .exact .inr ⟨b,.inr ⟨e,c⟩⟩
  .exact .inr ⟨b,.inl (by omega)⟩
 .omega
theorem jzV {J:Nat->Nat->Bool} {n s r:Nat} {out:List Int} (a:s<n) (h:jxQ J n s r 0 0 out):∀k,k<=n->jxQ J n s r k 0 (U.jC7 J n r out k)
 |0,_=>h
 |k+1,hk=>by
  have:=jA2 (by omega) (jzU a (show k<n by omega) (jzV a h k (by omega)) n (jDJ _))
  unfold U.jC7 at this⊢
  rw[jEw,jEi];exact this
theorem jA1 {J:Nat->Nat->Bool} {n s r:Nat} {out:List Int} (h:jxQ J n s r n 0 out):jxQ J n s (r+1) 0 0 out:=by
 refine⟨h.len,fun x a=> ?_,fun _ x a=> ?_,h.zero,h.rch,h.lev,fun x y a j f b i=>h.cls x y a j f ?_ i⟩
 .rcases h.val x a with e|⟨c,d⟩
  .exact .inl e
  .exact .inr ⟨c,by omega⟩
 .rcases h.val x a with e|⟨c,d⟩<;>omega
 .rcases b with b|⟨b,g|⟨g,k⟩⟩
  .by_cases e:nth out x=(r:Int)
   .exact .inr ⟨e,.inl a⟩
   .exact .inl (by omega)
  .omega
  .omega
theorem jCo {J:Nat->Nat->Bool} {n s:Nat} (c:s<n):∀k,jxQ J n s k 0 0 (U.jCn J n s k)
 |0=>by
  have hi:∀x,x<n->nth (U.jCn J n s 0) x=if s=x then 0 else-1:=fun x a=>jjD c a
  refine⟨jjE n s,fun x a=> ?_,fun _ x a=> ?_,by rw[hi s c,if_pos rfl];omega,fun x a b=> ?_,fun x a b=> ?_,fun x y a g b f d=> ?_⟩
  .rw[hi x a];split<;>simp
  .rw[hi x a];split<;>simp
  .rw[hi x a] at b
   split at b
   .rename_i e;subst e;exact .base
   .omega
  .rw[hi x a] at b;split at b<;>omega
  .omega
 |k+1=>by
  have:=jA1 (jzV c (jCo (J:=J) c k) n (jDJ _))
  unfold U.jCn at this⊢
  rw[jEw,jEi];exact this
def joS (out:List Int):Nat:=out.countP (fun z=>decide (z<0))
theorem jmD:∀{out:List Int} {b:Nat} {v:Int},b<out.length->nth out b<0->0<=v->joS (out.set b v)+1=joS out
 |[],b,v,h,_,_=>by simp at h
 |z::r,0,v,_,a,h2=>by
  have a:z<0:=a
  unfold joS
  rw[List.set_cons_zero,jE3,jE3,if_neg (by simpa using h2),if_pos (by simpa using a)]
 |z::r,b+1,v,h,a,h2=>by
  have:=jmD (out:=r) (b:=b) (v:=v) (by simpa using h) a h2
  unfold joS at this⊢
  rw[List.set_cons_succ,jE3,jE3]
  omega
structure jDk (J:Nat->Nat->Bool) (n s:Nat) (ex:Nat->Nat->Prop) (x:List Int×List Int):Prop where
 len:x.1.length=n
 low:∀y,y<n->-1<=nth x.1 y/\nth x.1 y<=(n:Int)*2
 zero:0<=nth x.1 s
 rch:∀y,y<n->0<=nth x.1 y->Rch J n s y
 que:∀q,q∈x.2->0<=q/\q<(n:Int)/\0<=nth x.1 q.toNat
 cls:∀y z,y<n->z<n->0<=nth x.1 y->(y:Int)∉x.2\/ex y z->J y z=true->0<=nth x.1 z
def jqe (n:Nat) (x:List Int×List Int):Prop:=∀y,y<n->nth x.1 y+(joS x.1:Int)<=(n:Int)-1
theorem jlE (J:Nat->Nat->Bool) (q:Nat) (x:List Int×List Int) (k:Nat):U.jfl J q x (k+1)=U.jfk J q (U.jfl J q x k) k:=by
 unfold U.jfl;rw[jEw,jEi];rfl
structure InI (J:Nat->Nat->Bool) (n s q k:Nat) (x0 x:List Int×List Int):Prop where
 i:jDk J n s (fun y z=>y=q/\z<k) x
 le:jqe n x
 mu:joS x.1+x.2.length=joS x0.1+x0.2.length
 pre:∃l,x.2=x0.2++l
 keep:∀y,y<n->0<=nth x0.1 y->nth x.1 y=nth x0.1 y
theorem jAV {J:Nat->Nat->Bool} {n s q k:Nat} {x0 x:List Int×List Int} (M:s<n) (p:q<n) (w:0<=nth x0.1 q) (hk:k<n) (h:InI J n s q k x0 x):InI J n s q (k+1) x0 (U.jfk J q x k):=by
 have G:nth x.1 q=nth x0.1 q:=h.keep q p w;unfold U.jfk
 split
 .rename_i t;obtain⟨c1,c2⟩:=t;have m:k<x.1.length:=(by rw[h.i.len];exact hk);have b:∀j,nth (x.1.set k (nth x.1 q+1)) j=if k=j then nth x.1 q+1 else nth x.1 j:=fun j=>L.nth_set m
  have E:=jmD (v:=nth x.1 q+1) m c1 (by omega);have F:=h.le q p;have u:k≠q:=fun e=>by subst e;omega
  obtain⟨l,C⟩:=h.pre;refine⟨⟨by simpa using h.i.len,fun y d=> ?_,?_,fun y d c=> ?_,fun z f=> ?_,fun y z d f c a g=> ?_⟩,fun y d=> ?_,?_,⟨l++[(k:Int)],by simp only[C,jDY]⟩,fun y d c=> ?_⟩
  .simp only;rw[b];split
   .have:=h.i.low q p;omega
   .exact h.i.low y d
  .simp only;rw[b];split
   .omega
   .exact h.i.zero
  .simp only at c⊢;rw[b] at c
   split at c
   .rename_i e;subst e;exact .step (h.i.rch q p (by omega)) hk c2
   .exact h.i.rch y d c
  .simp only at f⊢;rcases jDP.1 f with f|f
   .obtain⟨H,I,K⟩:=h.i.que z f;refine⟨H,I,?_⟩;rw[b];split
    .omega
    .exact K
   .simp at f;subst f;refine⟨by omega,by omega,?_⟩;rw[jDN,b,if_pos rfl];omega
  .simp only at c a⊢;rw[b] at c⊢
   split
   .omega
   .rename_i B;by_cases e:k=y
    .subst e;rcases a with a|⟨a,_⟩
     .exact absurd (jDF _ (by simp)) a
     .exact absurd a u
    .rw[if_neg e] at c;refine h.i.cls y z d f c ?_ g;rcases a with a|⟨o,A⟩
     .exact .inl (fun D=>a (jDG _ D))
     .exact .inr ⟨o,by omega⟩
  .simp only;rw[b];split
   .omega
   .have:=h.le y d;omega
  .have:=h.mu;simp only[jD0,jEe,jEt];omega
  .have:=h.keep y d c;simp only;rw[b,if_neg (fun e=>by subst e;omega)];exact this
 .rename_i t;refine⟨⟨h.i.len,h.i.low,h.i.zero,h.i.rch,h.i.que,fun y z d f c a g=> ?_⟩,h.le,h.mu,h.pre,h.keep⟩;rcases a with a|⟨o,A⟩
  .exact h.i.cls y z d f c (.inl a) g
  .by_cases e:z=k
   .subst e;subst o;rcases Int.lt_or_le (nth x.1 z) 0 with r|r
    .exact absurd ⟨r,g⟩ t
    .exact r
   .exact h.i.cls y z d f c (.inr ⟨o,by omega⟩) g
theorem jwI {J:Nat->Nat->Bool} {n s q:Nat} {x:List Int×List Int} (e:s<n) (d:q<n) (b:0<=nth x.1 q) (hi:jDk J n s (fun _ _=>False) x) (a:jqe n x):∀k,k<=n->InI J n s q k x (U.jfl J q x k)
 |0,_=>⟨⟨hi.len,hi.low,hi.zero,hi.rch,hi.que,fun y z i j f c g=>hi.cls y z i j f (by rcases c with h|⟨_,h⟩;exact .inl h;omega) g⟩,a,rfl,⟨[],by simp[U.jfl]⟩,fun _ _ _=>rfl⟩
 |k+1,hk=>by rw[jlE];exact jAV e d b (by omega) (jwI e d b hi a k (by omega))
structure jBJ (J:Nat->Nat->Bool) (n s:Nat) (x:List Int×List Int):Prop where
 i:jDk J n s (fun _ _=>False) x
 le:jqe n x
theorem jyb {J:Nat->Nat->Bool} {n s:Nat} {x:List Int×List Int} (m:s<n) (h:jBJ J n s x):jBJ J n s (U.wL J n x)/\(x.2≠[]->joS (U.wL J n x).1+(U.wL J n x).2.length+1=joS x.1+x.2.length):=by
 obtain⟨st,p⟩:=x;cases p with
 |nil=>exact⟨h,fun h=>absurd rfl h⟩
 |cons q r=>
  obtain⟨t,u,o⟩:=h.i.que q (by simp);have hi:=jwI m (q:=q.toNat) (by omega) o h.i h.le n (jDJ _);obtain⟨l,d⟩:=hi.pre;have f:(U.wL J n (st,q::r))=((U.jfl J q.toNat (st,q::r) n).1,r++l):=by
   show((U.jfl J q.toNat (st,q::r) n).1,(U.jfl J q.toNat (st,q::r) n).2.drop 1)=_;rw[d];rfl
  rw[f];have b:=hi.mu;rw[d] at b;refine⟨⟨⟨hi.i.len,hi.i.low,hi.i.zero,hi.i.rch,fun z c=>hi.i.que z (by rw[d];simp only at c⊢;exact jDO _ c),fun y z k c g a j=> ?_⟩,hi.le⟩,fun _=> ?_⟩
  .rcases a with a|a
   .by_cases e:y=q.toNat
    .exact hi.i.cls y z k c g (.inr ⟨e,c⟩) j
    .refine hi.i.cls y z k c g (.inl ?_) j;rw[d];intro b;rcases jDH.1 b with f|b
     .omega
     .exact a b
   .exact a.elim
  .simp only[jD4,jEe] at b⊢;omega
theorem jsr {J:Nat->Nat->Bool} {n s:Nat} (f:s<n):jBJ J n s (U.qG J n s 0)/\joS (U.qG J n s 0).1+(U.qG J n s 0).2.length=n:=by
 have hi:∀x,x<n->nth (U.kJ n s) x=if s=x then 0 else-1:=fun x i=>jjD f i
 have h:joS (U.kJ n s)+1=n:=by
  have:=jmD (out:=List.replicate n (-1:Int)) (b:=s) (v:=0) (by simpa using f) (by rw[L.nth_rep f];decide) (by decide);unfold U.kJ;rw[this];unfold joS;rw[List.countP_replicate];simp
 refine⟨⟨⟨jjE n s,fun y d=> ?_,?_,fun y d c=> ?_,fun q g=> ?_,fun y z d k c a j=> ?_⟩,fun y d=> ?_⟩,?_⟩
 .show-1<=nth (U.kJ n s) y/\_;rw[show nth (U.qG J n s 0).1 y=_ from hi y d,hi y d];split<;>omega
 .show 0<=nth (U.kJ n s) s;rw[hi s f,if_pos rfl];omega
 .have c:0<=nth (U.kJ n s) y:=c;rw[hi y d] at c
  split at c
  .rename_i e;subst e;exact .base
  .omega
 .have g:q∈[(s:Int)]:=g;simp at g;subst g;refine⟨by omega,by omega,?_⟩;show 0<=nth (U.kJ n s) (s:Int).toNat;rw[jDN,hi s f,if_pos rfl];omega
 .have c:0<=nth (U.kJ n s) y:=c;rw[hi y d] at c
  split at c
  .rename_i e;subst e;rcases a with a|a
   .exact absurd (show(s:Int)∈[(s:Int)] by simp) a
   .exact a.elim
  .omega
 .show nth (U.kJ n s) y+(joS (U.kJ n s):Int)<=(n:Int)-1;rw[hi y d];split<;>omega
 .show joS (U.kJ n s)+1=n;exact h
theorem jqF {J:Nat->Nat->Bool} {n s:Nat} (b:s<n):∀k,jBJ J n s (U.qG J n s k)/\((U.qG J n s k).2=[]\/joS (U.qG J n s k).1+(U.qG J n s k).2.length+k=n)
 |0=>⟨(jsr b).1,.inr (jsr b).2⟩
 |k+1=>by
  obtain⟨d,a⟩:=jqF b k
  obtain⟨f,g⟩:=jyb b d
  refine⟨f,?_⟩
  by_cases e:(U.qG J n s k).2=[]
  .left
   show(U.wL J n (U.qG J n s k)).2=[]
   unfold U.wL
   split
   .exact e
   .rename_i c;rw[e] at c;cases c
  .right
   have:=g e
   rcases a with a|a
   .exact absurd a e
   .show joS (U.wL J n (U.qG J n s k)).1+(U.wL J n (U.qG J n s k)).2.length+(k+1)=n
    omega
theorem jzi {J:Nat->Nat->Bool} {n s k:Nat} (h:(U.qG J n s k).2=[]):∀m,k<=m->U.qG J n s m=U.qG J n s k:=by
 intro m d
 induction m with
 |zero=>have:k=0:=by omega
        subst this;rfl
 |succ m c=>
  by_cases e:k=m+1
  .rw[e]
  .have b:=c (by omega);show U.wL J n (U.qG J n s m)=_;rw[b];unfold U.wL
   split
   .rfl
   .rename_i a;rw[h] at a;cases a
end Go.X
namespace Go.X
namespace U
def gw {α:Type} (p:α->Bool) (l:List α):Int:=match l.findIdx? p with|some i=>(i:Int)|none=> -1
def jb {α:Type} (F:α×Unit->Bool×Unit) (g:α):Bool:=(F (g,())).1
end U
def gfb (t:Ty) (σ:St) (s:Nat):(Ty.st [t]).Data->(Ty.st [.bool]).Data:=gfn [t] [.bool] σ s
theorem wu:∀(l:List Prop) {k:Prop},U.jx l->k->asks l k
 |[],_,_,hk=>hk
 |_::r,_,h,hk=>⟨h.1,wu r h.2 hk⟩
theorem wA {α:Type} [Inhabited α] {l:List α} {p:α->Bool} {i:Nat} (h:i<l.length) (a:∀b:Nat,b<i->p (nth l b)=false) (c:p (nth l i)=true):U.gw p l=i:=by
 have:l.findIdx? p=some i:=by
  rw[List.findIdx?_eq_some_iff_getElem];refine⟨h,by rw[<-L.nth_lt h];exact c,fun j d=> ?_⟩;have:=a j d;rw[L.nth_lt (by omega)] at this;simp[this]
 unfold U.gw;rw[this]
theorem kl {α:Type} [Inhabited α] {l:List α} {p:α->Bool} {i:Nat} (h:l.length<=i) (a:∀b:Nat,b<i->p (nth l b)=false):U.gw p l= -1:=by
 have:l.findIdx? p=none:=by
  rw[List.findIdx?_eq_none_iff];intro x c;obtain⟨k,hk,rfl⟩:=L.mem_iff.1 c;exact a k (by omega)
 unfold U.gw;rw[this]
theorem jbA {α:Type} (p:α->Bool) (l:List α):decide (0<=U.gw p l)=l.any p:=by
 rw[jEk];unfold U.gw;simp only[decide_eq_true_eq]
 split
 .rename_i i e;rw[List.findIdx?_eq_some_iff_getElem] at e;obtain⟨h,a,_⟩:=e;exact⟨fun _=>jEF.2 ⟨_,List.getElem_mem h,a⟩,fun _=>by omega⟩
 .rename_i e;rw[List.findIdx?_eq_none_iff] at e;refine⟨fun h=>by omega,fun h=> ?_⟩;obtain⟨x,b,a⟩:=jEF.1 h;have:=e x b;exact absurd (a.symm.trans this) (by simp)
theorem jiX {α:Type} (F:α×Unit->Bool×Unit) (l:List α):(!l.any (U.jb fun(x:α×Unit)=>(!U.jb F x.fst,())))=l.all (U.jb F):=by
 induction l with
 |nil=>rfl
 |cons a r b=>
  simp only[List.any_cons,List.all_cons,Bool.not_or,b];have:(!U.jb (fun(x:α×Unit)=>(!U.jb F x.fst,())) a)=U.jb F a:=by
   show(!(!U.jb F a))=_;rw[Bool.not_not]
  rw[this]
end Go.X
namespace Go.X
open Go.Proofs
namespace U
def jkt (s n:Int):Bool:=decide (wb (s/2^n.toNat) 1=1)
def jBE (b:Bool):Int:=if b=true then 1 else 0
def joN (c:CrD) (f g:Int->Bool) (p:PeD):Bool:=((((((decide (((lv p).length:Int)=la c)&&(lv p).all f)&&ja (fd p) 0 255)&&ja (cl p) 0 255)&&decide (((zn p).length:Int)<=10))&&(zn p).all g)&&ja (fe p) 0 1000)
end U
def jqk:jR:=⟨[.val .int,.val .int,.val .int],[.bool],false,fun _=>[],fun d=>(U.ja d.1 d.2.1 d.2.2.1,())⟩
def jp0:Prop:=∀(d:Int×Int×Int×Unit),(decide (d.2.1<=d.1)&&decide (d.1<=d.2.2.1),())=(U.ja d.1 d.2.1 d.2.2.1,())
def ja3:jR:=⟨[.val (.uint .u64),.val .int],[.bool],false,fun d=>[0<=d.2.1,d.2.1<=64],fun d=>(U.jkt d.1 d.2.1,())⟩
def jnp:Prop:=∀(d:Int×Int×Unit),0<=d.2.1->d.2.1<=64->0<=d.2.1/\d.2.1<=64/\(decide (wb (d.1/(2:Int)^d.2.1.toNat) (1:Int)=1),())=(U.jkt d.1 d.2.1,())
def kW:jR:=⟨[.val (.uint .u64)],[.int],false,fun d=>[BT.Set' d.1],fun d=>(BT.size d.1,())⟩
def jnd:Ann:=fun r=>match r with
 |1=>some fun σ=>{X:=Int×Int,sl:=fun x=>[(0,.dat (.uint .u64) x.1),(2,.dat .int x.2)],ob:=fun _=>[],inv:=fun x=>BT.Set' x.1/\x.2+BT.size x.1=BT.size (gd (.uint .u64) σ 0),mu:=fun x=>x.1.toNat}
 |_=>none
def jlQ:Prop:=∀(d:Int×Unit),BT.Set' d.1->(∃(x:Int×Int),((d.1=x.1/\0=x.2/\True)/\True)/\BT.Set' x.1/\x.2+BT.size x.1=BT.size d.1)/\∀(x:Int×Int),BT.Set' x.1/\x.2+BT.size x.1=BT.size d.1->(decide (x.1≠0)=true->jC (x.2+1)/\0<=x.1-1/\x.1-1<=18446744073709551615/\∃(a:Int×Int),((wb x.1 (x.1-1)=a.1/\x.2+1=a.2/\True)/\True)/\(BT.Set' a.1/\a.2+BT.size a.1=BT.size d.1)/\a.1.toNat<x.1.toNat)/\(decide (x.1≠0)=false->(x.2,())=(BT.size d.1,()))
def jtw:jR:=⟨[.val .bool],[.int],false,fun _=>[],fun d=>(U.jBE d.1,())⟩
def jte:Prop:=∀(d:Bool×Unit),(d.1=true->((1:Int),())=(U.jBE d.1,()))/\(d.1=false->((0:Int),())=(U.jBE d.1,()))
def jc4:jR:=⟨[.val (.slice .int),.fn [.int] [.bool]],[.int],false,fun d=>[∀g∈d.1,U.jx (d.2.1.pre (g,()))],fun d=>(U.gw (U.jb (α:=Int) d.2.1.F) d.1,())⟩
def jdP:Ann:=fun r=>match r with
 |2=>some fun σ=>{X:=Nat,sl:=fun i=>[(8,.dat .int (i:Int))],ob:=fun _=>[],inv:=fun i=>i<=(gd (.slice .int) σ 0).length/\∀b:Nat,b<i->U.jb (gfb .int σ 1) (nth (gd (.slice .int) σ 0) b)=false,mu:=fun i=>(gd (.slice .int) σ 0).length-i}
 |_=>none
def jcU:Prop:=∀(d:List Int×FnD [Ty.int] [Ty.bool]×Unit),(∀(g:Int),g∈d.1->U.jx (d.2.1.1 (g,())))->d.1.length<4611686018427387904->(∃(x:Nat),((0=(x:Int)/\True)/\True)/\x<=d.1.length/\∀(b:Nat),b<x->U.jb d.2.1.2 (nth d.1 b)=false)/\∀(x:Nat),(x<=d.1.length/\∀(b:Nat),b<x->U.jb d.2.1.2 (nth d.1 b)=false)->(decide ((x:Int)<(d.1.length:Int))=true->0<=(x:Int)/\(x:Int)<(d.1.length:Int)/\asks (d.2.1.1 (nth d.1 (x:Int).toNat,())) (((d.2.1.2 (nth d.1 (x:Int).toNat,())).1=true->((x:Int),())=(U.gw (U.jb d.2.1.2) d.1,()))/\((d.2.1.2 (nth d.1 (x:Int).toNat,())).1=false->jC ((x:Int)+1)/\∃(a:Nat),(((x:Int)+1=(a:Int)/\True)/\True)/\(a<=d.1.length/\∀(b:Nat),b<a->U.jb d.2.1.2 (nth d.1 b)=false)/\d.1.length-a<d.1.length-x)))/\(decide ((x:Int)<(d.1.length:Int))=false->((-1:Int),())=(U.gw (U.jb d.2.1.2) d.1,()))
def jaH:jR:=⟨[.val (.slice .int),.fn [.int] [.bool]],[.bool],false,fun d=>[∀g∈d.1,U.jx (d.2.1.pre (g,()))],fun d=>(d.1.any (U.jb (α:=Int) d.2.1.F),())⟩
def jaC:Prop:=∀(d:List Int×FnD [Ty.int] [Ty.bool]×Unit),(∀(g:Int),g∈d.1->U.jx (d.2.1.1 (g,())))->(∀(g:Int),g∈d.1->U.jx (d.2.1.1 (g,())))/\(decide (0<=U.gw (U.jb d.2.1.2) d.1),())=(d.1.any (U.jb d.2.1.2),())
def jc5:jR:=⟨[.val (.slice tLw),.fn [tLw] [.bool]],[.int],false,fun d=>[∀g∈d.1,U.jx (d.2.1.pre (g,()))],fun d=>(U.gw (U.jb (α:=LwD) d.2.1.F) d.1,())⟩
def jdQ:Ann:=fun r=>match r with
 |2=>some fun σ=>{X:=Nat,sl:=fun i=>[(8,.dat .int (i:Int))],ob:=fun _=>[],inv:=fun i=>i<=(gd (.slice tLw) σ 0).length/\∀b:Nat,b<i->U.jb (gfb tLw σ 1) (nth (gd (.slice tLw) σ 0) b)=false,mu:=fun i=>(gd (.slice tLw) σ 0).length-i}
 |_=>none
def jcV:Prop:=∀(d:List LwD×FnD [tLw] [Ty.bool]×Unit),(∀(g:LwD),g∈d.1->U.jx (d.2.1.1 (g,())))->d.1.length<4611686018427387904->(∃(x:Nat),((0=(x:Int)/\True)/\True)/\x<=d.1.length/\∀(b:Nat),b<x->U.jb d.2.1.2 (nth d.1 b)=false)/\∀(x:Nat),(x<=d.1.length/\∀(b:Nat),b<x->U.jb d.2.1.2 (nth d.1 b)=false)->(decide ((x:Int)<(d.1.length:Int))=true->0<=(x:Int)/\(x:Int)<(d.1.length:Int)/\asks (d.2.1.1 (nth d.1 (x:Int).toNat,())) (((d.2.1.2 (nth d.1 (x:Int).toNat,())).1=true->((x:Int),())=(U.gw (U.jb d.2.1.2) d.1,()))/\((d.2.1.2 (nth d.1 (x:Int).toNat,())).1=false->jC ((x:Int)+1)/\∃(a:Nat),(((x:Int)+1=(a:Int)/\True)/\True)/\(a<=d.1.length/\∀(b:Nat),b<a->U.jb d.2.1.2 (nth d.1 b)=false)/\d.1.length-a<d.1.length-x)))/\(decide ((x:Int)<(d.1.length:Int))=false->((-1:Int),())=(U.gw (U.jb d.2.1.2) d.1,()))
def jaI:jR:=⟨[.val (.slice tLw),.fn [tLw] [.bool]],[.bool],false,fun d=>[∀g∈d.1,U.jx (d.2.1.pre (g,()))],fun d=>(d.1.any (U.jb (α:=LwD) d.2.1.F),())⟩
def jaD:Prop:=∀(d:List LwD×FnD [tLw] [Ty.bool]×Unit),(∀(g:LwD),g∈d.1->U.jx (d.2.1.1 (g,())))->(∀(g:LwD),g∈d.1->U.jx (d.2.1.1 (g,())))/\(decide (0<=U.gw (U.jb d.2.1.2) d.1),())=(d.1.any (U.jb d.2.1.2),())
def jaG:jR:=⟨[.val (.slice tPe),.fn [tPe] [.bool]],[.int],false,fun d=>[∀g∈d.1,U.jx (d.2.1.pre (g,()))],fun d=>(U.gw (U.jb (α:=PeD) d.2.1.F) d.1,())⟩
def jaP:Ann:=fun r=>match r with
 |2=>some fun σ=>{X:=Nat,sl:=fun i=>[(8,.dat .int (i:Int))],ob:=fun _=>[],inv:=fun i=>i<=(gd (.slice tPe) σ 0).length/\∀b:Nat,b<i->U.jb (gfb tPe σ 1) (nth (gd (.slice tPe) σ 0) b)=false,mu:=fun i=>(gd (.slice tPe) σ 0).length-i}
 |_=>none
def jaB:Prop:=∀(d:List PeD×FnD [tPe] [Ty.bool]×Unit),(∀(g:PeD),g∈d.1->U.jx (d.2.1.1 (g,())))->d.1.length<4611686018427387904->(∃(x:Nat),((0=(x:Int)/\True)/\True)/\x<=d.1.length/\∀(b:Nat),b<x->U.jb d.2.1.2 (nth d.1 b)=false)/\∀(x:Nat),(x<=d.1.length/\∀(b:Nat),b<x->U.jb d.2.1.2 (nth d.1 b)=false)->(decide ((x:Int)<(d.1.length:Int))=true->0<=(x:Int)/\(x:Int)<(d.1.length:Int)/\asks (d.2.1.1 (nth d.1 (x:Int).toNat,())) (((d.2.1.2 (nth d.1 (x:Int).toNat,())).1=true->((x:Int),())=(U.gw (U.jb d.2.1.2) d.1,()))/\((d.2.1.2 (nth d.1 (x:Int).toNat,())).1=false->jC ((x:Int)+1)/\∃(a:Nat),(((x:Int)+1=(a:Int)/\True)/\True)/\(a<=d.1.length/\∀(b:Nat),b<a->U.jb d.2.1.2 (nth d.1 b)=false)/\d.1.length-a<d.1.length-x)))/\(decide ((x:Int)<(d.1.length:Int))=false->((-1:Int),())=(U.gw (U.jb d.2.1.2) d.1,()))
def yh:jR:=⟨[.val (.slice tPe),.fn [tPe] [.bool]],[.bool],false,fun d=>[∀g∈d.1,U.jx (d.2.1.pre (g,()))],fun d=>(d.1.any (U.jb (α:=PeD) d.2.1.F),())⟩
def yf:Prop:=∀(d:List PeD×FnD [tPe] [Ty.bool]×Unit),(∀(g:PeD),g∈d.1->U.jx (d.2.1.1 (g,())))->(∀(g:PeD),g∈d.1->U.jx (d.2.1.1 (g,())))/\(decide (0<=U.gw (U.jb d.2.1.2) d.1),())=(d.1.any (U.jb d.2.1.2),())
def jg9:jR:=⟨[.val .int,.rfn [.int] [.bool]],[.bool],false,fun d=>[U.jx (d.2.1.pre (d.1,()))],fun d=>(!(U.jb (α:=Int) d.2.1.F d.1),())⟩
def jgY:Prop:=∀(d:Int×FnD [Ty.int] [Ty.bool]×Unit),U.jx (d.2.1.1 (d.1,()))->asks (d.2.1.1 (d.1,())) ((!(d.2.1.2 (d.1,())).1,())=(!U.jb d.2.1.2 d.1,()))
def jkb:jR:=⟨[.val (.slice .int),.fn [.int] [.bool]],[.bool],false,fun d=>[∀g∈d.1,U.jx (d.2.1.pre (g,()))],fun d=>(d.1.all (U.jb (α:=Int) d.2.1.F),())⟩
def jj4:Prop:=∀(d:List Int×FnD [Ty.int] [Ty.bool]×Unit),(∀(g:Int),g∈d.1->U.jx (d.2.1.1 (g,())))->(∀(g:Int),g∈d.1->U.jx [U.jx (d.2.1.1 (g,()))])/\(!d.1.any (U.jb fun(a:Int×Unit)=>(!U.jb d.2.1.2 a.1,())),())=(d.1.all (U.jb d.2.1.2),())
def jha:jR:=⟨[.val tLw,.rfn [tLw] [.bool]],[.bool],false,fun d=>[U.jx (d.2.1.pre (d.1,()))],fun d=>(!(U.jb (α:=LwD) d.2.1.F d.1),())⟩
def jgZ:Prop:=∀(d:LwD×FnD [tLw] [Ty.bool]×Unit),U.jx (d.2.1.1 (d.1,()))->asks (d.2.1.1 (d.1,())) ((!(d.2.1.2 (d.1,())).1,())=(!U.jb d.2.1.2 d.1,()))
def jkc:jR:=⟨[.val (.slice tLw),.fn [tLw] [.bool]],[.bool],false,fun d=>[∀g∈d.1,U.jx (d.2.1.pre (g,()))],fun d=>(d.1.all (U.jb (α:=LwD) d.2.1.F),())⟩
def jj5:Prop:=∀(d:List LwD×FnD [tLw] [Ty.bool]×Unit),(∀(g:LwD),g∈d.1->U.jx (d.2.1.1 (g,())))->(∀(g:LwD),g∈d.1->U.jx [U.jx (d.2.1.1 (g,()))])/\(!d.1.any (U.jb fun(a:LwD×Unit)=>(!U.jb d.2.1.2 a.1,())),())=(d.1.all (U.jb d.2.1.2),())
def jc3:jR:=⟨[.val tPe,.rfn [tPe] [.bool]],[.bool],false,fun d=>[U.jx (d.2.1.pre (d.1,()))],fun d=>(!(U.jb (α:=PeD) d.2.1.F d.1),())⟩
def jcS:Prop:=∀(d:PeD×FnD [tPe] [Ty.bool]×Unit),U.jx (d.2.1.1 (d.1,()))->asks (d.2.1.1 (d.1,())) ((!(d.2.1.2 (d.1,())).1,())=(!U.jb d.2.1.2 d.1,()))
def jfH:jR:=⟨[.val (.slice tPe),.fn [tPe] [.bool]],[.bool],false,fun d=>[∀g∈d.1,U.jx (d.2.1.pre (g,()))],fun d=>(d.1.all (U.jb (α:=PeD) d.2.1.F),())⟩
def jfz:Prop:=∀(d:List PeD×FnD [tPe] [Ty.bool]×Unit),(∀(g:PeD),g∈d.1->U.jx (d.2.1.1 (g,())))->(∀(g:PeD),g∈d.1->U.jx [U.jx (d.2.1.1 (g,()))])/\(!d.1.any (U.jb fun(a:PeD×Unit)=>(!U.jb d.2.1.2 a.1,())),())=(d.1.all (U.jb d.2.1.2),())
def jnU:jR:=⟨[.val .int],[.bool],false,fun _=>[],fun d=>(U.ja d.1 0 5,())⟩
def jnu:Prop:=∀(d:Int×Unit),(U.ja d.1 (0:Int) (5:Int),())=(U.ja d.1 (0:Int) (5:Int),())
def jnT:jR:=⟨[.val .int],[.bool],false,fun _=>[],fun d=>(U.ja d.1 0 99,())⟩
def jnt:Prop:=∀(d:Int×Unit),(U.ja d.1 (0:Int) (99:Int),())=(U.ja d.1 (0:Int) (99:Int),())
def jnS:jR:=⟨[.val tPe,.ref tCr,.rfn [.int] [.bool],.rfn [.int] [.bool]],[.bool],false,fun d=>[∀g∈U.lv d.1,U.jx (d.2.2.1.pre (g,())),∀g∈U.zn d.1,U.jx (d.2.2.2.1.pre (g,()))],fun d=>(U.joN d.2.1 (U.jb d.2.2.1.F) (U.jb d.2.2.2.1.F) d.1,())⟩
def jns:Prop:=∀(d:PeD×CrD×FnD [Ty.int] [Ty.bool]×FnD [Ty.int] [Ty.bool]×Unit),(∀(g:Int),g∈U.lv d.1->U.jx (d.2.2.1.1 (g,())))->(∀(g:Int),g∈U.zn d.1->U.jx (d.2.2.2.1.1 (g,())))->d.1.1.length<4611686018427387904->(decide ((d.1.1.length:Int)=d.2.1.1)=true->∀(g:Int),g∈d.1.1->U.jx (d.2.2.1.1 (g,())))/\(((decide ((d.1.1.length:Int)=d.2.1.1)&&d.1.1.all (U.jb d.2.2.1.2)&&U.ja d.1.2.1 (0:Int) (255:Int)&&U.ja d.1.2.2.1 (0:Int) (255:Int))=true->d.1.2.2.2.1.length<4611686018427387904)->((decide ((d.1.1.length:Int)=d.2.1.1)&&d.1.1.all (U.jb d.2.2.1.2)&&U.ja d.1.2.1 (0:Int) (255:Int)&&U.ja d.1.2.2.1 (0:Int) (255:Int)&&decide ((d.1.2.2.2.1.length:Int)<=10))=true->∀(g:Int),g∈d.1.2.2.2.1->U.jx (d.2.2.2.1.1 (g,())))/\(decide ((d.1.1.length:Int)=d.2.1.1)&&d.1.1.all (U.jb d.2.2.1.2)&&U.ja d.1.2.1 (0:Int) (255:Int)&&U.ja d.1.2.2.1 (0:Int) (255:Int)&&decide ((d.1.2.2.2.1.length:Int)<=10)&&d.1.2.2.2.1.all (U.jb d.2.2.2.1.2)&&U.ja d.1.2.2.2.2.2.1 (0:Int) (1000:Int),())=(U.joN d.2.1 (U.jb d.2.2.1.2) (U.jb d.2.2.2.1.2) d.1,()))
def jnR:jR:=⟨[.val tLw],[.bool],false,fun _=>[],fun d=>(U.yP d.1,())⟩
def jnr:Prop:=∀(d:LwD×Unit),(U.ja d.1.1 (1:Int) (5:Int)&&U.ja d.1.2.1 (1:Int) (8:Int),())=(U.yP d.1,())
def jnQ:jR:=⟨[.val .int,.ref tCr],[.bool],false,fun d=>[jC (U.la d.2.1-1)],fun d=>(U.ja d.1 0 (U.la d.2.1-1),())⟩
def jnq:Prop:=∀(d:Int×CrD×Unit),jC (U.la d.2.1-1)->jC (d.2.1.1-1)/\(U.ja d.1 (0:Int) (d.2.1.1-1),())=(U.ja d.1 (0:Int) (U.la d.2.1-1),())
def jtx:jR:=⟨[.val tCr,.val tJb],[.int],false,fun _=>[],fun d=>(U.zN d.1 d.2.1,())⟩
abbrev q22_0 (d:CrD×JbD×Unit):=(!U.ja d.2.1.1 (0:Int) (U.la d.1-1)|| !U.ja d.2.1.2.1 (0:Int) (U.la d.1-1)||decide (d.2.1.1=d.2.1.2.1)|| !U.ja d.2.1.2.2.1 (0:Int) (99:Int)|| !U.ja d.2.1.2.2.2.1 (0:Int) (7:Int)|| !U.ja d.2.1.2.2.2.2.1 (0:Int) (3:Int)|| !U.ja d.2.1.2.2.2.2.2.1 (1:Int) (8:Int))
abbrev q22_1 (d:CrD×JbD×Unit):=(8<(d.1.2.1.length:Int))
def jtf:Prop:=∀(d:CrD×JbD×Unit),((!!U.ja d.1.1 (2:Int) (5:Int))=true->d.1.2.1.length<4611686018427387904)->((!(!U.ja d.1.1 (2:Int) (5:Int)||decide (q22_1 d)))=true->∀(g:PeD),g∈d.1.2.1->U.jx [∀(b:Int),b∈U.lv g->U.jx [],∀(b:Int),b∈U.zn g->U.jx []])/\(((!(!U.ja d.1.1 (2:Int) (5:Int)||decide (q22_1 d)|| !d.1.2.1.all (U.jb fun(a:PeD×Unit)=>(U.joN d.1 (U.jb fun(a:Int×Unit)=>(U.ja a.1 (0:Int) (5:Int),())) (U.jb fun(a:Int×Unit)=>(U.ja a.1 (0:Int) (99:Int),())) a.1,()))))=true->d.1.2.2.1.length<4611686018427387904)->((!(!U.ja d.1.1 (2:Int) (5:Int)||decide (q22_1 d)|| !d.1.2.1.all (U.jb fun(c:PeD×Unit)=>(U.joN d.1 (U.jb fun(c:Int×Unit)=>(U.ja c.1 (0:Int) (5:Int),())) (U.jb fun(c:Int×Unit)=>(U.ja c.1 (0:Int) (99:Int),())) c.1,()))||decide ((d.1.2.2.1.length:Int)≠4)))=true->∀(g:LwD),g∈d.1.2.2.1->U.jx [])/\((!U.ja d.1.1 (2:Int) (5:Int)||decide (q22_1 d)|| !d.1.2.1.all (U.jb fun(e:PeD×Unit)=>(U.joN d.1 (U.jb fun(e:Int×Unit)=>(U.ja e.1 (0:Int) (5:Int),())) (U.jb fun(e:Int×Unit)=>(U.ja e.1 (0:Int) (99:Int),())) e.1,()))||decide ((d.1.2.2.1.length:Int)≠4)|| !d.1.2.2.1.all (U.jb fun(h:LwD×Unit)=>(U.yP h.1,())))=true->((30:Int),())=(U.zN d.1 d.2.1,()))/\((!U.ja d.1.1 (2:Int) (5:Int)||decide (q22_1 d)|| !d.1.2.1.all (U.jb fun(f:PeD×Unit)=>(U.joN d.1 (U.jb fun(f:Int×Unit)=>(U.ja f.1 (0:Int) (5:Int),())) (U.jb fun(f:Int×Unit)=>(U.ja f.1 (0:Int) (99:Int),())) f.1,()))||decide ((d.1.2.2.1.length:Int)≠4)|| !d.1.2.2.1.all (U.jb fun(i:LwD×Unit)=>(U.yP i.1,())))=false->jC (U.la d.1-1)/\((!!U.ja d.2.1.1 (0:Int) (U.la d.1-1))=true->jC (U.la d.1-1))/\((q22_0 d)=true->((31:Int),())=(U.zN d.1 d.2.1,()))/\((q22_0 d)=false->((0:Int),())=(U.zN d.1 d.2.1,()))))
end Go.X
namespace Go.X
open Go.Proofs
theorem jt5:jp0:=by
 intro d;rfl
theorem wn:zh PR 126 jqk:=jM jt5 Tryz.func126 kcN koN
theorem jrg:jnp:=by
 intro d a b;exact⟨a,b,rfl⟩
theorem jow:zh PR 190 ja3:=jM jrg Tryz.func190 kcN koN
theorem jo7:jlQ:=by
 rintro⟨s,⟨⟩⟩ e;refine⟨⟨(s,0),⟨⟨rfl,rfl,trivial⟩,trivial⟩,e,by simp⟩,?_⟩;rintro⟨x,n⟩ ⟨a,b⟩;have a:BT.Set' x:=a;have g:=BT.size_le s;have f:=BT.size_le x;refine⟨fun h=> ?_,fun h=> ?_⟩
 .have h:x≠0:=of_decide_eq_true h;obtain⟨d,i,j⟩:=BT.pred a h;have c:=a;unfold BT.Set' at c;simp only at b⊢;exact⟨L.in64 (by omega) (by omega),by omega,by omega,(wb x (x-1),n+1),⟨⟨rfl,rfl,trivial⟩,trivial⟩,⟨d,(by omega:n+1+BT.size (wb x (x-1))=BT.size s)⟩,(by unfold BT.Set' at d;omega:(wb x (x-1)).toNat<x.toNat)⟩
 .have h:x=0:=(by simpa using h);subst h;simp only[BT.size_zero] at b;simp only at b⊢;rw[show n=BT.size s by omega]
theorem jmu:zh PR 156 kW:=wt jnd jo7 Tryz.func156 kcN koN
theorem jwM:jte:=by
 rintro⟨b,⟨⟩⟩;exact⟨fun h=>by simp only at h;subst h;rfl,fun h=>by simp only at h;subst h;rfl⟩
theorem jtP:zh PR 153 jtw:=jM jwM Tryz.func153 kcN koN
theorem jeZ:jcU:=by
 rintro⟨l,f,⟨⟩⟩ a g;refine⟨⟨0,⟨⟨rfl,trivial⟩,trivial⟩,jDU _,fun b c=>by omega⟩,fun i hi=>⟨fun h=> ?_,fun h=> ?_⟩⟩
 .have h:i<l.length:=(by simpa using h);simp only[jDN] at*;refine⟨by omega,by omega,wu _ (a _ (L.mem_nth h)) ⟨fun c=> ?_,fun c=>⟨L.in64 (by omega) (by omega),i+1,⟨⟨by simp,trivial⟩,trivial⟩,⟨by omega,fun b d=> ?_⟩,by omega⟩⟩⟩
  .rw[wA (p:=U.jb (α:=Int) f.F) h hi.2 c]
  .by_cases e:b=i
   .subst e;exact c
   .exact hi.2 b (by omega)
 .have h:l.length<=i:=(by simpa using h);rw[kl (p:=U.jb (α:=Int) f.F) h hi.2]
theorem jdk:zh PR 158 jc4:=wt jdP jeZ Tryz.func158 kcN koN
theorem jbC:jaC:=by
 rintro⟨l,f,⟨⟩⟩ a;refine⟨a,?_⟩;exact congrArg (·,()) (jbA (U.jb (α:=Int) f.F) l)
theorem wW:zh PR 124 jaH:=jM jbC Tryz.func124 (kcC jdk kcN) koN
theorem je0:jcV:=by
 rintro⟨l,f,⟨⟩⟩ a g;refine⟨⟨0,⟨⟨rfl,trivial⟩,trivial⟩,jDU _,fun b c=>by omega⟩,fun i hi=>⟨fun h=> ?_,fun h=> ?_⟩⟩
 .have h:i<l.length:=(by simpa using h);simp only[jDN] at*;refine⟨by omega,by omega,wu _ (a _ (L.mem_nth h)) ⟨fun c=> ?_,fun c=>⟨L.in64 (by omega) (by omega),i+1,⟨⟨by simp,trivial⟩,trivial⟩,⟨by omega,fun b d=> ?_⟩,by omega⟩⟩⟩
  .rw[wA (p:=U.jb (α:=LwD) f.F) h hi.2 c]
  .by_cases e:b=i
   .subst e;exact c
   .exact hi.2 b (by omega)
 .have h:l.length<=i:=(by simpa using h);rw[kl (p:=U.jb (α:=LwD) f.F) h hi.2]
theorem jdl:zh PR 194 jc5:=wt jdQ je0 Tryz.func194 kcN koN
theorem jbD:jaD:=by
 rintro⟨l,f,⟨⟩⟩ a;refine⟨a,?_⟩;exact congrArg (·,()) (jbA (U.jb (α:=LwD) f.F) l)
theorem jaK:zh PR 162 jaI:=jM jbD Tryz.func162 (kcC jdl kcN) koN
theorem jbB:jaB:=by
 rintro⟨l,f,⟨⟩⟩ a g;refine⟨⟨0,⟨⟨rfl,trivial⟩,trivial⟩,jDU _,fun b c=>by omega⟩,fun i hi=>⟨fun h=> ?_,fun h=> ?_⟩⟩
 .have h:i<l.length:=(by simpa using h);simp only[jDN] at*;refine⟨by omega,by omega,wu _ (a _ (L.mem_nth h)) ⟨fun c=> ?_,fun c=>⟨L.in64 (by omega) (by omega),i+1,⟨⟨by simp,trivial⟩,trivial⟩,⟨by omega,fun b d=> ?_⟩,by omega⟩⟩⟩
  .rw[wA (p:=U.jb (α:=PeD) f.F) h hi.2 c]
  .by_cases e:b=i
   .subst e;exact c
   .exact hi.2 b (by omega)
 .have h:l.length<=i:=(by simpa using h);rw[kl (p:=U.jb (α:=PeD) f.F) h hi.2]
theorem jaJ:zh PR 193 jaG:=wt jaP jbB Tryz.func193 kcN koN
theorem y4:yf:=by
 rintro⟨l,f,⟨⟩⟩ a;refine⟨a,?_⟩;exact congrArg (·,()) (jbA (U.jb (α:=PeD) f.F) l)
theorem ym:zh PR 160 yh:=jM y4 Tryz.func160 (kcC jaJ kcN) koN
theorem jjk:jgY:=by
 intro d h;exact wu _ h rfl
theorem jho:zh PR 159 jg9:=jM jjk Tryz.func159 kcN koN
theorem jmO:jj4:=by
 intro d h;exact⟨fun g a=>⟨h g a,trivial⟩,congrArg (·,()) (jiX d.snd.fst.2 d.fst)⟩
theorem jkm:zh PR 129 jkb:=jM jmO Tryz.func129 (kcC wW (kcC jho kcN)) koN
theorem jjl:jgZ:=by
 intro d h;exact wu _ h rfl
theorem jhp:zh PR 163 jha:=jM jjl Tryz.func163 kcN koN
theorem jmP:jj5:=by
 intro d h;exact⟨fun g a=>⟨h g a,trivial⟩,congrArg (·,()) (jiX d.snd.fst.2 d.fst)⟩
theorem jkn:zh PR 133 jkc:=jM jmP Tryz.func133 (kcC jaK (kcC jhp kcN)) koN
theorem jeY:jcS:=by
 intro d h;exact wu _ h rfl
theorem jdj:zh PR 161 jc3:=jM jeY Tryz.func161 kcN koN
theorem jhB:jfz:=by
 intro d h;exact⟨fun g a=>⟨h g a,trivial⟩,congrArg (·,()) (jiX d.snd.fst.2 d.fst)⟩
theorem jfV:zh PR 132 jfH:=jM jhB Tryz.func132 (kcC ym (kcC jdj kcN)) koN
theorem jrl:jnu:=fun _=>rfl
theorem joC:zh PR 125 jnU:=jM jrl Tryz.func125 (kcC wn kcN) koN
theorem jrk:jnt:=fun _=>rfl
theorem joB:zh PR 127 jnT:=jM jrk Tryz.func127 (kcC wn kcN) koN
theorem jrj:jns:=by
 rintro⟨p,c,f,g,⟨⟩⟩ a b _;exact⟨fun _=>a,fun _=>⟨fun _=>b,rfl⟩⟩
theorem joA:zh PR 128 jnS:=jM jrj Tryz.func128 (kcC wn (kcC jkm kcN)) koN
theorem jri:jnr:=fun _=>rfl
theorem joz:zh PR 130 jnR:=jM jri Tryz.func130 (kcC wn kcN) koN
theorem jrh:jnq:=fun _ h=>⟨h,rfl⟩
theorem joy:zh PR 131 jnQ:=jM jrh Tryz.func131 (kcC wn kcN) koN
theorem jAG (c:CrD) (p:PeD):U.joN c (fun x=>U.ja x 0 5) (fun x=>U.ja x 0 99) p=U.yn (U.la c) p:=by
 rw[jEk];simp only[U.joN,U.yn,U.ja,jDK,decide_eq_true_eq];constructor
 .rintro⟨⟨⟨⟨⟨⟨e,f⟩,a⟩,b⟩,k⟩,i⟩,d⟩;exact⟨⟨e,a.1,a.2,b.1,b.2,by omega,d.1,d.2⟩,f,i⟩
 .rintro⟨⟨e,a,g,b,h,k,d,j⟩,f,i⟩;exact⟨⟨⟨⟨⟨⟨e,f⟩,a,g⟩,b,h⟩,by omega⟩,i⟩,d,j⟩
theorem jA9 (c:CrD):(((((!U.ja c.1 2 5||decide (8<((c.2.1.length:Nat):Int)))|| !c.2.1.all (U.yn (U.la c)))||decide (((c.2.2.1.length:Nat):Int)≠4))|| !c.2.2.1.all U.yP))= !U.jr c:=by
 unfold U.jr;show _= !(decide (2<=c.1/\c.1<=5/\c.2.1.length<=8/\c.2.2.1.length=4)&&(c.2.1.all (U.yn (U.la c))&&c.2.2.1.all U.yP));cases c.2.1.all (U.yn (U.la c))<;>cases c.2.2.1.all U.yP<;>simp only[U.ja,Bool.not_true,Bool.not_false,Bool.or_true,Bool.or_false,Bool.and_true,Bool.and_false,Bool.true_or]
 rw[jEk];simp only[jE1,jEd,Bool.and_eq_false_iff,decide_eq_true_eq,decide_eq_false_iff_not];omega
theorem jCb (c:CrD) (j:JbD):((((((!U.ja j.1 0 (U.la c-1)|| !U.ja j.2.1 0 (U.la c-1))||decide (j.1=j.2.1))|| !U.ja j.2.2.1 0 99)|| !U.ja j.2.2.2.1 0 7)|| !U.ja j.2.2.2.2.1 0 3)|| !U.ja j.2.2.2.2.2.1 1 8)= !U.j7 c j:=by
 have key:(U.j7 c j=false)↔¬(0<=j.1/\j.1<=U.la c-1/\0<=j.2.1/\j.2.1<=U.la c-1/\j.1≠j.2.1/\0<=j.2.2.1/\j.2.2.1<=99/\0<=j.2.2.2.1/\j.2.2.2.1<=7/\0<=j.2.2.2.2.1/\j.2.2.2.2.1<=3/\1<=j.2.2.2.2.2.1/\j.2.2.2.2.2.1<=8):=by
  unfold U.j7;exact decide_eq_false_iff_not
 rw[jEk,jEd,key];simp only[U.ja,jE1,jEd,Bool.and_eq_false_iff,decide_eq_true_eq,decide_eq_false_iff_not];omega
theorem jwN:jtf:=by
 unfold jtf q22_1 q22_0;rintro⟨c,j,⟨⟩⟩;have f:∀p,U.jb (fun(x:PeD×Unit)=>(U.joN c (U.jb fun(x:Int×Unit)=>(U.ja x.fst 0 5,())) (U.jb fun(x:Int×Unit)=>(U.ja x.fst 0 99,())) x.fst,())) p=U.yn (U.la c) p:=fun p=>jAG c p
 have i:(U.jb fun(x:LwD×Unit)=>(U.yP x.fst,()))=U.yP:=rfl;have d:=jA9 c;have e:=jCb c j;intro _;refine⟨fun _ g _=>⟨fun _ _=>trivial,fun _ _=>trivial,trivial⟩,fun _=> ?_⟩;simp only at d e⊢;rw[funext f,i,d,e];refine⟨fun _ _ _=>trivial,fun h=> ?_,fun h=> ?_⟩
 .have h:U.jr c=false:=(by simpa using h);unfold U.zN;rw[if_pos h]
 .have h:U.jr c=true:=(by simpa using h);have k:2<=U.la c/\U.la c<=5:=by
   unfold U.jr at h;simp only[jDK,decide_eq_true_eq] at h;exact⟨h.1.1,h.1.2.1⟩
  have b:jC (U.la c-1):=L.in64 (by omega) (by omega);refine⟨b,fun _=>b,fun a=> ?_,fun a=> ?_⟩
  .have a:U.j7 c j=false:=(by simpa using a);unfold U.zN;rw[if_neg (by rw[h];simp),if_pos a]
  .have a:U.j7 c j=true:=(by simpa using a);unfold U.zN;rw[if_neg (by rw[h];simp),if_neg (by rw[a];simp)]
theorem jk4:zh PR 85 jtx:=jM jwN Tryz.func85 (kcC wn (kcC jfV (kcC jkn (kcC joC (kcC joB (kcC joA (kcC joz (kcC joy kcN)))))))) koN
end Go.X
namespace Go.X
open Go.Proofs
abbrev tTk:Ty:= .st [tCr,tJb,tLw]
abbrev TkD:Type:=CrD×JbD×LwD×Unit
namespace U
def tk (o:Option TkD):TkD:=jS (Ty.dflt tTk) o
def tc (t:TkD):CrD:=t.1
def tj (t:TkD):JbD:=t.2.1
def tl (t:TkD):LwD:=t.2.2.1
def jk3 (c:CrD) (j:JbD):Option TkD:=if zN c j=0 then some (c,j,jyB c j,()) else none
def vu (t:TkD):Prop:=jr (tc t)=true/\j7 (tc t) (tj t)=true/\tl t=jyB (tc t) (tj t)
def jtt (a b c:Bool):Int:=jBE a+2*jBE b+4*jBE c
def wd (t:TkD) (p:PeD):Int:=jtt (jaZ p (jBG (tj t))) (!qB (fd p) (jyI (tj t))) (!qB (cl p) (jyG (tj t)))
def jeS (t:TkD) (p:PeD):List (Int×Int):=[(0,jBE (!jaZ p (jBG (tj t)))),(1,va (fd p/2^(jyI (tj t)).toNat) 1),(2,va (cl p/2^(jyG (tj t)).toNat) 1)]
def qI (all left:List (Int×Int)) (out:Int):Prop:=BT.Set' out/\left.Nodup/\(∀e∈left,e∈all)/\∀p:Nat,BT.has out p=true↔∃e∈all,e∉left/\e.2=0/\e.1.toNat=p
def wa (t:TkD) (s:Int) (n:Nat):List (Int×PeD×Unit):=((List.range n).filter (fun(i:Nat)=>jkt s (i:Int))).map (fun(i:Nat)=>((i:Int),nth (jh (tc t)) i,()))
def joV (t:TkD) (s:Int):List (Int×PeD×Unit):=wa t s (jh (tc t)).length
def jn (t:TkD) (a b:Int) (x:Int×PeD×Unit):Bool:=decide (jDq (tl t)<=min (nth (lv x.2.1) a.toNat) (nth (lv x.2.1) b.toNat))
def jdt (t:TkD) (s a b:Int):Bool:=(joV t s).any (jn t a b)
def wH (t:TkD) (a b:Int) (q:List (Int×PeD×Unit)):Bool:=match q.getLast? with|some x=>jn t a b x|none=>false
end U
def jio:jR:=⟨[.val (.slice .int),.val .int],[.int],false,fun _=>[],fun d=>(U.gw (fun x=>decide (x=d.2.1)) d.1,())⟩
def jjW:Ann:=fun r=>match r with
 |2=>some fun σ=>{X:=Nat,sl:=fun i=>[(8,.dat .int (i:Int))],ob:=fun _=>[],inv:=fun i=>i<=(gd (.slice .int) σ 0).length/\∀b:Nat,b<i->decide (nth (gd (.slice .int) σ 0) b=gd .int σ 1)=false,mu:=fun i=>(gd (.slice .int) σ 0).length-i}
 |_=>none
def jh9:Prop:=∀(d:List Int×Int×Unit),d.1.length<4611686018427387904->(∃(x:Nat),((0=(x:Int)/\True)/\True)/\x<=d.1.length/\∀(b:Nat),b<x->decide (nth d.1 b=d.2.1)=false)/\∀(x:Nat),(x<=d.1.length/\∀(b:Nat),b<x->decide (nth d.1 b=d.2.1)=false)->(decide ((x:Int)<(d.1.length:Int))=true->0<=(x:Int)/\(x:Int)<(d.1.length:Int)/\(decide (d.2.1=nth d.1 (x:Int).toNat)=true->((x:Int),())=(U.gw (fun(c:Int)=>decide (c=d.2.1)) d.1,()))/\(decide (d.2.1=nth d.1 (x:Int).toNat)=false->jC ((x:Int)+1)/\∃(a:Nat),(((x:Int)+1=(a:Int)/\True)/\True)/\(a<=d.1.length/\∀(b:Nat),b<a->decide (nth d.1 b=d.2.1)=false)/\d.1.length-a<d.1.length-x))/\(decide ((x:Int)<(d.1.length:Int))=false->((-1:Int),())=(U.gw (fun(e:Int)=>decide (e=d.2.1)) d.1,()))
def jeg:jR:=⟨[.val (.slice .int),.val .int],[.bool],false,fun _=>[],fun d=>(d.1.any (fun x=>decide (x=d.2.1)),())⟩
def jd2:Prop:=∀(d:List Int×Int×Unit),(decide (0<=U.gw (fun(a:Int)=>decide (a=d.2.1)) d.1),())=(d.1.any fun(b:Int)=>decide (b=d.2.1),())
def jvi:jR:=⟨[.val tCr,.val tJb],[.ptr tTk,.int],false,fun _=>[],fun d=>(U.jk3 d.1 d.2.1,U.zN d.1 d.2.1,())⟩
def juY:Prop:=∀(d:CrD×JbD×Unit),(decide (U.zN d.1 d.2.1≠0)=true->(none,U.zN d.1 d.2.1,())=(U.jk3 d.1 d.2.1,U.zN d.1 d.2.1,()))/\(decide (U.zN d.1 d.2.1≠0)=false->0<=d.2.1.2.2.2.2.1/\d.2.1.2.2.2.2.1<(d.1.2.2.1.length:Int)/\(some (d.1,d.2.1,nth d.1.2.2.1 d.2.1.2.2.2.2.1.toNat,()),(0:Int),())=(U.jk3 d.1 d.2.1,U.zN d.1 d.2.1,()))
def LM (d:PD [.ref (.ptr tTk),.ref (.uint .u64)]) (xs:List (Ty.st [.int,tPe]).Data):Prop:=xs=U.joV (U.tk d.1) d.2.1
def juL (d:PD [.ref (.ptr tTk),.ref (.uint .u64)]):jh2 (YS [.int,tPe]):=fun r=>match r with
 |1=>some fun σ ys=>{X:=Nat,sl:=fun i=>[(12,.dat .int (i:Int))],ob:=fun _=>[],ys:=fun i=>(U.wa (U.tk d.1) d.2.1 i,true),inv:=fun i=>i<=(U.jh (U.tc (U.tk d.1))).length,mu:=fun i=>(U.jh (U.tc (U.tk d.1))).length-i}
 |_=>none
abbrev q26_0 (d:Option (CrD×JbD×LwD×Unit)×Int×Unit):=(jS (((0:Int),[],[],()),((0:Int),(0:Int),(0:Int),(0:Int),(0:Int),(0:Int),()),((0:Int),(0:Int),false,()),()) d.1)
abbrev q26_1 (d:Option (CrD×JbD×LwD×Unit)×Int×Unit):=(U.jh (U.tc (U.tk d.1)))
abbrev q26_2 (x:Nat)(d:Option (CrD×JbD×LwD×Unit)×Int×Unit):=((x:Int),nth (q26_0 d).1.2.1 (x:Int).toNat,())
abbrev q26_3 (x:Nat)(a:Nat):=(((x:Int)+1=(a:Int)/\True)/\True)
def vb:Prop:=∀(d:Option (CrD×JbD×LwD×Unit)×Int×Unit) (l:Nat),d.1.isSome=true->(q26_1 d).length<=60->d.1.isSome=true/\((q26_0 d).1.2.1.length<4611686018427387904->(∃(x:Nat),((0=(x:Int)/\True)/\True)/\([],true)=(U.wa (U.tk d.1) d.2.1 x,true)/\x<=(q26_1 d).length)/\∀(x:Nat),x<=(q26_1 d).length->(decide ((x:Int)<(↑(q26_0 d).1.2.1.length:Int))=true->0<=(x:Int)/\(x:Int)<(↑(q26_0 d).1.2.1.length:Int)/\0<=(x:Int)/\(x:Int)<=64/\(U.jkt d.2.1 (x:Int)=true->l=l/\(∃(rest:List (Int×PeD×Unit)),U.wa (U.tk d.1) d.2.1 x++[(q26_2 x d)]++rest=U.joV (U.tk d.1) d.2.1)/\(((U.jkt d.2.1 (x:Int)&& !true)=true->true=true->U.wa (U.tk d.1) d.2.1 x++[(q26_2 x d)]=U.joV (U.tk d.1) d.2.1)/\((U.jkt d.2.1 (x:Int)&& !true)=false->jC ((x:Int)+1)/\∃(a:Nat),(q26_3 x a)/\(U.wa (U.tk d.1) d.2.1 x++[(q26_2 x d)],true)=(U.wa (U.tk d.1) d.2.1 a,true)/\a<=(q26_1 d).length/\(q26_1 d).length-a<(q26_1 d).length-x))/\((U.jkt d.2.1 (x:Int)&& !false)=true->false=true->U.wa (U.tk d.1) d.2.1 x++[(q26_2 x d)]=U.joV (U.tk d.1) d.2.1)/\((U.jkt d.2.1 (x:Int)&& !false)=false->jC ((x:Int)+1)/\∃(a:Nat),(q26_3 x a)/\(U.wa (U.tk d.1) d.2.1 x++[(q26_2 x d)],false)=(U.wa (U.tk d.1) d.2.1 a,true)/\a<=(q26_1 d).length/\(q26_1 d).length-a<(q26_1 d).length-x))/\(U.jkt d.2.1 (x:Int)=false->((U.jkt d.2.1 (x:Int)&& !false)=true->true=true->U.wa (U.tk d.1) d.2.1 x=U.joV (U.tk d.1) d.2.1)/\((U.jkt d.2.1 (x:Int)&& !false)=false->jC ((x:Int)+1)/\∃(a:Nat),(q26_3 x a)/\(U.wa (U.tk d.1) d.2.1 x,true)=(U.wa (U.tk d.1) d.2.1 a,true)/\a<=(q26_1 d).length/\(q26_1 d).length-a<(q26_1 d).length-x)))/\(decide ((x:Int)<(↑(q26_0 d).1.2.1.length:Int))=false->true=true->U.wa (U.tk d.1) d.2.1 x=U.joV (U.tk d.1) d.2.1))
theorem jaA:(jx8 (ctx 28 [(190,ja3)] []) (zz Tryz.f189) [.int,tPe] [.ref (.ptr tTk),.ref (.uint .u64)] LM (fun d=>[d.1.isSome=true,(U.jh (U.tc (U.tk d.1))).length<=60]) (fun d _=>juL d) (fun d l=>hkY [.int,tPe] l [24] (fun q=>∃rest,LM d (q++rest)) (fun _=>none)))=vb:=by kernel_rfl
def jA:jdW:=⟨[.val (.ptr tTk),.val (.uint .u64)],fun _=>[],189,[.ptr tTk,.uint .u64],fun d=>(d.1,d.2.1,())⟩
def yt:Prop:=∀(d:Option (CrD×JbD×LwD×Unit)×Int×Unit),d=d
theorem jcf:(jxv (ctx 6 [] []) (fun _=>none) Tryz.f155 (zz Tryz.f155) jA)=yt:=by kernel_rfl
def jsF (sv:SV):Option (Prop×(List (Ty.st [.int,tPe]).Data->Prop)):=match sv with
 | .clo 189 [.ep b t,.ep c s]=>(match j8 b (.ptr tTk) t,j8 c (.uint .u64) s with
  |some a,some d=>some ((a.isSome=true/\(U.jh (U.tc (U.tk a))).length<=60),fun xs=>xs=U.joV (U.tk a) d)
  |_,_=>none)
 |_=>none
def jvD:jpO [.int,tPe]:={ps:=[.ref (.ptr tTk),.ref .int,.ref .int,.own (.box 4 [.dat .bool]) true],slots:=[4,6,7,8],dst:=34,pre:=fun _=>[],G:=fun d q=>((d.2.2.2.1.1||U.wH (U.tk d.1) d.2.1 d.2.2.1 q,()),()),stop:=fun d q=>U.wH (U.tk d.1) d.2.1 d.2.2.1 q,seq:=jsF}
def jii:Nat->Option ((ts:List Ty)×jpO ts):=fun r=>match r with
 |3=>some ⟨[.int,tPe],jvD⟩
 |_=>none
def jan:jR:=⟨[.val (.ptr tTk),.val (.uint .u64),.val .int,.val .int],[.bool],false,
 fun d=>[d.1.isSome=true,U.vu (U.tk d.1),0<=d.2.2.1,d.2.2.1<U.la (U.tc (U.tk d.1)),0<=d.2.2.2.1,d.2.2.2.1<U.la (U.tc (U.tk d.1))],fun d=>(U.jdt (U.tk d.1) d.2.1 d.2.2.1 d.2.2.2.1,())⟩
abbrev q28_0 (d:Option (CrD×JbD×LwD×Unit)×Int×Int×Int×Unit)(x:Int×PeD×Unit):=((jS (((0:Int),[],[],()),((0:Int),(0:Int),(0:Int),(0:Int),(0:Int),(0:Int),()),((0:Int),(0:Int),false,()),()) d.1).2.2.1.1<=min (nth x.2.1.1 d.2.2.1.toNat) (nth x.2.1.1 d.2.2.2.1.toNat))
def jaj:Prop:=∀(d:Option (CrD×JbD×LwD×Unit)×Int×Int×Int×Unit),d.1.isSome=true->U.vu (U.tk d.1)->0<=d.2.2.1->d.2.2.1<U.la (U.tc (U.tk d.1))->0<=d.2.2.2.1->d.2.2.2.1<U.la (U.tc (U.tk d.1))->(d.1.isSome=true/\(U.jh (U.tc (U.tk d.1))).length<=60)/\True/\(d.1,d.2.2.1,d.2.2.2.1,(false||U.wH (U.tk d.1) d.2.2.1 d.2.2.2.1 [],()),())=(d.1,d.2.2.1,d.2.2.2.1,(false,()),())/\(∀(q:List (Int×PeD×Unit)) (x:Int×PeD×Unit) (rest:List (Int×PeD×Unit)),q++x::rest=U.joV (U.tk d.1) d.2.1->kG (fun(a:List (Int×PeD×Unit))=>U.wH (U.tk d.1) d.2.2.1 d.2.2.2.1 a) q->0<=d.2.2.1/\d.2.2.1<(x.2.1.1.length:Int)/\0<=d.2.2.2.1/\d.2.2.2.1<(x.2.1.1.length:Int)/\d.1.isSome=true/\(decide (q28_0 d x)=true->U.wH (U.tk d.1) d.2.2.1 d.2.2.2.1 (q++[x])=true/\((true,()),())=((false||U.wH (U.tk d.1) d.2.2.1 d.2.2.2.1 (q++[x]),()),()))/\(decide (q28_0 d x)=false->U.wH (U.tk d.1) d.2.2.1 d.2.2.2.1 (q++[x])=false/\((false||U.wH (U.tk d.1) d.2.2.1 d.2.2.2.1 q,()),())=((false||U.wH (U.tk d.1) d.2.2.1 d.2.2.2.1 (q++[x]),()),())))/\(∀(xs:List (Int×PeD×Unit)),xs=U.joV (U.tk d.1) d.2.1->kG (fun(b:List (Int×PeD×Unit))=>U.wH (U.tk d.1) d.2.2.1 d.2.2.2.1 b) xs->(false,())=(U.jdt (U.tk d.1) d.2.1 d.2.2.1 d.2.2.2.1,()))/\∀(q:List (Int×PeD×Unit)) (x:Int×PeD×Unit) (rest:List (Int×PeD×Unit)),q++x::rest=U.joV (U.tk d.1) d.2.1->kG (fun(c:List (Int×PeD×Unit))=>U.wH (U.tk d.1) d.2.2.1 d.2.2.2.1 c) q->U.wH (U.tk d.1) d.2.2.1 d.2.2.2.1 (q++[x])=true->(false||U.wH (U.tk d.1) d.2.2.1 d.2.2.2.1 (q++[x]),())=(U.jdt (U.tk d.1) d.2.1 d.2.2.1 d.2.2.2.1,())
theorem jcQ:(jst (jpV 33 [] [] [(155,jA)] []) jan (fun _ _=>none) (hkC (jpV 33 [] [] [(155,jA)] []) (fun _=>none) jii [] []) Tryz.f192 (zz Tryz.f192))=jaj:=by kernel_rfl
end Go.X
namespace Go.X
open Go.Proofs
theorem jkv:jh9:=by
 rintro⟨l,x,⟨⟩⟩ d;refine⟨⟨0,⟨⟨rfl,trivial⟩,trivial⟩,jDU _,fun b a=>by omega⟩,fun i hi=>⟨fun h=> ?_,fun h=> ?_⟩⟩
 .have h:i<l.length:=(by simpa using h);simp only[jDN] at*;refine⟨by omega,by omega,fun a=> ?_,fun a=>⟨L.in64 (by omega) (by omega),i+1,⟨⟨by simp,trivial⟩,trivial⟩,⟨by omega,fun b c=> ?_⟩,by omega⟩⟩
  .rw[wA (p:=fun y=>decide (y=x)) h hi.2 (by have:=of_decide_eq_true a;rw[<-this];exact decide_eq_true rfl)]
  .by_cases e:b=i
   .subst e;exact decide_eq_false (fun e=>of_decide_eq_false a e.symm)
   .exact hi.2 b (by omega)
 .have h:l.length<=i:=(by simpa using h);rw[kl (p:=fun y=>decide (y=x)) h hi.2]
theorem jiN:zh PR 145 jio:=wt jjW jkv Tryz.func145 kcN koN
theorem jgc:jd2:=by
 rintro⟨l,x,⟨⟩⟩;exact congrArg (·,()) (jbA (fun y=>decide (y=x)) l)
theorem vW:zh PR 105 jeg:=jM jgc Tryz.func105 (kcC jiN kcN) koN
theorem jdH {c:CrD} {j:JbD} (h:U.zN c j=0):U.jr c=true/\U.j7 c j=true:=by
 unfold U.zN at h
 split at h
 .omega
 .split at h
  .omega
  .rename_i a b;exact⟨by simpa using a,by simpa using b⟩
theorem jG {c:CrD} (h:U.jr c=true):2<=U.la c/\U.la c<=5/\(U.jh c).length<=8/\(U.kz c).length=4/\(∀p∈U.jh c,U.yn (U.la c) p=true)/\∀l∈U.kz c,U.yP l=true:=by
 unfold U.jr at h;simp only[jDK,decide_eq_true_eq,jEf] at h;exact⟨h.1.1,h.1.2.1,h.1.2.2.1,h.1.2.2.2,h.2.1,h.2.2⟩
theorem jeU {c:CrD} {j:JbD} (h:U.j7 c j=true):(0<=U.jyH j/\U.jyH j<U.la c)/\(0<=U.jrb j/\U.jrb j<U.la c)/\U.jyH j≠U.jrb j/\(0<=U.jyI j/\U.jyI j<=7)/\(0<=U.jyG j/\U.jyG j<=3)/\(1<=U.jCa j/\U.jCa j<=8):=by
 unfold U.j7 at h;have h:=of_decide_eq_true h;obtain⟨d,m,e,n,f,_,_,g,i,k,l,a,b⟩:=h;exact⟨⟨d,by omega⟩,⟨e,by omega⟩,f,⟨g,i⟩,⟨k,l⟩,a,b⟩
theorem jvU {c:CrD} {j:JbD} (h:U.zN c j=0):U.jk3 c j=some (c,j,U.jyB c j,())/\U.vu (c,j,U.jyB c j,()):=by
 obtain⟨a,b⟩:=jdH h;exact⟨by unfold U.jk3;rw[if_pos h],a,b,rfl⟩
theorem jyN:juY:=by
 rintro⟨c,j,⟨⟩⟩;refine⟨fun h=> ?_,fun h=> ?_⟩
 .have h:U.zN c j≠0:=of_decide_eq_true h;simp only;unfold U.jk3;rw[if_neg h]
 .have h:U.zN c j=0:=(by simpa using h);obtain⟨b,d⟩:=jdH h;obtain⟨_,_,_,a,_⟩:=jG b;obtain⟨_,_,_,_,hk,_⟩:=jeU d;have hk:0<=j.2.2.2.2.1/\j.2.2.2.2.1<=3:=hk;have a:c.2.2.1.length=4:=a;refine⟨hk.1,by simp only;omega,?_⟩;simp only;rw[(jvU h).1,h];rfl
theorem jox:zh PR 117 jvi:=jM jyN Tryz.func117 (kcC jk4 kcN) koN
theorem jf2 (t:TkD) (s:Int) (n:Nat):U.wa t s (n+1)=U.wa t s n++(if U.jkt s (n:Int)=true then[((n:Int),nth (U.jh (U.tc t)) n,())] else[]):=by
 unfold U.wa;rw[L.range_filter_succ,jEI]
 split<;>simp
theorem jwm (t:TkD) (s:Int) {n m:Nat} (h:n<=m):∃rest,U.wa t s n++rest=U.wa t s m:=by
 induction m with
 |zero=>
  have:n=0:=(by omega);subst this;exact⟨[],by simp⟩
 |succ m b=>
  by_cases e:n=m+1
  .subst e;exact⟨[],by simp⟩
  .obtain⟨r,a⟩:=b (by omega);rw[jf2,<-a];exact⟨r++_,by rw[jDY]⟩
theorem jeX:vb:=by
 unfold vb q26_3 q26_2 q26_1 q26_0;rintro⟨(_|t),s,⟨⟩⟩ l i e
 .cases i
 have e:(U.jh (U.tc t)).length<=60:=e;refine⟨rfl,fun _=>⟨⟨0,⟨⟨rfl,trivial⟩,trivial⟩,rfl,jDU _⟩,fun x g=> ?_⟩⟩;have g:x<=(U.jh (U.tc t)).length:=g;have c:U.tk (some t)=t:=rfl;refine⟨fun h=> ?_,fun h=> ?_⟩
 .have h:x<(U.jh (U.tc t)).length:=by
   have:=of_decide_eq_true h;have this:(x:Int)<((U.jh (U.tc t)).length:Int):=this;omega
  have j:(x:Int)<((U.jh (U.tc t)).length:Int):=(by omega);refine⟨by omega,j,by omega,by omega,fun b=> ?_,fun b=> ?_⟩
  .have d:U.wa t s (x+1)=U.wa t s x++[((x:Int),nth (U.jh (U.tc t)) x,())]:=(by rw[jf2,if_pos b]);obtain⟨r,f⟩:=jwm t s (show x+1<=(U.jh (U.tc t)).length by omega);refine⟨rfl,⟨r,by rw[d] at f;exact f⟩,⟨fun a=>absurd a (by rw[Bool.not_true,Bool.and_false];simp),fun _=>⟨L.in64 (by omega) (by omega),x+1,⟨⟨by omega,trivial⟩,trivial⟩,?_,(show x+1<=(U.jh (U.tc t)).length by omega),(show(U.jh (U.tc t)).length-(x+1)<(U.jh (U.tc t)).length-x by omega)⟩⟩,
    fun _ a=>(by cases a),fun a=> ?_⟩
   .rw[c,d];rfl
   .rw[Bool.not_false,Bool.and_true] at a;exact absurd b (by simp only at a⊢;rw[a];simp)
  .have d:U.wa t s (x+1)=U.wa t s x:=by
    rw[jf2,if_neg (by simp only at b⊢;rw[b];simp),jEb]
   refine⟨fun a=> ?_,fun _=>⟨L.in64 (by omega) (by omega),x+1,⟨⟨by omega,trivial⟩,trivial⟩,?_,(show x+1<=(U.jh (U.tc t)).length by omega),(show(U.jh (U.tc t)).length-(x+1)<(U.jh (U.tc t)).length-x by omega)⟩⟩
   .rw[Bool.not_false,Bool.and_true] at a;exact absurd a (by simp only at b⊢;rw[b];simp)
   .rw[c,d]
 .have h:(U.jh (U.tc t)).length<=x:=by
   have:=of_decide_eq_false h;have this:¬(x:Int)<((U.jh (U.tc t)).length:Int):=this;omega
  intro _;rw[show x=(U.jh (U.tc t)).length by omega];rfl
theorem jqC {H:Imm} {lb:Array Value} {d:PD [.ref (.ptr tTk),.ref (.uint .u64)]} (g:pvs PR H [.ref (.ptr tTk),.ref (.uint .u64)] lb.toList d) (a:d.1.isSome=true) (b:(U.jh (U.tc (U.tk d.1))).length<=60):jzr PR H [.int,tPe] (LM d) (.func (.func 189) #[] lb):=
 jzH (C:=ctx 28 [(190,ja3)] []) (jjL ⟨fun _=>jow,trivial⟩ trivial) mixed Tryz.func189 (by kernel_rfl) (by kernel_rfl) (by kernel_rfl) (by kernel_rfl) (by decide) (jaA.mpr jeX) (fun d l B0 R h c e f=>jBZ c f) g ⟨a,b,trivial⟩
theorem jhA:yt:=by intro d;rfl
theorem yJ:jpR PR 155 jA:=jB0 (jcf.mpr jhA) Tryz.func155 (by kernel_rfl) (by kernel_rfl) (by kernel_rfl) (by kernel_rfl) trivial trivial
theorem jAI:∀(f:Nat) (p:Nat×jdT),jt ([]:List (Nat×Nat×jdT)) f=some p->ROK PR f p.2:=fun _ _ h=>by cases h
theorem joU {sv:SV} {h:Prop} {L:List (Ty.st [.int,tPe]).Data->Prop} {v:Value} {ρ:Env} (a:jsF sv=some (h,L)) (b:h) (g:SV.den PR ρ sv v):jzr PR ρ.H [.int,tPe] L v:=by
 unfold jsF at a
 split at a
 case h_2=>cases a
 rename_i o t p s
 split at a
 case h_2=>cases a
 rename_i w u n f;simp only[Option.some.injEq,Prod.mk.injEq] at a;obtain⟨rfl,rfl⟩:=a;obtain⟨e,rfl⟩:=ji n;subst e;obtain⟨i,rfl⟩:=ji f;subst i;simp only[SV.den,SV.denL] at g;obtain⟨lb,rfl,x,r,m,j,y,q,c,k,l⟩:=g;exact jqC (d:=(t,s,())) (by rw[m,c,l];exact⟨j,k,rfl⟩) b.1 b.2
theorem jeQ (t:TkD) (a b:Int) (q:List (Int×PeD×Unit)) (x:Int×PeD×Unit):U.wH t a b (q++[x])=U.jn t a b x:=by
 unfold U.wH;rw[List.getLast?_append];simp
theorem jqc {t:TkD} {a b:Int} {q:List (Int×PeD×Unit)} (h:kG (fun q=>U.wH t a b q) q):q.any (U.jn t a b)=false:=by
 rw[jEq];intro x c;obtain⟨u,v,rfl⟩:=List.append_of_mem c;have:=h u x v rfl;simp only[jeQ] at this;rw[this];simp
theorem jtZ {t:TkD} {s:Int} {x:Int×PeD×Unit} (h:x∈U.joV t s):x.2.1∈U.jh (U.tc t):=by
 unfold U.joV U.wa at h;obtain⟨i,hi,rfl⟩:=jEj.1 h;have:=jD3.1 (jD6.1 hi).1;exact L.mem_nth this
theorem jAF {n:Int} {p:PeD} (h:U.yn n p=true):((U.lv p).length:Int)=n:=by
 unfold U.yn at h;simp only[jDK,decide_eq_true_eq] at h;exact h.1.1
theorem jji:jaj:=by
 unfold jaj q28_0;rintro⟨(_|t),s,a,b,⟨⟩⟩ r l v f w g
 .cases r
 obtain⟨c1,c2,A⟩:=l;have c1:U.jr (U.tc t)=true:=c1;obtain⟨B,C,D,E,p,F⟩:=jG c1;have k:(U.jh (U.tc t)).length<=60:=(by omega);have c:U.tk (some t)=t:=rfl;refine⟨⟨rfl,k⟩,trivial,rfl,fun q x rest i e=> ?_,fun xs j e=> ?_,fun q x rest i e d=> ?_⟩
 .have z:x∈U.joV t s:=(by rw[c] at i;rw[<-i];simp);have o:=jAF (p _ (jtZ z));have o:((x.2.1.1.length:Nat):Int)=U.la (U.tc t):=o;have f:a<U.la (U.tc t):=f;have g:b<U.la (U.tc t):=g;have m:U.wH t a b q=false:=by
   cases n:q.getLast? with
   |none=>unfold U.wH;rw[n]
   |some y=>
    obtain⟨u,rfl⟩:=List.getLast?_eq_some_iff.1 n;have:=e u y [] rfl;exact this
  refine⟨v,by simp only;omega,w,by simp only;omega,rfl,fun h=> ?_,fun h=> ?_⟩
  .have h:U.jn t a b x=true:=h;have:U.wH t a b (q++[x])=true:=(by rw[jeQ];exact h);rw[c];simp only;exact⟨this,by rw[this];rfl⟩
  .have h:U.jn t a b x=false:=h;have:U.wH t a b (q++[x])=false:=(by rw[jeQ];exact h);rw[c];simp only;exact⟨this,by rw[this,m]⟩
 .rw[c] at j e;subst j;have:=jqc e;simp only;rw[c];unfold U.jdt;rw[this]
 .rw[c] at i d⊢;simp only at d⊢;rw[d];unfold U.jdt;rw[<-i];rw[jeQ] at d;simp[d]
theorem jpy:(jpV 33 [] [] [(155,jA)] []).ok PR:=jrR trivial trivial ⟨yJ,trivial⟩ trivial
theorem jhm:zh PR 192 jan:=
 jvF (body:=zz Tryz.f192) (C:=jpV 33 [] [] [(155,jA)] []) (hk:=hkC (jpV 33 [] [] [(155,jA)] []) (fun _=>none) jii [] []) jpy mixed Tryz.func192 (by kernel_rfl) (by kernel_rfl) (by kernel_rfl) (by decide)
  (fun B=>jlp jpy mixed (fun k ts rs sv d L v ρ hk c a b=>by
   unfold jii at hk
   split at hk
   case h_2=>cases hk
   simp only[Option.some.injEq] at hk
   cases hk
   exact joU c a b) jAI B) (jcQ.mpr jji)
end Go.X
namespace Go.X
open Go.Proofs
namespace U
def wS (x:Int) (N n:Nat):List Int:=List.replicate n x++List.replicate (N-n) 0
def juS (t:TkD) (c:Int) (a b:Nat):Bool:=jdt t c (a:Int) (b:Int)
def jbI (t:TkD) (a:Int):List Int:=bfs (juS t a) (la (tc t)).toNat (jrb (tj t)).toNat
def jK (t:TkD) (a:Int) (k:Nat):List Int×List Int:=qG (juS t a) (la (tc t)).toNat (jrb (tj t)).toNat k
def wj (t:TkD) (a:Int) (x:List Int×List Int) (i:Nat):List Int×List Int:=jfl (juS t a) (nth x.2 0).toNat x i
def jBH (t:TkD) (a:Int) (x:List Int×List Int) (lo:Nat):Prop:=jBJ (juS t a) (la (tc t)).toNat (jrb (tj t)).toNat x/\x.2≠[]/\x.2.length<=10/\lo<=10
end U
def glo (σ:St) (s:Nat):Nat:=match σ.get s with
 | .osl _ _ lo _=>lo
 |_=>0
def jl8:jR:=⟨[.val (.uint .u64),.val (.uint .u64)],[.uint .u64,.uint .u64],false,fun d=>[0<=d.1,d.1<=1000,0<=d.2.1,d.2.1<=1000],fun d=>((0:Int),d.1*d.2.1,())⟩
abbrev q29_0 (d:Int×Int×Unit):=(d.1/(2:Int)^Int.toNat 32*wb d.2.1 (4294967295:Int)+wb d.1 (4294967295:Int)*wb d.2.1 (4294967295:Int)/(2:Int)^Int.toNat 32)
abbrev q29_1 (d:Int×Int×Unit):=(d.2.1/(2:Int)^Int.toNat 32)
abbrev q29_2 (d:Int×Int×Unit):=(wb (q29_0 d) (4294967295:Int)+wb d.1 (4294967295:Int)*(q29_1 d))
def jlU:Prop:=∀(d:Int×Int×Unit),0<=d.1->d.1<=1000->0<=d.2.1->d.2.1<=1000->(0:Int)<=32/\(32:Int)<=64/\(0:Int)<=32/\(32:Int)<=64/\0<=wb d.1 (4294967295:Int)*wb d.2.1 (4294967295:Int)/\wb d.1 (4294967295:Int)*wb d.2.1 (4294967295:Int)<=18446744073709551615/\0<=d.1/(2:Int)^Int.toNat 32*wb d.2.1 (4294967295:Int)/\d.1/(2:Int)^Int.toNat 32*wb d.2.1 (4294967295:Int)<=18446744073709551615/\(0:Int)<=32/\(32:Int)<=64/\0<=d.1/(2:Int)^Int.toNat 32*wb d.2.1 (4294967295:Int)+wb d.1 (4294967295:Int)*wb d.2.1 (4294967295:Int)/(2:Int)^Int.toNat 32/\d.1/(2:Int)^Int.toNat 32*wb d.2.1 (4294967295:Int)+wb d.1 (4294967295:Int)*wb d.2.1 (4294967295:Int)/(2:Int)^Int.toNat 32<=18446744073709551615/\(0:Int)<=32/\(32:Int)<=64/\0<=wb d.1 (4294967295:Int)*(q29_1 d)/\wb d.1 (4294967295:Int)*(q29_1 d)<=18446744073709551615/\0<=wb (q29_0 d) (4294967295:Int)+wb d.1 (4294967295:Int)*(q29_1 d)/\wb (q29_0 d) (4294967295:Int)+wb d.1 (4294967295:Int)*(q29_1 d)<=18446744073709551615/\0<=d.1/(2:Int)^Int.toNat 32*(q29_1 d)/\d.1/(2:Int)^Int.toNat 32*(q29_1 d)<=18446744073709551615/\0<=d.1/(2:Int)^Int.toNat 32*(q29_1 d)+(q29_0 d)/(2:Int)^Int.toNat 32/\d.1/(2:Int)^Int.toNat 32*(q29_1 d)+(q29_0 d)/(2:Int)^Int.toNat 32<=18446744073709551615/\(0:Int)<=32/\(32:Int)<=64/\0<=d.1/(2:Int)^Int.toNat 32*(q29_1 d)+(q29_0 d)/(2:Int)^Int.toNat 32+(q29_2 d)/(2:Int)^Int.toNat 32/\d.1/(2:Int)^Int.toNat 32*(q29_1 d)+(q29_0 d)/(2:Int)^Int.toNat 32+(q29_2 d)/(2:Int)^Int.toNat 32<=18446744073709551615/\0<=d.1*d.2.1/\d.1*d.2.1<=18446744073709551615/\(d.1/(2:Int)^Int.toNat 32*(q29_1 d)+(q29_0 d)/(2:Int)^Int.toNat 32+(q29_2 d)/(2:Int)^Int.toNat 32,d.1*d.2.1,())=((0:Int),d.1*d.2.1,())
def jqs:jR:=⟨[.val (.uint .u64),.val (.uint .u64)],[.uint .u64,.uint .u64],false,fun d=>[0<=d.1,d.1<=1000,0<=d.2.1,d.2.1<=1000],fun d=>((0:Int),d.1*d.2.1,())⟩
def jp8:Prop:=∀(d:Int×Int×Unit),0<=d.1->d.1<=1000->0<=d.2.1->d.2.1<=1000->(false=true->False)/\(false=false->0<=d.1/\d.1<=1000/\0<=d.2.1/\d.2.1<=1000/\((0:Int),d.1*d.2.1,())=((0:Int),d.1*d.2.1,()))
def jhh:zw:=⟨[.val (.slice .int),.val .int],[.cl (.row 3 .int .no)],fun d=>[d.1.length=1,0<=d.2.1,d.2.1<=1000],fun d=>((List.replicate d.2.1.toNat (nth d.1 0),()),())⟩
def jhJ:Ann:=fun r=>match r with
 |8=>some fun σ=>{X:=Nat,sl:=fun n=>[(8,.dat .int (n:Int))],ob:=fun n=>[(7,some (.row 3 .int false .no (U.wS (nth (gd (.slice .int) σ 0) 0) (gd .int σ 1).toNat n)))],inv:=fun n=>n<=(gd .int σ 1).toNat/\(1<=n\/(gd .int σ 1).toNat=0),mu:=fun n=>(gd .int σ 1).toNat-n}
 |_=>none
abbrev q31_3 (d:List Int×Int×Unit):=(d.1.length:Int)
abbrev q31_1 (d:List Int×Int×Unit):=(List.replicate ((q31_3 d)*d.2.1).toNat (0:Int))
abbrev q31_4 (d:List Int×Int×Unit)(x:Nat):=(U.wS (nth d.1 0) d.2.1.toNat x)
abbrev q31_0 (d:List Int×Int×Unit)(x:Nat):=(↑(q31_4 d x).length:Int)
abbrev q31_2 (x:Nat)(d:List Int×Int×Unit):=(List.take ((x:Int).toNat-Int.toNat 0) (List.drop (Int.toNat 0) (q31_4 d x)))
abbrev q31_5 (d:List Int×Int×Unit)(x:Nat):=((q31_0 d x).toNat-(x:Int).toNat)
abbrev q31_6 (d:List Int×Int×Unit):=(decide ((0:Int)<0)||decide (9223372036854775807<(q31_3 d)*d.2.1))
def jg0:Prop:=∀(d:List Int×Int×Unit),d.1.length=1->0<=d.2.1->d.2.1<=1000->(decide (d.2.1<0)=true->False)/\(decide (d.2.1<0)=false->d.1.length<4611686018427387904->0<=(q31_3 d)/\(q31_3 d)<=18446744073709551615/\0<=d.2.1/\d.2.1<=18446744073709551615/\0<=(q31_3 d)/\(q31_3 d)<=1000/\0<=d.2.1/\d.2.1<=1000/\((q31_6 d)=true->False)/\((q31_6 d)=false->jC ((q31_3 d)*d.2.1)/\0<=(q31_3 d)*d.2.1/\(q31_3 d)*d.2.1=(q31_3 d)*d.2.1/\((q31_3 d)*d.2.1).toNat*8<=140737488355328/\0+(q31_1 d).length<=(q31_1 d).length/\(∃(x:Nat),(((↑(List.take (q31_1 d).length d.1).length:Int)=(x:Int)/\True)/\juT (q31_1 d) 0 (q31_1 d).length d.1=U.wS (nth d.1 0) d.2.1.toNat x/\True)/\x<=d.2.1.toNat/\(1<=x\/d.2.1.toNat=0))/\∀(x:Nat),x<=d.2.1.toNat/\(1<=x\/d.2.1.toNat=0)->(q31_4 d x).length<4611686018427387904->(decide ((x:Int)<(q31_0 d x))=true->0<=(x:Int)/\(x:Int)<=(q31_0 d x)/\(q31_0 d x)<=(q31_0 d x)/\(0:Int)<=0/\0<=(x:Int)/\(x:Int)<=(q31_0 d x)/\(x:Int).toNat+(q31_5 d x)<=(q31_4 d x).length/\jC ((x:Int)+(↑(List.take (q31_5 d x) (q31_2 x d)).length:Int))/\∃(a:Nat),(((x:Int)+(↑(List.take (q31_5 d x) (q31_2 x d)).length:Int)=(a:Int)/\True)/\juT (q31_4 d x) (x:Int).toNat (q31_5 d x) (q31_2 x d)=U.wS (nth d.1 0) d.2.1.toNat a/\True)/\(a<=d.2.1.toNat/\(1<=a\/d.2.1.toNat=0))/\d.2.1.toNat-a<d.2.1.toNat-x)/\(decide ((x:Int)<(q31_0 d x))=false->(U.wS (nth d.1 0) d.2.1.toNat x,())=(List.replicate d.2.1.toNat (nth d.1 0),())/\()=())))
def kV:jR:=⟨[.val (.ptr tTk),.val (.uint .u64)],[.slice .int],false,fun d=>[d.1.isSome=true,U.vu (U.tk d.1)],fun d=>(U.jbI (U.tk d.1) d.2.1,())⟩
def jnc:Ann:=fun r=>match r with
 |4=>some fun σ=>{X:=Nat×List Int,sl:=fun x=>[(6,.osl 6 .int x.2.length (U.jK (U.tk (gd (.ptr tTk) σ 0)) (gd (.uint .u64) σ 1) x.1).2.length)],ob:=fun x=>[(5,some (.row 3 .int false .no (U.jK (U.tk (gd (.ptr tTk) σ 0)) (gd (.uint .u64) σ 1) x.1).1)),(6,some (.row 3 .int false .no (x.2++(U.jK (U.tk (gd (.ptr tTk) σ 0)) (gd (.uint .u64) σ 1) x.1).2)))],inv:=fun x=>x.2.length<=x.1/\x.1<=(U.la (U.tc (U.tk (gd (.ptr tTk) σ 0)))).toNat,mu:=fun x=>(U.la (U.tc (U.tk (gd (.ptr tTk) σ 0)))).toNat+1-x.1}
 |7=>some fun σ=>{X:=Nat×List Int,sl:=fun x=>[(28,.any),(35,.dat .int (x.1:Int)),(6,.osl 6 .int x.2.length (U.wj (U.tk (gd (.ptr tTk) σ 0)) (gd (.uint .u64) σ 1) (gr .int σ 5,(gr .int σ 6).drop (glo σ 6)) x.1).2.length)],ob:=fun x=>[(5,some (.row 3 .int false .no (U.wj (U.tk (gd (.ptr tTk) σ 0)) (gd (.uint .u64) σ 1) (gr .int σ 5,(gr .int σ 6).drop (glo σ 6)) x.1).1)),(6,some (.row 3 .int false .no (x.2++(U.wj (U.tk (gd (.ptr tTk) σ 0)) (gd (.uint .u64) σ 1) (gr .int σ 5,(gr .int σ 6).drop (glo σ 6)) x.1).2)))],inv:=fun x=>x.1<=(gr .int σ 5).length/\x.2.length<=glo σ 6/\U.jBH (U.tk (gd (.ptr tTk) σ 0)) (gd (.uint .u64) σ 1) (gr .int σ 5,(gr .int σ 6).drop (glo σ 6)) (glo σ 6),mu:=fun x=>(gr .int σ 5).length-x.1}
 |2000011=>some fun σ=>{X:=Unit,sl:=fun _=>[],ob:=fun _=>[],inv:=fun _=>True,mu:=fun _=>0}
 |_=>none
abbrev q32_1 (d:Option (CrD×JbD×LwD×Unit)×Int×Unit):=(jS (((0:Int),[],[],()),((0:Int),(0:Int),(0:Int),(0:Int),(0:Int),(0:Int),()),((0:Int),(0:Int),false,()),()) d.1)
abbrev q32_3 (d:Option (CrD×JbD×LwD×Unit)×Int×Unit)(x:Nat×List Int):=(U.jK (U.tk d.1) d.2.1 x.1)
abbrev q32_2 (d:Option (CrD×JbD×LwD×Unit)×Int×Unit)(x:Nat×List Int):=((q32_3 d x).1,List.drop x.2.length (x.2++(q32_3 d x).2))
abbrev q32_0 (d:Option (CrD×JbD×LwD×Unit)×Int×Unit)(x:Nat×List Int)(a:Nat×List Int):=(U.wj (U.tk d.1) d.2.1 (q32_2 d x) a.1)
abbrev q32_4 (d:Option (CrD×JbD×LwD×Unit)×Int×Unit)(x:Nat×List Int)(a:Nat×List Int):=(nth (q32_0 d x a).1 (a.1:Int).toNat<0)
abbrev q32_5 (a:Nat×List Int):=(a.2.length+Int.toNat 0)
abbrev q32_6 (d:Option (CrD×JbD×LwD×Unit)×Int×Unit)(x:Nat×List Int)(a:Nat×List Int):=(U.wj (U.tk d.1) d.2.1 (q32_2 d x) a.1)
def jlP:Prop:=∀(d:Option (CrD×JbD×LwD×Unit)×Int×Unit),d.1.isSome=true->U.vu (U.tk d.1)->d.1.isSome=true/\[(-1:Int)].length=1/\(0:Int)<=(q32_1 d).1.1/\(q32_1 d).1.1<=1000/\d.1.isSome=true/\(0:Int)<=(q32_1 d).2.1.2.1/\(q32_1 d).2.1.2.1<(↑(List.replicate (q32_1 d).1.1.toNat (nth [(-1:Int)] 0)).length:Int)/\d.1.isSome=true/\(∃(x:Nat×List Int),(((x.2.length=0/\(q32_3 d x).2.length=[(q32_1 d).2.1.2.1].length)/\True)/\(List.replicate (q32_1 d).1.1.toNat (nth [(-1:Int)] 0)).set (q32_1 d).2.1.2.1.toNat 0=(q32_3 d x).1/\[(q32_1 d).2.1.2.1]=x.2++(q32_3 d x).2/\True)/\x.2.length<=x.1/\x.1<=(U.la (U.tc (U.tk d.1))).toNat)/\∀(x:Nat×List Int),x.2.length<=x.1/\x.1<=(U.la (U.tc (U.tk d.1))).toNat->(q32_3 d x).2.length<4611686018427387904->(decide ((0:Int)<(↑(q32_3 d x).2.length:Int))=true->(q32_3 d x).1.length<4611686018427387904->(∃(a:Nat×List Int),((0=(a.1:Int)/\(x.2.length=a.2.length/\(q32_3 d x).2.length=(q32_0 d x a).2.length)/\True)/\(q32_3 d x).1=(q32_0 d x a).1/\x.2++(q32_3 d x).2=a.2++(q32_0 d x a).2/\True)/\a.1<=(q32_3 d x).1.length/\a.2.length<=x.2.length/\U.jBH (U.tk d.1) d.2.1 (q32_2 d x) x.2.length)/\∀(a:Nat×List Int),a.1<=(q32_3 d x).1.length/\a.2.length<=x.2.length/\U.jBH (U.tk d.1) d.2.1 (q32_2 d x) x.2.length->(decide ((a.1:Int)<(↑(q32_3 d x).1.length:Int))=true->0<=(a.1:Int)/\(a.1:Int)<(↑(q32_0 d x a).1.length:Int)/\(decide (q32_4 d x a)=true->(0:Int)<=0)/\(decide (q32_4 d x a)=true->(0:Int)<(↑(q32_0 d x a).2.length:Int))/\(decide (q32_4 d x a)=true->d.1.isSome=true)/\(decide (q32_4 d x a)=true->U.vu (U.tk d.1))/\(decide (q32_4 d x a)=true->0<=nth (a.2++(q32_0 d x a).2) (q32_5 a))/\(decide (q32_4 d x a)=true->nth (a.2++(q32_0 d x a).2) (q32_5 a)<U.la (U.tc (U.tk d.1)))/\(decide (q32_4 d x a)=true->0<=(a.1:Int))/\(decide (q32_4 d x a)=true->(a.1:Int)<U.la (U.tc (U.tk d.1)))/\((decide (q32_4 d x a)&&U.jdt (U.tk d.1) d.2.1 (nth (a.2++(q32_0 d x a).2) (q32_5 a)) (a.1:Int))=true->(0:Int)<=0/\(0:Int)<(↑(q32_0 d x a).2.length:Int)/\0<=nth (a.2++(q32_0 d x a).2) (q32_5 a)/\nth (a.2++(q32_0 d x a).2) (q32_5 a)<(↑(q32_0 d x a).1.length:Int)/\jC (nth (q32_0 d x a).1 (nth (a.2++(q32_0 d x a).2) (q32_5 a)).toNat+1)/\0<=(a.1:Int)/\(a.1:Int)<(↑(q32_0 d x a).1.length:Int)/\a.2.length+(q32_0 d x a).2.length=(a.2++(q32_0 d x a).2).length/\0<(q32_0 d x a).2.length/\a.2.length+(q32_0 d x a).2.length+[(a.1:Int)].length<4611686018427387904/\((q32_0 d x a).2.length+[(a.1:Int)].length)*8<=140737488355328/\∀(pre:List Int),pre.length<=a.2.length->jC ((a.1:Int)+1)/\∃(b:Nat×List Int),(((a.1:Int)+1=(b.1:Int)/\(pre.length=b.2.length/\(q32_0 d x a).2.length+[(a.1:Int)].length=(q32_6 d x b).2.length)/\True)/\pre++List.drop a.2.length (a.2++(q32_0 d x a).2)++[(a.1:Int)]=b.2++(q32_6 d x b).2/\(q32_0 d x a).1.set (a.1:Int).toNat (nth (q32_0 d x a).1 (nth (a.2++(q32_0 d x a).2) (q32_5 a)).toNat+1)=(q32_6 d x b).1/\True)/\(b.1<=(q32_3 d x).1.length/\b.2.length<=x.2.length/\U.jBH (U.tk d.1) d.2.1 (q32_2 d x) x.2.length)/\(q32_3 d x).1.length-b.1<(q32_3 d x).1.length-a.1)/\((decide (q32_4 d x a)&&U.jdt (U.tk d.1) d.2.1 (nth (a.2++(q32_0 d x a).2) (q32_5 a)) (a.1:Int))=false->jC ((a.1:Int)+1)/\∃(b:Nat×List Int),(((a.2.length=b.2.length/\(q32_0 d x a).2.length=(q32_6 d x b).2.length)/\(a.1:Int)+1=(b.1:Int)/\True)/\a.2++(q32_0 d x a).2=b.2++(q32_6 d x b).2/\(q32_0 d x a).1=(q32_6 d x b).1/\True)/\(b.1<=(q32_3 d x).1.length/\b.2.length<=x.2.length/\U.jBH (U.tk d.1) d.2.1 (q32_2 d x) x.2.length)/\(q32_3 d x).1.length-b.1<(q32_3 d x).1.length-a.1))/\(decide ((a.1:Int)<(↑(q32_3 d x).1.length:Int))=false->(0:Int)<=1/\(1:Int)<=(↑(q32_0 d x a).2.length:Int)/\(↑(q32_0 d x a).2.length:Int)<=(↑(q32_0 d x a).2.length:Int)/\∃(b:Nat×List Int),(((a.2.length+Int.toNat 1=b.2.length/\(↑(q32_0 d x a).2.length:Int).toNat-Int.toNat 1=(U.jK (U.tk d.1) d.2.1 b.1).2.length)/\True)/\(q32_0 d x a).1=(U.jK (U.tk d.1) d.2.1 b.1).1/\a.2++(q32_0 d x a).2=b.2++(U.jK (U.tk d.1) d.2.1 b.1).2/\True)/\(b.2.length<=b.1/\b.1<=(U.la (U.tc (U.tk d.1))).toNat)/\(U.la (U.tc (U.tk d.1))).toNat+1-b.1<(U.la (U.tc (U.tk d.1))).toNat+1-x.1))/\(decide ((0:Int)<(↑(q32_3 d x).2.length:Int))=false->((q32_3 d x).1,())=(U.jbI (U.tk d.1) d.2.1,()))
end Go.X
namespace Go.X
open Go.Proofs
theorem jlW {x:Int} (a:0<=x) (b:x<=4294967295):wb x 4294967295=x:=by
 obtain⟨n,rfl⟩:∃n:Nat,x=(n:Int):=⟨x.toNat,by omega⟩;rw[show(4294967295:Int)=((4294967295:Nat):Int) from rfl,BT.uand_nat (by omega) (by omega),show(4294967295:Nat)=2^32-1 from rfl,Nat.and_two_pow_sub_one_eq_mod,Nat.mod_eq_of_lt (by omega)]
theorem jpb:jlU:=by
 unfold jlU q29_2 q29_1 q29_0;rintro⟨x,y,⟨⟩⟩ b c a d;simp only at b c a d;have f:=jlW b (by omega);have g:=jlW a (by omega);have e:=jlW (x:=0) (by omega) (by omega);have h:x/2^Int.toNat 32=0:=Int.ediv_eq_zero_of_lt b (by show x<2^32;omega);have i:y/2^Int.toNat 32=0:=Int.ediv_eq_zero_of_lt a (by show y<2^32;omega);have k:0<=x*y:=Int.mul_nonneg b a;have l:x*y<=1000*1000:=Int.mul_le_mul c d a (by omega);have c1:x*y/2^Int.toNat 32=0:=Int.ediv_eq_zero_of_lt k (by show x*y<2^32;omega);have j:(0:Int)/2^Int.toNat 32=0:=Int.zero_ediv _;simp only[f,g,h,i,Int.zero_mul,Int.mul_zero,Int.zero_add,Int.add_zero,c1,e,j]
 and_intros<;>first|omega|rfl|trivial
theorem jmw:zh PR 218 jl8:=jM jpb Tryz.func218 kcN koN
theorem jud:jp8:=by
 rintro⟨x,y,⟨⟩⟩ a b c d;exact⟨fun h=>(by cases h),fun _=>⟨a,b,c,d,rfl⟩⟩
theorem jq5:zh PR 211 jqs:=jM jud Tryz.func211 (kcC jmw kcN) koN
theorem jmM {x:Int} {N n:Nat} (h:n<=N):(U.wS x N n).length=N:=by
 unfold U.wS;simp;omega
theorem jo3 {x:Int} {N n:Nat} (h:n<=N):(U.wS x N n).take n=List.replicate n x:=by
 unfold U.wS;rw[List.take_append_of_le_length (by simp),jEx (by simp)]
theorem jwJ {x:Int} {N n:Nat} (h:n<=N):juT (U.wS x N n) n (N-n) (List.replicate n x)=U.wS x N (n+min (N-n) n):=by
 unfold juT;rw[jo3 h,List.take_replicate,jEG];unfold U.wS;rw[List.drop_append,jEG,List.drop_of_length_le (by simp),jD5,List.drop_replicate,<-List.replicate_append_replicate];congr 2;omega
theorem jjn:jg0:=by
 unfold jg0 q31_6 q31_5 q31_2 q31_0 q31_4 q31_1 q31_3;rintro⟨l,n,⟨⟩⟩ b g e;simp only at b g e;obtain⟨N,rfl⟩:∃N:Nat,n=(N:Int):=⟨n.toNat,by omega⟩;obtain⟨y,rfl⟩:∃y,l=[y]:=by
  cases l with
  |nil=>simp at b
  |cons y r=>cases r with
   |nil=>exact⟨y,rfl⟩
   |cons z r=>simp at b
 have c:(([y].length:Nat):Int)*(N:Int)=(N:Int):=(by simp);have f:nth [y] 0=y:=rfl
 dsimp only
 refine⟨fun h=> ?_,fun _ _=>⟨by simp,by simp,by omega,by omega,by simp,by simp,by omega,e,fun h=> ?_,fun _=> ?_⟩⟩
 .have:=of_decide_eq_true h;omega
 .rw[c] at h;have h:(9223372036854775807:Int)<(N:Int):=(by simpa using h);omega
 rw[c,f];simp only[jDN,jEG];refine⟨L.in64 (by omega) (by omega),by omega,trivial,by omega,by omega,⟨min 1 N,⟨⟨?_,trivial⟩,?_,trivial⟩,by omega,by omega⟩,fun x a i=>⟨fun h=> ?_,fun h=> ?_⟩⟩
 .rw[jEa];simp only[jEe,jEt];omega
 .rcases jEO N with d|d
  .subst d;rfl
  .obtain⟨M,rfl⟩:∃M,N=M+1:=⟨N-1,by omega⟩;have:min 1 (M+1)=1:=(by omega);rw[this];simp[juT,U.wS,List.replicate_succ]
 .have h:=of_decide_eq_true h;rw[jmM a.1] at h;simp only[jmM a.1,jDN,Int.toNat_zero,List.drop_zero,Nat.sub_zero,jo3 a.1,List.take_replicate,jEG];refine⟨by omega,by omega,by omega,by omega,by omega,by omega,by omega,L.in64 (by omega) (by omega),x+min (N-x) x,⟨⟨by omega,trivial⟩,jwJ a.1,trivial⟩,⟨by omega,by omega⟩,by omega⟩
 .have h:=of_decide_eq_false h;rw[jmM a.1] at h;have h:x=N:=(by have:=a.1;omega);subst h;refine⟨?_,trivial⟩;unfold U.wS;rw[Nat.sub_self];simp
theorem jhr:wD PR 191 jhh:=ji0 jhJ jjn Tryz.func191 (kcC jq5 kcN) koN
theorem jAH {a b:List Int}:nth (a++b) (a.length+Int.toNat 0)=nth b 0:=by
 unfold nth;simp only[jEc,Int.toNat_zero,jEQ];rw[jDR (jDJ _),Nat.sub_self]
theorem jpl {t:TkD} {s:Int} (a:U.vu t):2<=U.la (U.tc t)/\U.la (U.tc t)<=5/\0<=U.jrb (U.tj t)/\U.jrb (U.tj t)<U.la (U.tc t):=by
 obtain⟨c1,c2,_⟩:=a;obtain⟨b,c,_⟩:=jG c1;obtain⟨_,⟨d,e⟩,_⟩:=jeU c2;exact⟨b,c,d,e⟩
theorem jo6:jlP:=by
 unfold jlP q32_6 q32_5 q32_4 q32_0 q32_2 q32_3 q32_1;rintro⟨(_|t),s,⟨⟩⟩ h0 m
 .cases h0
 have m:U.vu t:=m;obtain⟨l1,l2,j1,j2⟩:=jpl (s:=s) m;have w:U.tk (some t)=t:=rfl;obtain⟨n,A⟩:∃n,n=(U.la (U.tc t)).toNat:=⟨_,rfl⟩;obtain⟨v,hv⟩:∃v,v=(U.jrb (U.tj t)).toNat:=⟨_,rfl⟩;have hs:v<n:=(by omega);have Y:∀k,jBJ (U.juS t s) n v (U.jK t s k)/\((U.jK t s k).2=[]\/joS (U.jK t s k).1+(U.jK t s k).2.length+k=n):=by
  intro k;rw[A,hv] at*;exact jqF hs k
 refine⟨rfl,rfl,(by omega:0<=U.la (U.tc t)),(by omega:U.la (U.tc t)<=1000),rfl,j1,?_,rfl,⟨(0,[]),⟨⟨⟨rfl,rfl⟩,trivial⟩,rfl,?_,trivial⟩,jDJ _,jDU _⟩,fun x hx T=>⟨fun j V=> ?_,fun h=> ?_⟩⟩
 .show U.jrb (U.tj t)<(((List.replicate (U.la (U.tc t)).toNat (nth [(-1:Int)] 0)).length:Nat):Int);rw[jEG];omega
 .show[U.jrb (U.tj t)]=[]++[(((U.jrb (U.tj t)).toNat:Nat):Int)];rw[jD5,Int.toNat_of_nonneg j1]
 .obtain⟨k,pre⟩:=x;obtain⟨X,H⟩:=hx;simp only[w,List.drop_left] at X H j V T⊢;rw[<-A] at H⊢;obtain⟨B,o⟩:=Y k;have j:0<(U.jK t s k).2.length:=(by have:=of_decide_eq_true j;omega);have d:(U.jK t s k).2≠[]:=fun e=>by rw[e] at j;simp at j
  have F:=B.i.len;rcases o with o|o
  .exact absurd o d
  have p:U.jK t s (k+1)=U.wL (U.juS t s) n (U.jK t s k):=(by rw[A];rfl);generalize W:U.jK t s k=x0 at*;obtain⟨g,r0,a⟩:∃q r,x0.2=q::r:=by
   cases I:x0.2 with
   |nil=>exact absurd I d
   |cons q r=>exact⟨q,r,rfl⟩
  obtain⟨M,g2,g3⟩:=B.i.que g (by rw[a];simp);have y:nth x0.2 0=g:=(by rw[a];rfl);have hla:((n:Nat):Int)=U.la (U.tc t):=(by omega);have f:U.jBH t s (x0.1,x0.2) pre.length:=by
   unfold U.jBH;rw[<-A,<-hv];exact⟨B,d,by simp only;omega,by omega⟩
  refine⟨⟨(0,pre),⟨⟨rfl,⟨rfl,rfl⟩,trivial⟩,rfl,rfl,trivial⟩,jDU _,jDJ _,f⟩,?_⟩;rintro⟨i,p5⟩ ⟨hi,R,_⟩;simp only at hi R;have C:InI (U.juS t s) n v g.toNat i x0 (U.wj t s (x0.1,x0.2) i):=by
   have:=jwI (J:=U.juS t s) hs (q:=g.toNat) (by omega) g3 B.i B.le i (by omega);unfold U.wj;simp only[y];exact this
  have c:U.wj t s (x0.1,x0.2) (i+1)=U.jfk (U.juS t s) g.toNat (U.wj t s (x0.1,x0.2) i) i:=by
   unfold U.wj;simp only[y];exact jlE _ _ _ _
  have D:i=n->U.jK t s (k+1)=((U.wj t s (x0.1,x0.2) i).1,(U.wj t s (x0.1,x0.2) i).2.drop 1):=by
   intro e;subst e;rw[p];have:U.wL (U.juS t s) i x0=((U.jfl (U.juS t s) g.toNat x0 i).1,(U.jfl (U.juS t s) g.toNat x0 i).2.drop 1):=by
    clear p c C f F d B Y W;obtain⟨st,qu⟩:=x0;simp only at a;subst a;rfl
   rw[this];unfold U.wj;simp only[y]
  generalize hFI:U.wj t s (x0.1,x0.2) i=u at*;obtain⟨l,Q⟩:=C.pre;have hQ:nth u.2 0=g:=(by rw[Q,a];rfl);have G:0<u.2.length:=(by rw[Q,a];simp);have hmu:=C.mu;have hFl:=C.i.len;have E:∀i:Nat,U.juS t s g.toNat i=U.jdt t s g (i:Int):=by
   intro i;unfold U.juS;rw[Int.toNat_of_nonneg M]
  simp only[jAH,hQ];simp only[jDN];refine⟨fun h=> ?_,fun h=> ?_⟩
  .have h:i<n:=(by have:=of_decide_eq_true h;omega);refine⟨by omega,by omega,fun _=>by omega,fun _=>by omega,fun _=>rfl,fun _=>m,fun _=>M,fun _=>by omega,fun _=>by omega,fun _=>by omega,fun z=> ?_,fun z=> ?_⟩
   .rw[jDK] at z;have h3:=of_decide_eq_true z.1;have Z:=C.i.low g.toNat (by omega);have b:U.wj t s (x0.1,x0.2) (i+1)=(u.1.set i (nth u.1 g.toNat+1),u.2++[(i:Int)]):=by
     rw[c];unfold U.jfk;rw[if_pos ⟨h3,by rw[E];exact z.2⟩]
    refine⟨by omega,by omega,M,by omega,L.in64 (by omega) (by omega),by omega,by omega,by simp,G,by simp only[jEe,jEt];omega,by simp only[jEe,jEt];omega,fun K S=>⟨L.in64 (by omega) (by omega),(i+1,K),⟨⟨by simp,⟨rfl,?_⟩,trivial⟩,?_,?_,trivial⟩,⟨by simp only;omega,by simp only;omega,f⟩,by simp only;omega⟩⟩
    .rw[b];simp
    .rw[b,jDY]
    .rw[b]
   .have b:U.wj t s (x0.1,x0.2) (i+1)=u:=by
     rw[c];unfold U.jfk;rw[if_neg (fun O=>by
      rw[E] at O;rw[O.2,decide_eq_true O.1] at z;cases z)]
    refine⟨L.in64 (by omega) (by omega),(i+1,p5),⟨⟨⟨rfl,?_⟩,by simp,trivial⟩,?_,?_,trivial⟩,⟨by simp only;omega,by simp only;omega,f⟩,by simp only;omega⟩
    .rw[b]
    .rw[b]
    .rw[b]
  .have h:i=n:=(by have:=of_decide_eq_false h;omega);have P:=D h;have N:u.2=g::(r0++l):=(by rw[Q,a];rfl);refine⟨by omega,by omega,by omega,(k+1,p5++[g]),⟨⟨⟨?_,?_⟩,trivial⟩,?_,?_,trivial⟩,⟨by simp only[jD0,jEe,jEt];omega,by simp only;omega⟩,by simp only;omega⟩
   .simp only[jD0,jEe,jEt];rfl
   .rw[P];simp only[jEX];rfl
   .rw[P]
   .rw[P,N];simp
 .simp only[w] at h⊢;have h:(U.jK t s x.1).2=[]:=by
   have:=of_decide_eq_false h;exact jEl (by omega)
  have hk:x.1<=n:=(by have:=hx.2;rw[w,<-A] at this;exact this);have h1:U.qG (U.juS t s) (U.la (U.tc t)).toNat (U.jrb (U.tj t)).toNat ((U.la (U.tc t)).toNat+1)=U.jK t s x.1:=jzi (k:=x.1) h _ (by rw[<-A];omega);show((U.jK t s x.1).1,())=((U.qG (U.juS t s) (U.la (U.tc t)).toNat (U.jrb (U.tj t)).toNat ((U.la (U.tc t)).toNat+1)).1,());rw[h1]
theorem jmt:zh PR 157 kV:=wt jnc jo6 Tryz.func157 (kcC jhm kcN) (koC jhr koN)
end Go.X
namespace Go.X
open Go.Proofs
namespace U
def jaF (t:TkD) (o:Int) (q:List (Int×PeD×Unit)):Int:=q.foldl (fun o x=>uor o (wd t x.2.1)) o
def jfh (q:List (Int×PeD×Unit)):Bool:=q.any (fun x=>deaf x.2.1)
def jvS (b:Bool) (o k:Int):Int:=if b=true then uor o k else o
def z7 (t:TkD) (s:Int):Int:=jvS (decide (nth (jbI t s) (jyH (tj t)).toNat<0)) (jvS (jDC (tl t)&& !jfh (joV t s)) (jvS (decide (BT.size s≠max (jCa (tj t)) (jC2 (tl t)))) (jaF t 0 (joV t s)) 8) 16) 32
def jwz (c:CrD) (n:Int):Bool:=ja n 0 (2^(jh c).length-1)
def vg (c:CrD) (j:JbD) (n:Int):Int:=if zN c j≠0 then zN c j else if jwz c n=true then 0 else 1
def jCz (c:CrD) (j:JbD) (n:Int):Int:=if vg c j n=0 then z7 (c,j,jyB c j,()) n else 0
def vA (c:CrD) (j:JbD) (n:Nat):List Int:=((List.range n).filter (fun i=>decide (wd (c,j,jyB c j,()) (nth (jh c) i)=0))).map (fun(i:Nat)=>(i:Int))
def vY (c:CrD) (j:JbD):List Int:=if zN c j=0 then vA c j (jh c).length else[]
end U
def kd:jR:=⟨[.val (.ptr tTk),.val tPe],[.uint .u64],false,fun d=>[d.1.isSome=true,U.vu (U.tk d.1)],fun d=>(U.wd (U.tk d.1) d.2.1,())⟩
def jvE:jpO [.int,tPe]:={ps:=[.ref (.ptr tTk),.own (.box 146 [.dat (.uint .u64)]) true,.own (.box 4 [.dat .bool]) true],slots:=[2,4,5],dst:=65,pre:=fun d=>[d.1.isSome=true,U.vu (U.tk d.1)],G:=fun d q=>((U.jaF (U.tk d.1) d.2.1.1 q,()),(d.2.2.1.1||U.jfh q,()),()),seq:=jsF}
def jij:Nat->Option ((ts:List Ty)×jpO ts):=fun r=>match r with
 |4=>some ⟨[.int,tPe],jvE⟩
 |_=>none
def jao:jR:=⟨[.val (.ptr tTk),.val (.uint .u64)],[.uint .u64],false,fun d=>[d.1.isSome=true,U.vu (U.tk d.1),BT.Set' d.2.1],fun d=>(U.z7 (U.tk d.1) d.2.1,())⟩
abbrev q33_0 (d:Option (CrD×JbD×LwD×Unit)×Int×Unit):=(jS (((0:Int),[],[],()),((0:Int),(0:Int),(0:Int),(0:Int),(0:Int),(0:Int),()),((0:Int),(0:Int),false,()),()) d.1)
abbrev q33_1 (d:Option (CrD×JbD×LwD×Unit)×Int×Unit):=(nth (U.jbI (U.tk d.1) d.2.1) (q33_0 d).2.1.1.toNat<0)
abbrev q33_2 (d:Option (CrD×JbD×LwD×Unit)×Int×Unit):=(U.z7 (U.tk d.1) d.2.1,())
abbrev q33_3 (d:Option (CrD×JbD×LwD×Unit)×Int×Unit):=(↑(U.jbI (U.tk d.1) d.2.1).length:Int)
def jak:Prop:=∀(d:Option (CrD×JbD×LwD×Unit)×Int×Unit),d.1.isSome=true->U.vu (U.tk d.1)->BT.Set' d.2.1->(d.1.isSome=true/\(U.jh (U.tc (U.tk d.1))).length<=60)/\(d.1.isSome=true/\U.vu (U.tk d.1)/\True)/\(d.1,(U.jaF (U.tk d.1) (0:Int) [],()),(false||U.jfh [],()),())=(d.1,((0:Int),()),(false,()),())/\(∀(q:List (Int×PeD×Unit)) (x:Int×PeD×Unit) (rest:List (Int×PeD×Unit)),q++x::rest=U.joV (U.tk d.1) d.2.1->kG (fun(a:List (Int×PeD×Unit))=>false) q->d.1.isSome=true/\U.vu (U.tk d.1)/\false=false/\((uor (U.jaF (U.tk d.1) (0:Int) q) (U.wd (U.tk d.1) x.2.1),()),(false||U.jfh q||x.2.1.2.2.2.2.1,()),())=((U.jaF (U.tk d.1) (0:Int) (q++[x]),()),(false||U.jfh (q++[x]),()),()))/\(∀(xs:List (Int×PeD×Unit)),xs=U.joV (U.tk d.1) d.2.1->kG (fun(b:List (Int×PeD×Unit))=>false) xs->BT.Set' d.2.1/\d.1.isSome=true/\d.1.isSome=true/\(decide (BT.size d.2.1≠max (q33_0 d).2.1.2.2.2.2.2.1 (q33_0 d).2.2.1.2.1)=true->d.1.isSome=true/\(((q33_0 d).2.2.1.2.2.1&& !(false||U.jfh xs))=true->d.1.isSome=true/\U.vu (U.tk d.1)/\d.1.isSome=true/\(0:Int)<=(q33_0 d).2.1.1/\(q33_0 d).2.1.1<(q33_3 d)/\(decide (q33_1 d)=true->(uor (uor (uor (U.jaF (U.tk d.1) (0:Int) xs) (8:Int)) (16:Int)) (32:Int),())=(q33_2 d))/\(decide (q33_1 d)=false->(uor (uor (U.jaF (U.tk d.1) (0:Int) xs) (8:Int)) (16:Int),())=(q33_2 d)))/\(((q33_0 d).2.2.1.2.2.1&& !(false||U.jfh xs))=false->d.1.isSome=true/\U.vu (U.tk d.1)/\d.1.isSome=true/\(0:Int)<=(q33_0 d).2.1.1/\(q33_0 d).2.1.1<(q33_3 d)/\(decide (q33_1 d)=true->(uor (uor (U.jaF (U.tk d.1) (0:Int) xs) (8:Int)) (32:Int),())=(q33_2 d))/\(decide (q33_1 d)=false->(uor (U.jaF (U.tk d.1) (0:Int) xs) (8:Int),())=(q33_2 d))))/\(decide (BT.size d.2.1≠max (q33_0 d).2.1.2.2.2.2.2.1 (q33_0 d).2.2.1.2.1)=false->d.1.isSome=true/\(((q33_0 d).2.2.1.2.2.1&& !(false||U.jfh xs))=true->d.1.isSome=true/\U.vu (U.tk d.1)/\d.1.isSome=true/\(0:Int)<=(q33_0 d).2.1.1/\(q33_0 d).2.1.1<(q33_3 d)/\(decide (q33_1 d)=true->(uor (uor (U.jaF (U.tk d.1) (0:Int) xs) (16:Int)) (32:Int),())=(q33_2 d))/\(decide (q33_1 d)=false->(uor (U.jaF (U.tk d.1) (0:Int) xs) (16:Int),())=(q33_2 d)))/\(((q33_0 d).2.2.1.2.2.1&& !(false||U.jfh xs))=false->d.1.isSome=true/\U.vu (U.tk d.1)/\d.1.isSome=true/\(0:Int)<=(q33_0 d).2.1.1/\(q33_0 d).2.1.1<(q33_3 d)/\(decide (q33_1 d)=true->(uor (U.jaF (U.tk d.1) (0:Int) xs) (32:Int),())=(q33_2 d))/\(decide (q33_1 d)=false->(U.jaF (U.tk d.1) (0:Int) xs,())=(q33_2 d)))))/\∀(q:List (Int×PeD×Unit)) (x:Int×PeD×Unit) (rest:List (Int×PeD×Unit)),q++x::rest=U.joV (U.tk d.1) d.2.1->kG (fun(c:List (Int×PeD×Unit))=>false) q->false=true->(U.jaF (U.tk d.1) (0:Int) (q++[x]),())=(q33_2 d)
theorem jcR:(jst (jpV 64 [(118,kd),(156,kW),(157,kV)] [] [(155,jA)] []) jao (fun _ _=>none) (hkC (jpV 64 [(118,kd),(156,kW),(157,kV)] [] [(155,jA)] []) (fun _=>none) jij [] []) Tryz.f122 (zz Tryz.f122))=jak:=by kernel_rfl
def jvh:jR:=⟨[.val tCr,.val tJb,.val .int],[.ptr tTk,.int],false,fun _=>[],fun d=>(U.jk3 d.1 d.2.1,U.vg d.1 d.2.1 d.2.2.1,())⟩
abbrev q34_1 (d:CrD×JbD×Int×Unit):=(U.zN d.1 d.2.1=0)
abbrev q34_0 (d:CrD×JbD×Int×Unit):=(decide (q34_1 d)&& !U.ja d.2.2.1 (0:Int) ((1:Int)*2^(d.1.2.1.length:Int).toNat-1))
def juX:Prop:=∀(d:CrD×JbD×Int×Unit),(decide (q34_1 d)=true->d.1.2.1.length<4611686018427387904)->(decide (q34_1 d)=true->0<=(d.1.2.1.length:Int))/\(decide (q34_1 d)=true->(d.1.2.1.length:Int)<=64)/\(decide (q34_1 d)=true->jC ((1:Int)*2^(d.1.2.1.length:Int).toNat))/\(decide (q34_1 d)=true->jC ((1:Int)*2^(d.1.2.1.length:Int).toNat-1))/\((q34_0 d)=true->(U.jk3 d.1 d.2.1,(1:Int),())=(U.jk3 d.1 d.2.1,U.vg d.1 d.2.1 d.2.2.1,()))/\((q34_0 d)=false->(U.jk3 d.1 d.2.1,U.zN d.1 d.2.1,())=(U.jk3 d.1 d.2.1,U.vg d.1 d.2.1 d.2.2.1,()))
def jql:jR:=⟨[.val tCr,.val tJb,.val .int],[.int,.int],false,fun _=>[],fun d=>(U.jCz d.1 d.2.1 d.2.2.1,U.vg d.1 d.2.1 d.2.2.1,())⟩
def jp1:Prop:=∀(d:CrD×JbD×Int×Unit),(decide (U.vg d.1 d.2.1 d.2.2.1≠0)=true->((0:Int),U.vg d.1 d.2.1 d.2.2.1,())=(U.jCz d.1 d.2.1 d.2.2.1,U.vg d.1 d.2.1 d.2.2.1,()))/\(decide (U.vg d.1 d.2.1 d.2.2.1≠0)=false->0<=d.2.2.1/\d.2.2.1<=18446744073709551615/\(U.jk3 d.1 d.2.1).isSome=true/\U.vu (U.tk (U.jk3 d.1 d.2.1))/\BT.Set' d.2.2.1/\jC (U.z7 (U.tk (U.jk3 d.1 d.2.1)) d.2.2.1)/\(U.z7 (U.tk (U.jk3 d.1 d.2.1)) d.2.2.1,(0:Int),())=(U.jCz d.1 d.2.1 d.2.2.1,U.vg d.1 d.2.1 d.2.2.1,()))
def jx4:jR:=⟨[.val tCr,.val tJb],[.slice .int,.int],false,fun _=>[],fun d=>(U.vY d.1 d.2.1,U.zN d.1 d.2.1,())⟩
def jzn:Ann:=fun r=>match r with
 |6=>some fun σ=>{X:=Nat,sl:=fun i=>[(23,.dat .int (i:Int)),(8,.own 8 .int)],ob:=fun i=>[(8,some (.row 3 .int false .yes (U.vA (gd tCr σ 0) (gd tJb σ 1) i)))],inv:=fun i=>i<=(U.jh (gd tCr σ 0)).length,mu:=fun i=>(U.jh (gd tCr σ 0)).length-i}
 |_=>none
def jxV:Prop:=∀(d:CrD×JbD×Unit),(decide (U.zN d.1 d.2.1≠0)=true->([],U.zN d.1 d.2.1,())=(U.vY d.1 d.2.1,U.zN d.1 d.2.1,()))/\(decide (U.zN d.1 d.2.1≠0)=false->d.1.2.1.length<4611686018427387904->(∃(x:Nat),((0=(x:Int)/\True/\True)/\U.vA d.1 d.2.1 x=[]/\True)/\x<=(U.jh d.1).length)/\∀(x:Nat),x<=(U.jh d.1).length->(decide ((x:Int)<(d.1.2.1.length:Int))=true->0<=(x:Int)/\(x:Int)<(d.1.2.1.length:Int)/\(U.jk3 d.1 d.2.1).isSome=true/\U.vu (U.tk (U.jk3 d.1 d.2.1))/\(decide (U.wd (U.tk (U.jk3 d.1 d.2.1)) (nth d.1.2.1 (x:Int).toNat)=0)=true->((U.vA d.1 d.2.1 x).length+[(x:Int)].length)*8<=140737488355328/\jC ((x:Int)+1)/\∃(a:Nat),(((x:Int)+1=(a:Int)/\True/\True)/\U.vA d.1 d.2.1 x++[(x:Int)]=U.vA d.1 d.2.1 a/\True)/\a<=(U.jh d.1).length/\(U.jh d.1).length-a<(U.jh d.1).length-x)/\(decide (U.wd (U.tk (U.jk3 d.1 d.2.1)) (nth d.1.2.1 (x:Int).toNat)=0)=false->jC ((x:Int)+1)/\∃(a:Nat),((True/\(x:Int)+1=(a:Int)/\True)/\U.vA d.1 d.2.1 x=U.vA d.1 d.2.1 a/\True)/\a<=(U.jh d.1).length/\(U.jh d.1).length-a<(U.jh d.1).length-x))/\(decide ((x:Int)<(d.1.2.1.length:Int))=false->(U.vA d.1 d.2.1 x,(0:Int),())=(U.vY d.1 d.2.1,U.zN d.1 d.2.1,())))
end Go.X
namespace Go.X
open Go.Proofs
theorem ju8 (a b c:Bool):0<=U.jtt a b c/\U.jtt a b c<=7:=by
 unfold U.jtt U.jBE;cases a<;>cases b<;>cases c<;>simp
theorem jpJ (t:TkD) (p:PeD):0<=U.wd t p/\U.wd t p<=7:=ju8 _ _ _
theorem jn9 {s:Int} (h:0<=s/\s<=1000):BT.Set' s:=by unfold BT.Set';omega
theorem jzA {a b:Int} (c:0<=a/\a<64) (d:0<=b/\b<64):0<=uor a b/\uor a b<64:=by
 obtain⟨n,rfl⟩:∃n:Nat,a=(n:Int):=⟨a.toNat,by omega⟩;obtain⟨m,rfl⟩:∃m:Nat,b=(m:Int):=⟨b.toNat,by omega⟩;rw[BT.uor_nat (by omega) (by omega)];have:n|||m<2^6:=Nat.or_lt_two_pow (by omega) (by omega);omega
theorem ju2 (t:TkD):∀(q:List (Int×PeD×Unit)) (o:Int),(0<=o/\o<64)->0<=U.jaF t o q/\U.jaF t o q<64
 |[],o,h=>h
 |x::q,o,h=>by
  have:=jpJ t x.2.1
  exact ju2 t q _ (jzA h ⟨by omega,by omega⟩)
theorem jqW {b:Bool} {o k:Int} (h:0<=o/\o<64) (hk:0<=k/\k<64):0<=U.jvS b o k/\U.jvS b o k<64:=by
 unfold U.jvS
 split
 .exact jzA h hk
 .exact h
theorem juE (t:TkD) (s:Int):0<=U.z7 t s/\U.z7 t s<64:=by
 unfold U.z7;exact jqW (jqW (jqW (ju2 t _ _ (by omega)) (by omega)) (by omega)) (by omega)
theorem ju1 (t:TkD) (o:Int) (q:List (Int×PeD×Unit)) (x:Int×PeD×Unit):U.jaF t o (q++[x])=uor (U.jaF t o q) (U.wd t x.2.1):=by
 unfold U.jaF;rw[jEi];rfl
theorem jyY {t:TkD} {s:Int} (a:U.vu t):((U.jbI t s).length:Int)=U.la (U.tc t):=by
 obtain⟨f,g,c,d⟩:=jpl (s:=s) a;have b:(U.jrb (U.tj t)).toNat<(U.la (U.tc t)).toNat:=(by omega);have:=(jqF (J:=U.juS t s) b ((U.la (U.tc t)).toNat+1)).1.i.len;have e:(U.jbI t s).length=(U.la (U.tc t)).toNat:=this;omega
theorem jjj:jak:=by
 unfold jak q33_3 q33_2 q33_1 q33_0;rintro⟨(_|t),s,⟨⟩⟩ n a c
 .cases n
 have a:U.vu t:=a;have c:BT.Set' s:=c;obtain⟨c1,c2,_⟩:=id a;obtain⟨_,_,p,_⟩:=jG c1;obtain⟨⟨m,r⟩,_⟩:=jeU c2;have o:=jyY (s:=s) a;have f:U.tk (some t)=t:=rfl;have b:0<=U.jyH (U.tj t)/\U.jyH (U.tj t)<(((U.jbI t s).length:Nat):Int):=⟨m,by omega⟩;refine⟨⟨rfl,(by omega:(U.jh (U.tc t)).length<=60)⟩,⟨rfl,a,trivial⟩,rfl,fun q x rest u _=>⟨rfl,a,rfl,?_⟩,fun xs g _=>⟨c,rfl,rfl,?_⟩,fun q x rest _ _ h=>by cases h⟩
 .simp only[f,ju1];unfold U.jfh;simp only[List.any_append,List.any_cons,List.any_nil,Bool.or_false,Bool.false_or];rfl
 .simp only[f] at g⊢;subst g;have key:∀(j k l:Bool),decide (BT.size s≠max (U.jCa (U.tj t)) (U.jC2 (U.tl t)))=j->(U.jDC (U.tl t)&& !U.jfh (U.joV t s))=k->decide (nth (U.jbI t s) (U.jyH (U.tj t)).toNat<0)=l->
   U.jvS l (U.jvS k (U.jvS j (U.jaF t 0 (U.joV t s)) 8) 16) 32=U.z7 t s:=by
   intro j k l i e d;unfold U.z7;rw[i,e,d]
  refine⟨fun i=>⟨rfl,fun e=>⟨rfl,a,rfl,b.1,b.2,fun d=> ?_,fun d=> ?_⟩,fun e=>⟨rfl,a,rfl,b.1,b.2,fun d=> ?_,fun d=> ?_⟩⟩,fun i=>⟨rfl,fun e=>⟨rfl,a,rfl,b.1,b.2,fun d=> ?_,fun d=> ?_⟩,fun e=>⟨rfl,a,rfl,b.1,b.2,fun d=> ?_,fun d=> ?_⟩⟩⟩<;>
   (rw[Bool.false_or] at e;have:=key _ _ _ i e d;rw[<-this];rfl)
theorem jqR {c:CrD} (h:U.jr c=true):(0:Int)<2^(U.jh c).length/\(2:Int)^(U.jh c).length<=256:=by
 obtain⟨_,_,a,_⟩:=jG h;rw[BT.two_nat];have b:2^(U.jh c).length<=2^8:=Nat.pow_le_pow_right (by decide) a;have d:0<2^(U.jh c).length:=Nat.pow_pos (by decide);omega
theorem jyM:juX:=by
 unfold juX q34_0 q34_1;rintro⟨c,j,n,⟨⟩⟩ _;have e:∀l:Nat,(1:Int)*2^((l:Int)).toNat=2^l:=fun l=>by rw[Int.one_mul,jDN]
 simp only[e];refine⟨fun _=>by omega,fun h=> ?_,fun h=> ?_,fun h=> ?_,fun h=> ?_,fun h=> ?_⟩
 .have:=(jG (jdH (of_decide_eq_true h)).1).2.2.1;have this:c.2.1.length<=8:=this;omega
 .have:=jqR (jdH (of_decide_eq_true h)).1;have this:(0:Int)<2^c.2.1.length/\(2:Int)^c.2.1.length<=256:=this;exact L.in64 (by omega) (by omega)
 .have:=jqR (jdH (of_decide_eq_true h)).1;have this:(0:Int)<2^c.2.1.length/\(2:Int)^c.2.1.length<=256:=this;exact L.in64 (by omega) (by omega)
 .rw[jDK] at h;have a:=of_decide_eq_true h.1;have b:U.jwz c n=false:=by
   have d:U.ja n 0 (2^c.2.1.length-1)=false:=(by simpa using h.2);exact d
  unfold U.vg;rw[if_neg (by omega),if_neg (by rw[b];simp)]
 .unfold U.vg;by_cases a:U.zN c j=0
  .rw[decide_eq_true a,Bool.true_and] at h;have b:U.jwz c n=true:=by
    have d:U.ja n 0 (2^c.2.1.length-1)=true:=(by simpa using h);exact d
   rw[if_neg (by omega),if_pos b,a]
  .rw[if_pos a]
theorem jv2:zh PR 121 jvh:=jM jyM Tryz.func121 (kcC jox (kcC wn kcN)) koN
theorem jtq {c:CrD} {j:JbD} {n:Int} (h:U.vg c j n=0):U.zN c j=0/\0<=n/\n<2^(U.jh c).length:=by
 unfold U.vg at h
 split at h
 .rename_i b;omega
 .rename_i b
  split at h
  .rename_i a;unfold U.jwz U.ja at a;simp only[jDK,decide_eq_true_eq] at a;exact⟨by omega,a.1,by omega⟩
  .omega
theorem jt6:jp1:=by
 rintro⟨c,j,n,⟨⟩⟩;refine⟨fun h=> ?_,fun h=> ?_⟩
 .have h:U.vg c j n≠0:=of_decide_eq_true h;simp only;unfold U.jCz;rw[if_neg h]
 .have h:U.vg c j n=0:=(by simpa using h);obtain⟨d,e,g⟩:=jtq h;obtain⟨b,f⟩:=jvU d;have k:=jqR (jdH d).1;have a:U.tk (U.jk3 c j)=(c,j,U.jyB c j,()):=(by rw[b];rfl);have i:=juE (c,j,U.jyB c j,()) n;simp only[a];refine⟨e,by omega,by rw[b];rfl,f,jn9 ⟨e,by omega⟩,L.in64 (by omega) (by omega),?_⟩;unfold U.jCz;rw[if_pos h,h]
theorem jle (c:CrD) (j:JbD) (n:Nat):U.vA c j (n+1)=U.vA c j n++(if U.wd (c,j,U.jyB c j,()) (nth (U.jh c) n)=0 then[(n:Int)] else[]):=by
 unfold U.vA;rw[L.range_filter_succ,jEI];by_cases h:U.wd (c,j,U.jyB c j,()) (nth (U.jh c) n)=0
 .rw[if_pos (decide_eq_true h),if_pos h];rfl
 .rw[if_neg (by simpa using h),if_neg h];rfl
theorem jwp (c:CrD) (j:JbD) (n:Nat):(U.vA c j n).length<=n:=by
 unfold U.vA;rw[jE2];exact jDV (List.length_filter_le _ _) (by simp)
theorem jAW:jxV:=by
 rintro⟨c,j,⟨⟩⟩;refine⟨fun h=> ?_,fun h _=>⟨⟨0,⟨⟨rfl,trivial,trivial⟩,rfl,trivial⟩,jDU _⟩,fun x f=>⟨fun a=> ?_,fun a=> ?_⟩⟩⟩
 .have h:U.zN c j≠0:=of_decide_eq_true h;simp only;unfold U.vY;rw[if_neg h]
 .have h:U.zN c j=0:=(by simpa using h);obtain⟨e,g⟩:=jvU h;have d:U.tk (U.jk3 c j)=(c,j,U.jyB c j,()):=(by rw[e];rfl);have a:x<(U.jh c).length:=by
   have a:=of_decide_eq_true a;have a:(x:Int)<((U.jh c).length:Int):=a;omega
  have i:(x:Int)<((U.jh c).length:Int):=(by omega);have k:=(jG (jdH h).1).2.2.1;have l:=jwp c j x;simp only[d,jDN];refine⟨by omega,i,by rw[e];rfl,g,fun b=>⟨by simp only[jEe,jEt];omega,L.in64 (by omega) (by omega),x+1,⟨⟨by simp,trivial,trivial⟩,?_,trivial⟩,a,by omega⟩,fun b=>⟨L.in64 (by omega) (by omega),x+1,⟨⟨trivial,by simp,trivial⟩,?_,trivial⟩,a,by omega⟩⟩
  .have b:U.wd (c,j,U.jyB c j,()) (nth (U.jh c) x)=0:=of_decide_eq_true b;rw[jle,if_pos b]
  .have b:¬U.wd (c,j,U.jyB c j,()) (nth (U.jh c) x)=0:=of_decide_eq_false b;rw[jle,if_neg b,jEb]
 .have h:U.zN c j=0:=(by simpa using h);have a:(U.jh c).length<=x:=by
   have a:=of_decide_eq_false a;have a:¬(x:Int)<((U.jh c).length:Int):=a;omega
  have f:x<=(U.jh c).length:=f;simp only;unfold U.vY;rw[if_pos h,h,show x=(U.jh c).length by omega]
end Go.X
namespace Go.X
open Go.Proofs
def jjV:Ann:=fun r=>match r with
 |2=>some fun σ=>{X:=List (Int×Int)×Int,sl:=fun x=>[(4,.dat (.uint .u64) x.2)],ob:=fun x=>[(37,some (.iter .int .int x.1 none))],inv:=fun x=>U.qI (U.jeS (U.tk (gd (.ptr tTk) σ 0)) (gd tPe σ 1)) x.1 x.2,mu:=fun x=>x.1.length}
 |_=>none
abbrev q37_0 (d:Option (CrD×JbD×LwD×Unit)×PeD×Unit):=(jS (((0:Int),[],[],()),((0:Int),(0:Int),(0:Int),(0:Int),(0:Int),(0:Int),()),((0:Int),(0:Int),false,()),()) d.1)
def jh8:Prop:=∀(d:Option (CrD×JbD×LwD×Unit)×PeD×Unit),d.1.isSome=true->U.vu (U.tk d.1)->d.1.isSome=true/\d.1.isSome=true/\(0:Int)<=(q37_0 d).2.1.2.2.2.1/\(q37_0 d).2.1.2.2.2.1<=64/\d.1.isSome=true/\(0:Int)<=(q37_0 d).2.1.2.2.2.2.1/\(q37_0 d).2.1.2.2.2.2.1<=64/\[(0:Int),(1:Int),(2:Int)].Nodup/\∀(l:List (Int×Int)),l.Perm [((0:Int),U.jBE !d.2.1.2.2.2.1.any fun(e:Int)=>decide (e=(q37_0 d).2.1.2.2.1)),((1:Int),va (d.2.1.2.1/(2:Int)^(q37_0 d).2.1.2.2.2.1.toNat) (1:Int)),((2:Int),va (d.2.1.2.2.1/(2:Int)^(q37_0 d).2.1.2.2.2.2.1.toNat) (1:Int))]->(((∃(x:List (Int×Int)×Int),((0=x.2/\True)/\l=x.1/\True)/\U.qI (U.jeS (U.tk d.1) d.2.1) x.1 x.2)/\∀(x:List (Int×Int)×Int),U.qI (U.jeS (U.tk d.1) d.2.1) x.1 x.2->(x.1=[]->(false=true->False)/\(false=false->(x.2,())=(U.wd (U.tk d.1) d.2.1,())))/\∀(pre:List (Int×Int)) (a:Int×Int) (b:List (Int×Int)),x.1=pre++a::b->(true=true->(decide (a.2=0)=true->0<=a.1/\a.1<=64/\(0:Int)<=1*2^a.1.toNat/\(1:Int)*2^a.1.toNat<=18446744073709551615/\∃(c:List (Int×Int)×Int),((uor x.2 ((1:Int)*2^a.1.toNat)=c.2/\True)/\pre++b=c.1/\True)/\U.qI (U.jeS (U.tk d.1) d.2.1) c.1 c.2/\c.1.length<x.1.length)/\(decide (a.2=0)=false->∃(c:List (Int×Int)×Int),((x.2=c.2/\True)/\pre++b=c.1/\True)/\U.qI (U.jeS (U.tk d.1) d.2.1) c.1 c.2/\c.1.length<x.1.length))/\(true=false->(x.2,())=(U.wd (U.tk d.1) d.2.1,())))/\True)/\True
end Go.X
namespace Go.X
open Go.Proofs
theorem js0 (z:Int):va z 1=0\/va z 1=1:=by
 unfold va;rw[BitVec.toNat_and];have a:(BitVec.ofInt 64 1).toNat=1:=rfl;rw[a,Nat.and_one_is_mod];rcases Nat.mod_two_eq_zero_or_one (BitVec.ofInt 64 z).toNat with h|h
 .rw[h];exact .inl rfl
 .rw[h];exact .inr rfl
theorem jsZ (s n:Int):(va (s/2^n.toNat) 1=0)↔(!U.qB s n)=true:=by
 unfold U.qB;rcases js0 (s/2^n.toNat) with h|h<;>rw[h]<;>simp
theorem jx1 (a b c:Bool) (p:Nat):BT.has (U.jtt a b c) p=true↔(a=true/\p=0)\/(b=true/\p=1)\/(c=true/\p=2):=by
 match p with
 |0=>cases a<;>cases b<;>cases c<;>decide
 |1=>cases a<;>cases b<;>cases c<;>decide
 |2=>cases a<;>cases b<;>cases c<;>decide
 |p+3=>
  have h:=ju8 a b c;have:BT.has (U.jtt a b c) (p+3)=false:=by
   cases d:BT.has (U.jtt a b c) (p+3) with
   |false=>rfl
   |true=>have:=BT.has_lt (k:=3) h.1 (by omega) d;omega
  rw[this];simp
theorem jyD (t:TkD) (p:PeD) (k:Nat):(∃e∈U.jeS t p,e.2=0/\e.1.toNat=k)↔BT.has (U.wd t p) k=true:=by
 unfold U.wd;rw[jx1];have c:U.jBE (!U.jaZ p (U.jBG (U.tj t)))=0↔U.jaZ p (U.jBG (U.tj t))=true:=by
  unfold U.jBE;cases U.jaZ p (U.jBG (U.tj t))<;>simp
 have d:=jsZ (U.fd p) (U.jyI (U.tj t));have f:=jsZ (U.cl p) (U.jyG (U.tj t));unfold U.jeS;simp only[jDH,List.not_mem_nil,or_false];rw[<-c,<-d,<-f];constructor
 .rintro⟨e,(rfl|rfl|rfl),a,b⟩
  .exact .inl ⟨a,b.symm⟩
  .exact .inr (.inl ⟨a,b.symm⟩)
  .exact .inr (.inr ⟨a,b.symm⟩)
 .rintro(⟨a,b⟩|⟨a,b⟩|⟨a,b⟩)
  .exact⟨_,.inl rfl,a,b.symm⟩
  .exact⟨_,.inr (.inl rfl),a,b.symm⟩
  .exact⟨_,.inr (.inr rfl),a,b.symm⟩
theorem jyC {t:TkD} {p:PeD} {e:Int×Int} (h:e∈U.jeS t p):0<=e.1/\e.1<=2:=by
 unfold U.jeS at h;simp only[jDH,List.not_mem_nil,or_false] at h;rcases h with rfl|rfl|rfl<;>simp
theorem jt2 (t:TkD) (p:PeD):(U.jeS t p).Nodup:=by
 unfold U.jeS;simp
theorem jr5 {t:TkD} {p:PeD} {l:List (Int×Int)} (h:l.Perm (U.jeS t p)):U.qI (U.jeS t p) l 0:=by
 refine⟨BT.zero_set,h.symm.nodup (jt2 t p),fun e c=>h.mem_iff.1 c,fun k=> ?_⟩;rw[BT.has_zero];constructor
 .intro h;cases h
 .rintro⟨e,a,b,_⟩;exact absurd (h.mem_iff.2 a) b
theorem juM {t:TkD} {p:PeD} {s:Int} (h:U.qI (U.jeS t p) [] s):s=U.wd t p:=by
 obtain⟨a,_,_,c⟩:=h;refine BT.ext a (jn9 (by have:=jpJ t p;omega)) (fun k=> ?_);rw[jEk,c,<-jyD];constructor
 .rintro⟨e,a,_,b⟩;exact⟨e,a,b⟩
 .rintro⟨e,a,b⟩;exact⟨e,a,by simp,b⟩
theorem jlI {all pre a:List (Int×Int)} {e:Int×Int} {s j:Int} (h:U.qI all (pre++e::a) s) (p:BT.Set' j) (hk:∀k,BT.has j k=true↔BT.has s k=true\/(e.2=0/\e.1.toNat=k)):U.qI all (pre++a) j:=by
 obtain⟨q,m,l,n⟩:=h;have i:(e::(pre++a)).Nodup:=List.perm_middle.nodup m;have b:∀x,x∈pre++e::a↔x=e\/x∈pre++a:=fun x=>by rw[List.perm_middle.mem_iff,jDH]
 rw[jEu] at i;refine⟨p,i.2,fun x c=>l x ((b x).2 (.inr c)),fun k=> ?_⟩;rw[hk,n];constructor
 .rintro(⟨x,d,f,g⟩|⟨d,f⟩)
  .exact⟨x,d,fun c=>f ((b x).2 (.inr c)),g⟩
  .exact⟨e,l e ((b e).2 (.inl rfl)),i.1,d,f⟩
 .rintro⟨x,d,f,g⟩;by_cases c:x=e
  .subst c;exact .inr g
  .exact .inl ⟨x,d,fun o=>by rcases(b x).1 o with h|h;exact c h;exact f h,g⟩
theorem jku:jh8:=by
 unfold jh8 q37_0;rintro⟨(_|t),p,⟨⟩⟩ s d
 .cases s
 have d:U.vu t:=d;have r:U.tk (some t)=t:=rfl;obtain⟨c1,c2,_⟩:=id d;obtain⟨_,_,_,⟨m,o⟩,⟨n,q⟩,_⟩:=jeU c2;have m:0<=t.2.1.2.2.2.1:=m;have o:t.2.1.2.2.2.1<=7:=o;have n:0<=t.2.1.2.2.2.2.1:=n;have q:t.2.1.2.2.2.2.1<=3:=q;refine⟨rfl,rfl,m,by simp only[jS];omega,rfl,n,by simp only[jS];omega,by decide,fun l w=>⟨⟨⟨⟨(l,0),⟨⟨rfl,trivial⟩,rfl,trivial⟩,jr5 w⟩,fun x b=>⟨fun h=>⟨fun h=>(by cases h),fun _=> ?_⟩,fun pre e a h=>⟨fun _=> ?_,fun h=>(by cases h)⟩⟩⟩,trivial⟩,trivial⟩⟩
 .rw[h] at b;rw[juM b]
 .rw[h] at b;have u:e∈U.jeS t p:=b.2.2.1 e (by simp);have hk:=jyC u;obtain⟨k,g,v⟩:∃k:Nat,e.1=(k:Int)/\k<=2:=⟨e.1.toNat,by omega,by omega⟩;have y:(1:Int)*2^k=2^k:=Int.one_mul _;have c:(pre++a).length<x.1.length:=(by rw[h];simp);have i:BT.Set' ((2:Int)^k):=BT.two_set (by omega);refine⟨fun f=> ?_,fun f=> ?_⟩
  .have f:e.2=0:=of_decide_eq_true f;rw[g,jDN,y];refine⟨by omega,by omega,by unfold BT.Set' at i;omega,by unfold BT.Set' at i;omega,(pre++a,uor x.2 (2^k)),⟨⟨rfl,trivial⟩,rfl,trivial⟩,jlI b (BT.uor_set b.1 i) (fun j=> ?_),c⟩;rw[BT.has_uor b.1 i,BT.has_two,jE1,decide_eq_true_eq,g,jDN];simp[f]
  .have f:¬e.2=0:=of_decide_eq_false f;exact⟨(pre++a,x.2),⟨⟨rfl,trivial⟩,rfl,trivial⟩,jlI b b.1 (fun j=>by simp[f]),c⟩
theorem jbj:zh PR 118 kd:=wt jjV jku Tryz.func118 (kcC vW (kcC jtP kcN)) koN
theorem jpz:(jpV 64 [(118,kd),(156,kW),(157,kV)] [] [(155,jA)] []).ok PR:=jrR ⟨fun _=>jbj,fun _=>jmu,fun _=>jmt,trivial⟩ trivial ⟨yJ,trivial⟩ trivial
theorem jhn:zh PR 122 jao:=
 jvF (body:=zz Tryz.f122) (C:=jpV 64 [(118,kd),(156,kW),(157,kV)] [] [(155,jA)] []) (hk:=hkC (jpV 64 [(118,kd),(156,kW),(157,kV)] [] [(155,jA)] []) (fun _=>none) jij [] []) jpz mixed Tryz.func122 (by kernel_rfl) (by kernel_rfl) (by kernel_rfl) (by decide)
  (fun B=>jlp jpz mixed (fun k ts rs sv d L v ρ hk c a b=>by
   unfold jij at hk
   split at hk
   case h_2=>cases hk
   simp only[Option.some.injEq] at hk
   cases hk
   exact joU c a b) jAI B) (jcR.mpr jjj)
theorem jqZ:zh PR 81 jql:=jM jt6 Tryz.func81 (kcC jv2 (kcC jhn kcN)) koN
theorem jyn:zh PR 79 jx4:=wt jzn jAW Tryz.func79 (kcC jox (kcC jbj kcN)) koN
end Go.X
namespace Go.X
namespace U
def gj (a b:Int):Int:=if a<b then-1 else if b<a then 1 else 0
def k8 (l:List Int):Int:=match l.find? (fun n=>decide (n≠0)) with|some n=>n|none=>0
end U
structure jaQ {α:Type} (c:α->α->Int):Prop where
 anti:∀a b,c b a= -(c a b)
 trans:∀a b d,c a b<=0->c b d<=0->c a d<=0
section
variable {α:Type} {c c1 c2:α->α->Int}
theorem jaQ.refl (h:jaQ c) (a:α):c a a=0:=by have:=h.anti a a;omega
theorem jaQ.lt_le (h:jaQ c) {a b d:α} (g:c a b<0) (f:c b d<=0):c a d<0:=by
 have i:=h.trans a b d (by omega) f;have j:=h.anti a d;have k:=h.anti a b;by_cases e:c a d=0
 .have:=h.trans b d a f (by omega);omega
 .omega
theorem jaQ.le_lt (h:jaQ c) {a b d:α} (f:c a b<=0) (g:c b d<0):c a d<0:=by
 have i:=h.trans a b d f (by omega);have j:=h.anti a d;have k:=h.anti b d;by_cases e:c a d=0
 .have:=h.trans d a b (by omega) f;omega
 .omega
theorem jaQ.eq_eq (h:jaQ c) {a b d:α} (e:c a b=0) (f:c b d=0):c a d=0:=by
 have g:=h.trans a b d (by omega) (by omega);have i:=h.anti a d;have j:=h.anti a b;have k:=h.anti b d;have:=h.trans d b a (by omega) (by omega);omega
def jxS (c1 c2:α->α->Int) (a b:α):Int:=if c1 a b≠0 then c1 a b else c2 a b
theorem jf6 (c:jaQ c1) (g:jaQ c2):jaQ (jxS c1 c2) where
 anti a b:=by
  have i:=c.anti a b;have h:=g.anti a b;unfold jxS;by_cases e:c1 a b=0
  .rw[if_neg (by omega),if_neg (by omega)];exact h
  .rw[if_pos (by omega),if_pos e];exact i
 trans a b d:=by
  unfold jxS;by_cases e:c1 a b=0
  .rw[if_neg (by omega)];by_cases f:c1 b d=0
   .rw[if_neg (by omega),if_neg (by have:=c.eq_eq e f;omega)];exact g.trans a b d
   .rw[if_pos f];intro _ k;have:=c.le_lt (a:=a) (b:=b) (d:=d) (by omega) (by omega);rw[if_pos (by omega)];omega
  .rw[if_pos e];intro k;by_cases f:c1 b d=0
   .rw[if_neg (by omega)];intro _;have:=c.lt_le (a:=a) (b:=b) (d:=d) (by omega) (by omega);rw[if_pos (by omega)];omega
   .rw[if_pos f];intro h;have:=c.lt_le (a:=a) (b:=b) (d:=d) (by omega) (by omega);rw[if_pos (by omega)];omega
theorem jgG {e:Type} (h:jaQ c) (f:e->α):jaQ (fun a b=>c (f a) (f b)):=⟨fun a b=>h.anti (f a) (f b),fun a b d=>h.trans (f a) (f b) (f d)⟩
end
theorem jfi:jaQ U.gj:=by
 constructor
 .intro a b;unfold U.gj;split<;>split<;>(try split)<;>(try split)<;>omega
 .intro a b d;unfold U.gj;split<;>split<;>(try split)<;>(try split)<;>(try split)<;>(try split)<;>omega
theorem jrT {a b:Int}:U.gj a b<0↔a<b:=by
 unfold U.gj
 split
 .simp;omega
 .split<;>simp<;>omega
theorem qX {a b:Int}:U.gj a b=0↔a=b:=by
 unfold U.gj
 split
 .simp;omega
 .split
  .simp;omega
  .simp;omega
theorem j0 (x:Int) (l:List Int):U.k8 (x::l)=if x≠0 then x else U.k8 l:=by
 unfold U.k8;by_cases e:x=0
 .simp[List.find?,e]
 .simp[List.find?,e]
theorem kO (x:Int):U.k8 [x]=x:=by
 rw[j0]
 split
 .rfl
 .rename_i h;have:x=0:=(by omega);rw[this];rfl
theorem jmq {t:Ty} {c:t.Data->t.Data->Int} (d:jaQ c) {l:List t.Data} (h:∀x y,x∈l->y∈l->c x y=0->x=y):kh (U.jd t fun x=>(c x.1 x.2.1,())) l where
 irrefl x _:=by
  unfold U.jd;have:=d.refl x;simp only[this];rfl
 trans x y z _ _ _ b a:=by
  unfold U.jd at*;have b:=of_decide_eq_true b;have a:=of_decide_eq_true a;exact decide_eq_true (d.lt_le b (by have a:c y z<0:=a;show c y z<=0;omega))
 total x y hx hy b a:=by
  unfold U.jd at*;have b:¬c x y<0:=of_decide_eq_false b;have a:¬c y x<0:=of_decide_eq_false a;have:=d.anti x y;exact h x y hx hy (by omega)
end Go.X
namespace Go.X
namespace M
theorem mput_cons {kt:Ty} {a:Type} (k:kt.Data) (v:a) (e:kt.Data×a) (r:List (kt.Data×a)):jdq kt k v (e::r)=if @decide (k=e.1) (kt.decEq k e.1)=true then(k,v)::r else e::jdq kt k v r:=rfl
theorem mfind_cons {kt:Ty} {a:Type} (k:kt.Data) (e:kt.Data×a) (r:List (kt.Data×a)):zt kt k (e::r)=if @decide (k=e.1) (kt.decEq k e.1)=true then some e.2 else zt kt k r:=rfl
theorem dec_self {kt:Ty} (k:kt.Data): @decide (k=k) (kt.decEq k k)=true:= @decide_eq_true _ (kt.decEq k k) rfl
theorem mput_fst {kt:Ty} {b:Type} (k:kt.Data) (v:b):∀m:List (kt.Data×b),(jdq kt k v m).map (·.1)=m.map (·.1)\/(k∉m.map (·.1)/\(jdq kt k v m).map (·.1)=m.map (·.1)++[k])
 |[]=> .inr ⟨by simp,rfl⟩
 |e::r=>by
  rw[mput_cons]
  by_cases h: @decide (k=e.1) (kt.decEq k e.1)=true
  .rw[if_pos h]
   have h:k=e.1:= @of_decide_eq_true _ (kt.decEq k e.1) h
   left
   simp[h]
  .rw[if_neg h]
   have h:¬k=e.1:=fun a=>h (@decide_eq_true _ (kt.decEq k e.1) a)
   rcases mput_fst k v r with f|⟨c,d⟩
   .left;simp only[jEH,f]
   .right
    refine⟨?_,by simp only[jEH,d,jD4]⟩
    rw[jEH,jDH]
    rintro(a|a)
    .exact h a
    .exact c a
theorem mfind_mput {kt:Ty} {a:Type} (k:kt.Data) (v:a):∀l:List (kt.Data×a),zt kt k (jdq kt k v l)=some v
 |[]=>by
  rw[show jdq kt k v []=[(k,v)] from rfl,mfind_cons,if_pos (dec_self k)]
 |e::r=>by
  rw[mput_cons]
  by_cases h: @decide (k=e.1) (kt.decEq k e.1)=true
  .rw[if_pos h,mfind_cons,if_pos (dec_self k)]
  .rw[if_neg h,mfind_cons,if_neg h]
   exact mfind_mput k v r
theorem mfind_mput_ne {kt:Ty} {b:Type} {k k':kt.Data} (a:k'≠k) (v:b):∀l:List (kt.Data×b),zt kt k' (jdq kt k v l)=zt kt k' l
 |[]=>by
  rw[show jdq kt k v []=[(k,v)] from rfl,mfind_cons,if_neg (fun e=>a (@of_decide_eq_true _ (kt.decEq k' k) e))]
 |e::r=>by
  rw[mput_cons]
  by_cases h: @decide (k=e.1) (kt.decEq k e.1)=true
  .rw[if_pos h]
   have h:k=e.1:= @of_decide_eq_true _ (kt.decEq k e.1) h
   have d:¬@decide (k'=e.1) (kt.decEq k' e.1)=true:=fun c=>a ((@of_decide_eq_true _ (kt.decEq k' e.1) c).trans h.symm)
   rw[mfind_cons,mfind_cons,if_neg d,if_neg (fun e=>a (@of_decide_eq_true _ (kt.decEq k' k) e))]
  .rw[if_neg h,mfind_cons,mfind_cons,mfind_mput_ne a v r]
end M
end Go.X
namespace Go.Proofs
open Go.Shelf
def Tryz.sortSh_ren:Go.Shelf.Ren:=⟨fun|6=>98|15=>143|14=>142|28=>175|29=>176|20=>167|21=>168|22=>169|23=>170|24=>171|25=>172|26=>173|27=>174|46=>195|47=>196|48=>197|49=>198|50=>199|57=>212|n=>n,fun|22=>28|24=>54|25=>128|3=>3|39=>95|0=>0|53=>188|55=>190|4=>4|46=>181|45=>180|50=>185|5=>5|9=>9|66=>203|70=>207|76=>218|77=>219|n=>n,fun|n=>n⟩
theorem Tryz.sortSh:Go.Proofs.SlLaysF0.n6 Tryz.prog Tryz.sortSh_ren:={
 mixed:=by kernel_rfl
 f6:=⟨Tryz.f98.name,by decide,Tryz.func98.trans (congrArg some (by kernel_rfl))⟩
 f14:=⟨Tryz.f142.name,by decide,Tryz.func142.trans (congrArg some (by kernel_rfl))⟩
 f15:=Tryz.func143.trans (congrArg some (by kernel_rfl))
 f20:=⟨Tryz.f167.name,by decide,Tryz.func167.trans (congrArg some (by kernel_rfl))⟩
 f21:=⟨Tryz.f168.name,by decide,Tryz.func168.trans (congrArg some (by kernel_rfl))⟩
 f22:=⟨Tryz.f169.name,by decide,Tryz.func169.trans (congrArg some (by kernel_rfl))⟩
 f23:=⟨Tryz.f170.name,by decide,Tryz.func170.trans (congrArg some (by kernel_rfl))⟩
 f24:=⟨Tryz.f171.name,by decide,Tryz.func171.trans (congrArg some (by kernel_rfl))⟩
 f25:=⟨Tryz.f172.name,by decide,Tryz.func172.trans (congrArg some (by kernel_rfl))⟩
 f26:=⟨Tryz.f173.name,by decide,Tryz.func173.trans (congrArg some (by kernel_rfl))⟩
 f27:=⟨Tryz.f174.name,by decide,Tryz.func174.trans (congrArg some (by kernel_rfl))⟩
 f28:=Tryz.func175.trans (congrArg some (by kernel_rfl))
 f29:=Tryz.func176.trans (congrArg some (by kernel_rfl))
 f46:=⟨Tryz.f195.name,by decide,Tryz.func195.trans (congrArg some (by kernel_rfl))⟩
 f47:=Tryz.func196.trans (congrArg some (by kernel_rfl))
 f48:=Tryz.func197.trans (congrArg some (by kernel_rfl))
 f49:=⟨Tryz.f198.name,by decide,Tryz.func198.trans (congrArg some (by kernel_rfl))⟩
 f50:=⟨Tryz.f199.name,by decide,Tryz.func199.trans (congrArg some (by kernel_rfl))⟩
 f57:=⟨Tryz.f212.name,by decide,Tryz.func212.trans (congrArg some (by kernel_rfl))⟩
 t0:=Tryz.underlying0
 a0:=Tryz.isAgg0
 z0:=Tryz.sizeOf0
 v0:=Tryz.zeroValue0
 t3:=Tryz.underlying3
 a3:=Tryz.isAgg3
 z3:=Tryz.sizeOf3
 v3:=Tryz.zeroValue3
 t4:=Tryz.underlying4
 a4:=Tryz.isAgg4
 z4:=Tryz.sizeOf4
 v4:=Tryz.zeroValue4
 t5:=Tryz.underlying5
 a5:=Tryz.isAgg5
 z5:=Tryz.sizeOf5
 v5:=Tryz.zeroValue5
 t9:=Tryz.underlying9
 a9:=Tryz.isAgg9
 z9:=Tryz.sizeOf9
 v9:=Tryz.zeroValue9
 t22:=Tryz.underlying28
 a22:=Tryz.isAgg28
 z22:=Tryz.sizeOf28
 v22:=Tryz.zeroValue28
 t25:=Tryz.underlying128
 a25:=Tryz.isAgg128
 z25:=Tryz.sizeOf128
 v25:=Tryz.zeroValue128
 t39:=Tryz.underlying95
 a39:=Tryz.isAgg95
 z39:=Tryz.sizeOf95
 v39:=Tryz.zeroValue95
 t45:=Tryz.underlying180
 a45:=Tryz.isAgg180
 z45:=Tryz.sizeOf180
 v45:=Tryz.zeroValue180
 t46:=Tryz.underlying181
 a46:=Tryz.isAgg181
 z46:=Tryz.sizeOf181
 v46:=Tryz.zeroValue181
 t50:=Tryz.underlying185
 a50:=Tryz.isAgg185
 z50:=Tryz.sizeOf185
 v50:=Tryz.zeroValue185
 t53:=Tryz.underlying188
 a53:=Tryz.isAgg188
 z53:=Tryz.sizeOf188
 v53:=Tryz.zeroValue188
 t55:=Tryz.underlying190
 a55:=Tryz.isAgg190
 z55:=Tryz.sizeOf190
 v55:=Tryz.zeroValue190
 t66:=Tryz.underlying203
 a66:=Tryz.isAgg203
 z66:=Tryz.sizeOf203
 v66:=Tryz.zeroValue203
 t70:=Tryz.underlying207
 a70:=Tryz.isAgg207
 z70:=Tryz.sizeOf207
 v70:=Tryz.zeroValue207
 t76:=Tryz.underlying218
 a76:=Tryz.isAgg218
 z76:=Tryz.sizeOf218
 v76:=Tryz.zeroValue218
 t77:=Tryz.underlying219
 a77:=Tryz.isAgg219
 z77:=Tryz.sizeOf219
 v77:=Tryz.zeroValue219}
def Tryz.sortI_ren:Go.Shelf.Ren:=⟨fun|189=>120|125=>143|257=>154|128=>175|129=>176|294=>180|295=>181|296=>182|297=>183|298=>184|299=>185|216=>186|300=>187|301=>188|328=>208|329=>196|330=>197|331=>209|332=>210|215=>144|343=>216|n=>n,fun|28=>33|3=>3|46=>95|0=>0|51=>188|53=>190|4=>4|183=>181|182=>180|131=>185|5=>5|9=>9|218=>203|222=>207|228=>218|229=>219|n=>n,fun|n=>n⟩
theorem Tryz.sortI:Go.Proofs.Lays.n189 Tryz.prog Tryz.sortI_ren:={
 mixed:=by kernel_rfl
 f125:=Tryz.func143.trans (congrArg some (by kernel_rfl))
 f128:=Tryz.func175.trans (congrArg some (by kernel_rfl))
 f129:=Tryz.func176.trans (congrArg some (by kernel_rfl))
 f189:=Tryz.func120.trans (congrArg some (by kernel_rfl))
 f215:=Tryz.func144.trans (congrArg some (by kernel_rfl))
 f216:=Tryz.func186.trans (congrArg some (by kernel_rfl))
 f257:=Tryz.func154.trans (congrArg some (by kernel_rfl))
 f294:=Tryz.func180.trans (congrArg some (by kernel_rfl))
 f295:=Tryz.func181.trans (congrArg some (by kernel_rfl))
 f296:=Tryz.func182.trans (congrArg some (by kernel_rfl))
 f297:=Tryz.func183.trans (congrArg some (by kernel_rfl))
 f298:=Tryz.func184.trans (congrArg some (by kernel_rfl))
 f299:=Tryz.func185.trans (congrArg some (by kernel_rfl))
 f300:=Tryz.func187.trans (congrArg some (by kernel_rfl))
 f301:=Tryz.func188.trans (congrArg some (by kernel_rfl))
 f328:=Tryz.func208.trans (congrArg some (by kernel_rfl))
 f329:=Tryz.func196.trans (congrArg some (by kernel_rfl))
 f330:=Tryz.func197.trans (congrArg some (by kernel_rfl))
 f331:=Tryz.func209.trans (congrArg some (by kernel_rfl))
 f332:=Tryz.func210.trans (congrArg some (by kernel_rfl))
 f343:=Tryz.func216.trans (congrArg some (by kernel_rfl))
 t0:=Tryz.underlying0
 a0:=Tryz.isAgg0
 z0:=Tryz.sizeOf0
 v0:=Tryz.zeroValue0
 t3:=Tryz.underlying3
 a3:=Tryz.isAgg3
 z3:=Tryz.sizeOf3
 v3:=Tryz.zeroValue3
 t4:=Tryz.underlying4
 a4:=Tryz.isAgg4
 z4:=Tryz.sizeOf4
 v4:=Tryz.zeroValue4
 t5:=Tryz.underlying5
 a5:=Tryz.isAgg5
 z5:=Tryz.sizeOf5
 v5:=Tryz.zeroValue5
 t9:=Tryz.underlying9
 a9:=Tryz.isAgg9
 z9:=Tryz.sizeOf9
 v9:=Tryz.zeroValue9
 t28:=Tryz.underlying33
 a28:=Tryz.isAgg33
 z28:=Tryz.sizeOf33
 v28:=Tryz.zeroValue33
 t46:=Tryz.underlying95
 a46:=Tryz.isAgg95
 z46:=Tryz.sizeOf95
 v46:=Tryz.zeroValue95
 t51:=Tryz.underlying188
 a51:=Tryz.isAgg188
 z51:=Tryz.sizeOf188
 v51:=Tryz.zeroValue188
 t53:=Tryz.underlying190
 a53:=Tryz.isAgg190
 z53:=Tryz.sizeOf190
 v53:=Tryz.zeroValue190
 t131:=Tryz.underlying185
 a131:=Tryz.isAgg185
 z131:=Tryz.sizeOf185
 v131:=Tryz.zeroValue185
 t182:=Tryz.underlying180
 a182:=Tryz.isAgg180
 z182:=Tryz.sizeOf180
 v182:=Tryz.zeroValue180
 t183:=Tryz.underlying181
 a183:=Tryz.isAgg181
 z183:=Tryz.sizeOf181
 v183:=Tryz.zeroValue181
 t218:=Tryz.underlying203
 a218:=Tryz.isAgg203
 z218:=Tryz.sizeOf203
 v218:=Tryz.zeroValue203
 t222:=Tryz.underlying207
 a222:=Tryz.isAgg207
 z222:=Tryz.sizeOf207
 v222:=Tryz.zeroValue207
 t228:=Tryz.underlying218
 a228:=Tryz.isAgg218
 z228:=Tryz.sizeOf218
 v228:=Tryz.zeroValue218
 t229:=Tryz.underlying219
 a229:=Tryz.isAgg219
 z229:=Tryz.sizeOf219
 v229:=Tryz.zeroValue219}
end Go.Proofs
namespace Go.X
open Go.Proofs
abbrev rwS:Sh:= .cl (.row 54 tSh .unk)
namespace U
def jgI (s:SpD):Bool:=(decide (0<=lo s)&&decide (lo s<=hi s))&&decide (hi s<=300)
def jiT (n:Nat) (b:BkD):Bool:=((ja (jBj b) 0 ((n:Int)-1)&&decide (0<=jdM b))&&decide (jdM b<jzj b))&&decide (jzj b<=1440)
def joM (nb a:Nat) (s:ShD):Bool:=(((ja (zX s) 0 99&&ja (jnl s) 0 9999)&&ja (jx7 s) 1 2)&&ja (jix s) 0 ((nb:Int)-1))&&ja (vS s) 0 ((a:Int)-1)
def wX (a b:ShD):Int:=k8 [gj (zX a) (zX b),gj (jnl a) (jnl b),gj (jx7 a) (jx7 b),gj (jix a) (jix b),gj (vS a) (vS b)]
def jo (a b:ShD):Int:=k8 [gj (jnl a) (jnl b),gj (zX a) (zX b)]
def kP (a b:ShD):Bool:=decide (a=b)
def jH (l:List ShD):List ShD:=qF kP (jc (jd tSh fun x=>(wX x.1 x.2.1,())) l)
def jcb (m:List (Int×Int)) (s:ShD):List (Int×Int):=jdq .int (zX s) (kr 0 (zt .int (zX s) m)+1) m
def kA (m:List (Int×Int)) (l:List ShD) (n:Nat):List (Int×Int):=(l.take n).foldl jcb m
def js5 (m:List (Int×Int)) (s:ShD):Bool:=decide (1<kr 0 (zt .int (zX s) (jcb m s)))
def jft (m:List (Int×Int)) (l:List ShD) (i:Nat):Bool:=js5 (kA m l i) (nth l i)
def jbP (m:List (Int×Int)) (l:List ShD):Int:=gw (jft m l) (List.range l.length)
def jxI (m:List (Int×Int)) (l:List ShD):Nat:=match(List.range l.length).findIdx? (jft m l) with|some i=>i+1|none=>l.length
def jdI (m:List (Int×Int)) (l:List ShD):List (Int×Int):=kA m l (jxI m l)
def jCr (m:List (Int×Int)):Prop:=m=[]
def jvo (m:List (Int×Int)):Prop:=∀k,0<=kr 0 (zt .int k m)/\kr 0 (zt .int k m)<=200000
def jrI (l:List ShD):Bool:=decide (0<=jbP [] l)
def jjQ (d:DyD):Int:=if jr (jf d)=false then 30 else if jwy d=false then 31 else 0
def jw (d:DyD):Int:=if jjQ d≠0 then jjQ d else if zi d=false then 50 else if jrI (jH (zv d))=true then 51 else 0
end U
def jqm:jR:=⟨[.val .int,.val .int,.val .int],[.bool],false,fun _=>[],fun d=>(U.ja d.1 d.2.1 d.2.2.1,())⟩
def jp2:Prop:=∀(d:Int×Int×Int×Unit),(decide (d.2.1<=d.1)&&decide (d.1<=d.2.2.1),())=(U.ja d.1 d.2.1 d.2.2.1,())
def jck:jR:=⟨[.val (.slice tSp),.fn [tSp] [.bool]],[.int],false,fun d=>[∀g∈d.1,U.jx (d.2.1.pre (g,()))],fun d=>(U.gw (U.jb (α:=SpD) d.2.1.F) d.1,())⟩
def jcy:Ann:=fun r=>match r with
 |2=>some fun σ=>{X:=Nat,sl:=fun i=>[(8,.dat .int (i:Int))],ob:=fun _=>[],inv:=fun i=>i<=(gd (.slice tSp) σ 0).length/\∀b:Nat,b<i->U.jb (gfb tSp σ 1) (nth (gd (.slice tSp) σ 0) b)=false,mu:=fun i=>(gd (.slice tSp) σ 0).length-i}
 |_=>none
def jcg:Prop:=∀(d:List (Int×Int×Unit)×FnD [tSp] [Ty.bool]×Unit),(∀(g:Int×Int×Unit),g∈d.1->U.jx (d.2.1.1 (g,())))->d.1.length<4611686018427387904->(∃(x:Nat),((0=(x:Int)/\True)/\True)/\x<=d.1.length/\∀(b:Nat),b<x->U.jb d.2.1.2 (nth d.1 b)=false)/\∀(x:Nat),(x<=d.1.length/\∀(b:Nat),b<x->U.jb d.2.1.2 (nth d.1 b)=false)->(decide ((x:Int)<(d.1.length:Int))=true->0<=(x:Int)/\(x:Int)<(d.1.length:Int)/\asks (d.2.1.1 (nth d.1 (x:Int).toNat,())) (((d.2.1.2 (nth d.1 (x:Int).toNat,())).1=true->((x:Int),())=(U.gw (U.jb d.2.1.2) d.1,()))/\((d.2.1.2 (nth d.1 (x:Int).toNat,())).1=false->jC ((x:Int)+1)/\∃(a:Nat),(((x:Int)+1=(a:Int)/\True)/\True)/\(a<=d.1.length/\∀(b:Nat),b<a->U.jb d.2.1.2 (nth d.1 b)=false)/\d.1.length-a<d.1.length-x)))/\(decide ((x:Int)<(d.1.length:Int))=false->((-1:Int),())=(U.gw (U.jb d.2.1.2) d.1,()))
def gH:jR:=⟨[.val (.slice tSp),.fn [tSp] [.bool]],[.bool],false,fun d=>[∀g∈d.1,U.jx (d.2.1.pre (g,()))],fun d=>(d.1.any (U.jb (α:=SpD) d.2.1.F),())⟩
def gE:Prop:=∀(d:List (Int×Int×Unit)×FnD [tSp] [Ty.bool]×Unit),(∀(g:Int×Int×Unit),g∈d.1->U.jx (d.2.1.1 (g,())))->(∀(g:Int×Int×Unit),g∈d.1->U.jx (d.2.1.1 (g,())))/\(decide (0<=U.gw (U.jb d.2.1.2) d.1),())=(d.1.any (U.jb d.2.1.2),())
def ja4:jR:=⟨[.val (.slice (.slice tSp)),.fn [(.slice tSp)] [.bool]],[.int],false,fun d=>[∀g∈d.1,U.jx (d.2.1.pre (g,()))],fun d=>(U.gw (U.jb (α:=(List SpD)) d.2.1.F) d.1,())⟩
def jbL:Ann:=fun r=>match r with
 |2=>some fun σ=>{X:=Nat,sl:=fun i=>[(8,.dat .int (i:Int))],ob:=fun _=>[],inv:=fun i=>i<=(gd (.slice (.slice tSp)) σ 0).length/\∀b:Nat,b<i->U.jb (gfb (.slice tSp) σ 1) (nth (gd (.slice (.slice tSp)) σ 0) b)=false,mu:=fun i=>(gd (.slice (.slice tSp)) σ 0).length-i}
 |_=>none
def jaV:Prop:=∀(d:List (List (Int×Int×Unit))×FnD [tSp.slice] [Ty.bool]×Unit),(∀(g:List (Int×Int×Unit)),g∈d.1->U.jx (d.2.1.1 (g,())))->d.1.length<4611686018427387904->(∃(x:Nat),((0=(x:Int)/\True)/\True)/\x<=d.1.length/\∀(b:Nat),b<x->U.jb d.2.1.2 (nth d.1 b)=false)/\∀(x:Nat),(x<=d.1.length/\∀(b:Nat),b<x->U.jb d.2.1.2 (nth d.1 b)=false)->(decide ((x:Int)<(d.1.length:Int))=true->0<=(x:Int)/\(x:Int)<(d.1.length:Int)/\asks (d.2.1.1 (nth d.1 (x:Int).toNat,())) (((d.2.1.2 (nth d.1 (x:Int).toNat,())).1=true->((x:Int),())=(U.gw (U.jb d.2.1.2) d.1,()))/\((d.2.1.2 (nth d.1 (x:Int).toNat,())).1=false->jC ((x:Int)+1)/\∃(a:Nat),(((x:Int)+1=(a:Int)/\True)/\True)/\(a<=d.1.length/\∀(b:Nat),b<a->U.jb d.2.1.2 (nth d.1 b)=false)/\d.1.length-a<d.1.length-x)))/\(decide ((x:Int)<(d.1.length:Int))=false->((-1:Int),())=(U.gw (U.jb d.2.1.2) d.1,()))
def yA:jR:=⟨[.val (.slice (.slice tSp)),.fn [(.slice tSp)] [.bool]],[.bool],false,fun d=>[∀g∈d.1,U.jx (d.2.1.pre (g,()))],fun d=>(d.1.any (U.jb (α:=(List SpD)) d.2.1.F),())⟩
def yw:Prop:=∀(d:List (List (Int×Int×Unit))×FnD [tSp.slice] [Ty.bool]×Unit),(∀(g:List (Int×Int×Unit)),g∈d.1->U.jx (d.2.1.1 (g,())))->(∀(g:List (Int×Int×Unit)),g∈d.1->U.jx (d.2.1.1 (g,())))/\(decide (0<=U.gw (U.jb d.2.1.2) d.1),())=(d.1.any (U.jb d.2.1.2),())
def gG:jR:=⟨[.val (.slice tBk),.fn [tBk] [.bool]],[.int],false,fun d=>[∀g∈d.1,U.jx (d.2.1.pre (g,()))],fun d=>(U.gw (U.jb (α:=BkD) d.2.1.F) d.1,())⟩
def jah:Ann:=fun r=>match r with
 |2=>some fun σ=>{X:=Nat,sl:=fun i=>[(8,.dat .int (i:Int))],ob:=fun _=>[],inv:=fun i=>i<=(gd (.slice tBk) σ 0).length/\∀b:Nat,b<i->U.jb (gfb tBk σ 1) (nth (gd (.slice tBk) σ 0) b)=false,mu:=fun i=>(gd (.slice tBk) σ 0).length-i}
 |_=>none
def gD:Prop:=∀(d:List BkD×FnD [tBk] [Ty.bool]×Unit),(∀(g:BkD),g∈d.1->U.jx (d.2.1.1 (g,())))->d.1.length<4611686018427387904->(∃(x:Nat),((0=(x:Int)/\True)/\True)/\x<=d.1.length/\∀(b:Nat),b<x->U.jb d.2.1.2 (nth d.1 b)=false)/\∀(x:Nat),(x<=d.1.length/\∀(b:Nat),b<x->U.jb d.2.1.2 (nth d.1 b)=false)->(decide ((x:Int)<(d.1.length:Int))=true->0<=(x:Int)/\(x:Int)<(d.1.length:Int)/\asks (d.2.1.1 (nth d.1 (x:Int).toNat,())) (((d.2.1.2 (nth d.1 (x:Int).toNat,())).1=true->((x:Int),())=(U.gw (U.jb d.2.1.2) d.1,()))/\((d.2.1.2 (nth d.1 (x:Int).toNat,())).1=false->jC ((x:Int)+1)/\∃(a:Nat),(((x:Int)+1=(a:Int)/\True)/\True)/\(a<=d.1.length/\∀(b:Nat),b<a->U.jb d.2.1.2 (nth d.1 b)=false)/\d.1.length-a<d.1.length-x)))/\(decide ((x:Int)<(d.1.length:Int))=false->((-1:Int),())=(U.gw (U.jb d.2.1.2) d.1,()))
def vI:jR:=⟨[.val (.slice tBk),.fn [tBk] [.bool]],[.bool],false,fun d=>[∀g∈d.1,U.jx (d.2.1.pre (g,()))],fun d=>(d.1.any (U.jb (α:=BkD) d.2.1.F),())⟩
def vH:Prop:=∀(d:List BkD×FnD [tBk] [Ty.bool]×Unit),(∀(g:BkD),g∈d.1->U.jx (d.2.1.1 (g,())))->(∀(g:BkD),g∈d.1->U.jx (d.2.1.1 (g,())))/\(decide (0<=U.gw (U.jb d.2.1.2) d.1),())=(d.1.any (U.jb d.2.1.2),())
def ja5:jR:=⟨[.val (.slice tSh),.fn [tSh] [.bool]],[.int],false,fun d=>[∀g∈d.1,U.jx (d.2.1.pre (g,()))],fun d=>(U.gw (U.jb (α:=ShD) d.2.1.F) d.1,())⟩
def jbM:Ann:=fun r=>match r with
 |2=>some fun σ=>{X:=Nat,sl:=fun i=>[(8,.dat .int (i:Int))],ob:=fun _=>[],inv:=fun i=>i<=(gd (.slice tSh) σ 0).length/\∀b:Nat,b<i->U.jb (gfb tSh σ 1) (nth (gd (.slice tSh) σ 0) b)=false,mu:=fun i=>(gd (.slice tSh) σ 0).length-i}
 |_=>none
def jaW:Prop:=∀(d:List ShD×FnD [tSh] [Ty.bool]×Unit),(∀(g:ShD),g∈d.1->U.jx (d.2.1.1 (g,())))->d.1.length<4611686018427387904->(∃(x:Nat),((0=(x:Int)/\True)/\True)/\x<=d.1.length/\∀(b:Nat),b<x->U.jb d.2.1.2 (nth d.1 b)=false)/\∀(x:Nat),(x<=d.1.length/\∀(b:Nat),b<x->U.jb d.2.1.2 (nth d.1 b)=false)->(decide ((x:Int)<(d.1.length:Int))=true->0<=(x:Int)/\(x:Int)<(d.1.length:Int)/\asks (d.2.1.1 (nth d.1 (x:Int).toNat,())) (((d.2.1.2 (nth d.1 (x:Int).toNat,())).1=true->((x:Int),())=(U.gw (U.jb d.2.1.2) d.1,()))/\((d.2.1.2 (nth d.1 (x:Int).toNat,())).1=false->jC ((x:Int)+1)/\∃(a:Nat),(((x:Int)+1=(a:Int)/\True)/\True)/\(a<=d.1.length/\∀(b:Nat),b<a->U.jb d.2.1.2 (nth d.1 b)=false)/\d.1.length-a<d.1.length-x)))/\(decide ((x:Int)<(d.1.length:Int))=false->((-1:Int),())=(U.gw (U.jb d.2.1.2) d.1,()))
def yB:jR:=⟨[.val (.slice tSh),.fn [tSh] [.bool]],[.bool],false,fun d=>[∀g∈d.1,U.jx (d.2.1.pre (g,()))],fun d=>(d.1.any (U.jb (α:=ShD) d.2.1.F),())⟩
def yx:Prop:=∀(d:List ShD×FnD [tSh] [Ty.bool]×Unit),(∀(g:ShD),g∈d.1->U.jx (d.2.1.1 (g,())))->(∀(g:ShD),g∈d.1->U.jx (d.2.1.1 (g,())))/\(decide (0<=U.gw (U.jb d.2.1.2) d.1),())=(d.1.any (U.jb d.2.1.2),())
def jfK:jR:=⟨[.val tSp,.rfn [tSp] [.bool]],[.bool],false,fun d=>[U.jx (d.2.1.pre (d.1,()))],fun d=>(!(U.jb (α:=SpD) d.2.1.F d.1),())⟩
def jfE:Prop:=∀(d:(Int×Int×Unit)×FnD [tSp] [Ty.bool]×Unit),U.jx (d.2.1.1 (d.1,()))->asks (d.2.1.1 (d.1,())) ((!(d.2.1.2 (d.1,())).1,())=(!U.jb d.2.1.2 d.1,()))
def jiq:jR:=⟨[.val (.slice tSp),.fn [tSp] [.bool]],[.bool],false,fun d=>[∀g∈d.1,U.jx (d.2.1.pre (g,()))],fun d=>(d.1.all (U.jb (α:=SpD) d.2.1.F),())⟩
def jid:Prop:=∀(d:List (Int×Int×Unit)×FnD [tSp] [Ty.bool]×Unit),(∀(g:Int×Int×Unit),g∈d.1->U.jx (d.2.1.1 (g,())))->(∀(g:Int×Int×Unit),g∈d.1->U.jx [U.jx (d.2.1.1 (g,()))])/\(!d.1.any (U.jb fun(a:(Int×Int×Unit)×Unit)=>(!U.jb d.2.1.2 a.1,())),())=(d.1.all (U.jb d.2.1.2),())
def jej:jR:=⟨[.val (.slice tSp),.rfn [(.slice tSp)] [.bool]],[.bool],false,fun d=>[U.jx (d.2.1.pre (d.1,()))],fun d=>(!(U.jb (α:=(List SpD)) d.2.1.F d.1),())⟩
def jd7:Prop:=∀(d:List (Int×Int×Unit)×FnD [tSp.slice] [Ty.bool]×Unit),U.jx (d.2.1.1 (d.1,()))->asks (d.2.1.1 (d.1,())) ((!(d.2.1.2 (d.1,())).1,())=(!U.jb d.2.1.2 d.1,()))
def jhe:jR:=⟨[.val (.slice (.slice tSp)),.fn [(.slice tSp)] [.bool]],[.bool],false,fun d=>[∀g∈d.1,U.jx (d.2.1.pre (g,()))],fun d=>(d.1.all (U.jb (α:=(List SpD)) d.2.1.F),())⟩
def jg5:Prop:=∀(d:List (List (Int×Int×Unit))×FnD [tSp.slice] [Ty.bool]×Unit),(∀(g:List (Int×Int×Unit)),g∈d.1->U.jx (d.2.1.1 (g,())))->(∀(g:List (Int×Int×Unit)),g∈d.1->U.jx [U.jx (d.2.1.1 (g,()))])/\(!d.1.any (U.jb fun(a:List (Int×Int×Unit)×Unit)=>(!U.jb d.2.1.2 a.1,())),())=(d.1.all (U.jb d.2.1.2),())
def jcm:jR:=⟨[.val tBk,.rfn [tBk] [.bool]],[.bool],false,fun d=>[U.jx (d.2.1.pre (d.1,()))],fun d=>(!(U.jb (α:=BkD) d.2.1.F d.1),())⟩
def jcj:Prop:=∀(d:BkD×FnD [tBk] [Ty.bool]×Unit),U.jx (d.2.1.1 (d.1,()))->asks (d.2.1.1 (d.1,())) ((!(d.2.1.2 (d.1,())).1,())=(!U.jb d.2.1.2 d.1,()))
def jel:jR:=⟨[.val (.slice tBk),.fn [tBk] [.bool]],[.bool],false,fun d=>[∀g∈d.1,U.jx (d.2.1.pre (g,()))],fun d=>(d.1.all (U.jb (α:=BkD) d.2.1.F),())⟩
def jd9:Prop:=∀(d:List BkD×FnD [tBk] [Ty.bool]×Unit),(∀(g:BkD),g∈d.1->U.jx (d.2.1.1 (g,())))->(∀(g:BkD),g∈d.1->U.jx [U.jx (d.2.1.1 (g,()))])/\(!d.1.any (U.jb fun(a:BkD×Unit)=>(!U.jb d.2.1.2 a.1,())),())=(d.1.all (U.jb d.2.1.2),())
def jek:jR:=⟨[.val tSh,.rfn [tSh] [.bool]],[.bool],false,fun d=>[U.jx (d.2.1.pre (d.1,()))],fun d=>(!(U.jb (α:=ShD) d.2.1.F d.1),())⟩
def jd8:Prop:=∀(d:ShD×FnD [tSh] [Ty.bool]×Unit),U.jx (d.2.1.1 (d.1,()))->asks (d.2.1.1 (d.1,())) ((!(d.2.1.2 (d.1,())).1,())=(!U.jb d.2.1.2 d.1,()))
def jhf:jR:=⟨[.val (.slice tSh),.fn [tSh] [.bool]],[.bool],false,fun d=>[∀g∈d.1,U.jx (d.2.1.pre (g,()))],fun d=>(d.1.all (U.jb (α:=ShD) d.2.1.F),())⟩
def jg6:Prop:=∀(d:List ShD×FnD [tSh] [Ty.bool]×Unit),(∀(g:ShD),g∈d.1->U.jx (d.2.1.1 (g,())))->(∀(g:ShD),g∈d.1->U.jx [U.jx (d.2.1.1 (g,()))])/\(!d.1.any (U.jb fun(a:ShD×Unit)=>(!U.jb d.2.1.2 a.1,())),())=(d.1.all (U.jb d.2.1.2),())
def jnY:jR:=⟨[.val tSp],[.bool],false,fun _=>[],fun d=>(U.jgI d.1,())⟩
def jnz:Prop:=∀(d:(Int×Int×Unit)×Unit),(decide (0<=d.1.1)&&decide (d.1.1<=d.1.2.1)&&decide (d.1.2.1<=300),())=(U.jgI d.1,())
def jnX:jR:=⟨[.val (.slice tSp),.ref tDy,.rfn [tSp] [.bool]],[.bool],false,fun d=>[∀g∈d.1,U.jx (d.2.2.1.pre (g,()))],fun d=>(decide ((d.1.length:Int)=((U.jz d.2.1).length:Int))&&d.1.all (U.jb (α:=SpD) d.2.2.1.F),())⟩
def jny:Prop:=∀(d:List (Int×Int×Unit)×DyD×FnD [tSp] [Ty.bool]×Unit),(∀(g:Int×Int×Unit),g∈d.1->U.jx (d.2.2.1.1 (g,())))->d.1.length<4611686018427387904->d.2.1.2.1.length<4611686018427387904->(decide ((d.1.length:Int)=(d.2.1.2.1.length:Int))=true->∀(g:Int×Int×Unit),g∈d.1->U.jx (d.2.2.1.1 (g,())))/\(decide ((d.1.length:Int)=(d.2.1.2.1.length:Int))&&d.1.all (U.jb d.2.2.1.2),())=(decide ((d.1.length:Int)=(↑(U.jz d.2.1).length:Int))&&d.1.all (U.jb d.2.2.1.2),())
def jnW:jR:=⟨[.val tBk,.ref tDy],[.bool],false,fun _=>[],fun d=>(U.jiT (U.jz d.2.1).length d.1,())⟩
def jnx:Prop:=∀(d:BkD×DyD×Unit),d.2.1.2.1.length<4611686018427387904->jC ((d.2.1.2.1.length:Int)-1)/\(U.ja d.1.2.1 (0:Int) ((d.2.1.2.1.length:Int)-1)&&decide (0<=d.1.2.2.1)&&decide (d.1.2.2.1<d.1.2.2.2.1)&&decide (d.1.2.2.2.1<=1440),())=(U.jiT (U.jz d.2.1).length d.1,())
def jnV:jR:=⟨[.val tSh,.ref tDy],[.bool],false,fun _=>[],fun d=>(U.joM (U.jp d.2.1).length (U.jh (U.jf d.2.1)).length d.1,())⟩
abbrev q58_0 (d:ShD×DyD×Unit):=(U.ja d.1.1 (0:Int) (99:Int)&&U.ja d.1.2.1 (0:Int) (9999:Int)&&U.ja d.1.2.2.1 (1:Int) (2:Int)&&U.ja d.1.2.2.2.1 (0:Int) ((d.2.1.2.2.1.length:Int)-1))
abbrev q58_1 (d:ShD×DyD×Unit):=(U.ja d.1.1 (0:Int) (99:Int)&&U.ja d.1.2.1 (0:Int) (9999:Int)&&U.ja d.1.2.2.1 (1:Int) (2:Int))
def jnw:Prop:=∀(d:ShD×DyD×Unit),((q58_1 d)=true->d.2.1.2.2.1.length<4611686018427387904)->((q58_1 d)=true->jC ((d.2.1.2.2.1.length:Int)-1))/\(((q58_0 d)=true->d.2.1.1.2.1.length<4611686018427387904)->((q58_0 d)=true->jC ((d.2.1.1.2.1.length:Int)-1))/\(U.ja d.1.1 (0:Int) (99:Int)&&U.ja d.1.2.1 (0:Int) (9999:Int)&&U.ja d.1.2.2.1 (1:Int) (2:Int)&&U.ja d.1.2.2.2.1 (0:Int) ((d.2.1.2.2.1.length:Int)-1)&&U.ja d.1.2.2.2.2.1 (0:Int) ((d.2.1.1.2.1.length:Int)-1),())=(U.joM (U.jp d.2.1).length (U.jh (U.jf d.2.1)).length d.1,()))
def jty:jR:=⟨[.val tDy],[.bool],false,fun _=>[],fun d=>(U.zi d.1,())⟩
abbrev q59_0 (d:DyD×Unit):=((d.1.2.2.1.length:Int)<=4)
abbrev q59_1 (d:DyD×Unit):=(↑(U.jz d.1).length:Int)
abbrev q59_2 (d:DyD×Unit):=(d.1.2.1.length:Int)
def jtg:Prop:=∀(d:DyD×Unit),d.1.2.2.1.length<4611686018427387904->(decide (q59_0 d)=true->d.1.2.1.length<4611686018427387904)->((decide (q59_0 d)&&U.ja (q59_2 d) (1:Int) (5:Int))=true->∀(g:List (Int×Int×Unit)),g∈d.1.2.1->U.jx [∀(a:Int×Int×Unit),a∈g->U.jx []])/\((decide (q59_0 d)&&U.ja (q59_2 d) (1:Int) (5:Int)&&d.1.2.1.all (U.jb fun(b:List (Int×Int×Unit)×Unit)=>(decide ((b.1.length:Int)=(q59_1 d))&&b.1.all (U.jb fun(h:(Int×Int×Unit)×Unit)=>(U.jgI h.1,())),())))=true->∀(i:BkD),i∈d.1.2.2.1->U.jx [])/\(((decide (q59_0 d)&&U.ja (q59_2 d) (1:Int) (5:Int)&&d.1.2.1.all (U.jb fun(c:List (Int×Int×Unit)×Unit)=>(decide ((c.1.length:Int)=(q59_1 d))&&c.1.all (U.jb fun(j:(Int×Int×Unit)×Unit)=>(U.jgI j.1,())),()))&&d.1.2.2.1.all (U.jb fun(n:BkD×Unit)=>(U.jiT (U.jz d.1).length n.1,()))&&U.ja d.1.2.2.2.1 (0:Int) (300:Int)&&U.ja d.1.2.2.2.2.1 (0:Int) (1440:Int))=true->d.1.2.2.2.2.2.1.length<4611686018427387904)->((decide (q59_0 d)&&U.ja (q59_2 d) (1:Int) (5:Int)&&d.1.2.1.all (U.jb fun(e:List (Int×Int×Unit)×Unit)=>(decide ((e.1.length:Int)=(q59_1 d))&&e.1.all (U.jb fun(k:(Int×Int×Unit)×Unit)=>(U.jgI k.1,())),()))&&d.1.2.2.1.all (U.jb fun(o:BkD×Unit)=>(U.jiT (U.jz d.1).length o.1,()))&&U.ja d.1.2.2.2.1 (0:Int) (300:Int)&&U.ja d.1.2.2.2.2.1 (0:Int) (1440:Int)&&decide ((d.1.2.2.2.2.2.1.length:Int)<=30))=true->∀(l:ShD),l∈d.1.2.2.2.2.2.1->U.jx [])/\(decide (q59_0 d)&&U.ja (q59_2 d) (1:Int) (5:Int)&&d.1.2.1.all (U.jb fun(f:List (Int×Int×Unit)×Unit)=>(decide ((f.1.length:Int)=(q59_1 d))&&f.1.all (U.jb fun(m:(Int×Int×Unit)×Unit)=>(U.jgI m.1,())),()))&&d.1.2.2.1.all (U.jb fun(z6:BkD×Unit)=>(U.jiT (U.jz d.1).length z6.1,()))&&U.ja d.1.2.2.2.1 (0:Int) (300:Int)&&U.ja d.1.2.2.2.2.1 (0:Int) (1440:Int)&&decide ((d.1.2.2.2.2.2.1.length:Int)<=30)&&d.1.2.2.2.2.2.1.all (U.jb fun(z7:ShD×Unit)=>(U.joM (U.jp d.1).length (U.jh (U.jf d.1)).length z7.1,())),())=(U.zi d.1,()))
def jhg:jR:=⟨[.val .int],[.bool],false,fun _=>[],fun _=>(false,())⟩
def jg7:Prop:=∀(d:Int×Unit),(decide (d.1≠d.1),())=(false,())
def jem:jR:=⟨[.val .int,.val .int],[.int],false,fun _=>[],fun d=>(U.gj d.1 d.2.1,())⟩
abbrev q61_0 (d:Int×Int×Unit):=(U.gj d.1 d.2.1,())
def jea:Prop:=∀(d:Int×Int×Unit),(false=true->(false=true->((0:Int),())=(q61_0 d))/\(false=false->((-1:Int),())=(q61_0 d)))/\(false=false->(false=true->((1:Int),())=(q61_0 d))/\(false=false->(decide (d.1<d.2.1)=true->((-1:Int),())=(q61_0 d))/\(decide (d.1<d.2.1)=false->(decide (d.2.1<d.1)=true->((1:Int),())=(q61_0 d))/\(decide (d.2.1<d.1)=false->((0:Int),())=(q61_0 d)))))
def jl7:jR:=⟨[.val (.slice .int)],[.int],false,fun _=>[],fun d=>(U.k8 d.1,())⟩
def jne:Ann:=fun r=>match r with
 |3=>some fun σ=>{X:=Nat,sl:=fun i=>[(8,.dat .int (i:Int))],ob:=fun _=>[],inv:=fun i=>i<=(gd (.slice .int) σ 0).length/\∀b:Nat,b<i->nth (gd (.slice .int) σ 0) b=0,mu:=fun i=>(gd (.slice .int) σ 0).length-i}
 |_=>none
def jlT:Prop:=∀(d:List Int×Unit),d.1.length<4611686018427387904->(∃(x:Nat),((0=(x:Int)/\True)/\True)/\x<=d.1.length/\∀(b:Nat),b<x->nth d.1 b=0)/\∀(x:Nat),(x<=d.1.length/\∀(b:Nat),b<x->nth d.1 b=0)->(decide ((x:Int)<(d.1.length:Int))=true->0<=(x:Int)/\(x:Int)<(d.1.length:Int)/\(decide (nth d.1 (x:Int).toNat≠0)=true->(nth d.1 (x:Int).toNat,())=(U.k8 d.1,()))/\(decide (nth d.1 (x:Int).toNat≠0)=false->jC ((x:Int)+1)/\∃(a:Nat),(((x:Int)+1=(a:Int)/\True)/\True)/\(a<=d.1.length/\∀(b:Nat),b<a->nth d.1 b=0)/\d.1.length-a<d.1.length-x))/\(decide ((x:Int)<(d.1.length:Int))=false->((0:Int),())=(U.k8 d.1,()))
def jir:jR:=⟨[.val tSh,.val tSh],[.int],false,fun _=>[],fun d=>(U.wX d.1 d.2.1,())⟩
def jie:Prop:=∀(d:ShD×ShD×Unit),(U.k8 [U.gj d.1.1 d.2.1.1,U.gj d.1.2.1 d.2.1.2.1,U.gj d.1.2.2.1 d.2.1.2.2.1,U.gj d.1.2.2.2.1 d.2.1.2.2.2.1,U.gj d.1.2.2.2.2.1 d.2.1.2.2.2.2.1],())=(U.wX d.1 d.2.1,())
def jqn:jR:=⟨[.val tSh,.val tSh],[.int],false,fun _=>[],fun d=>(U.jo d.1 d.2.1,())⟩
def jp3:Prop:=∀(d:ShD×ShD×Unit),(U.k8 [U.gj d.1.2.1 d.2.1.2.1,U.gj d.1.1 d.2.1.1],())=(U.jo d.1 d.2.1,())
def jfN:zw:=⟨[.val (.slice tSh)],[rwS],fun d=>[d.1.length<=100000],fun d=>((d.1,()),())⟩
def jfA:Prop:=∀(d:List ShD×Unit),d.1.length<=100000->∀(a:Bool),(a=true->d.1=[])->(a=true->([],())=d/\()=())/\(a=false->(0+d.1.length)*40<=140737488355328/\([]++d.1,())=d/\()=())
def jc7:zw:=⟨[.own rwS false],[rwS],fun d=>[d.1.length<=100000],fun d=>((U.qF U.kP d.1,()),())⟩
def jdR:Ann:=fun r=>match r with
 |4=>some fun σ=>{X:=Nat,sl:=fun i=>[(3,.dat .int (i:Int))],ob:=fun _=>[],inv:=fun i=>U.jAU U.kP (gr tSh σ 1000000) i,mu:=fun i=>(gr tSh σ 1000000).length-i}
 |9=>some fun σ=>{X:=Nat×List ShD,sl:=fun x=>[(5,.dat .int (x.1:Int)),(3,.dat .int (U.jcC U.kP (gr tSh σ 1000000) ((gd .int σ 3).toNat+x.1)))],ob:=fun x=>[(1000000,some (.row 54 tSh false .unk x.2))],inv:=fun x=>U.jre U.kP (gr tSh σ 1000000) (gd .int σ 3).toNat x.1 x.2,mu:=fun x=>(gr tSh σ 1000000).length-x.1}
 |_=>none
abbrev q66_0 (x:Nat)(a:Nat×List ShD):=((x:Int).toNat+a.1)
abbrev q66_2 (d:List ShD×Unit)(x:Nat)(a:Nat×List ShD):=(List.take (U.jcC U.kP d.1 (q66_0 x a)).toNat a.2++List.replicate ((a.2.length:Int).toNat-(U.jcC U.kP d.1 (q66_0 x a)).toNat) ((0:Int),(0:Int),(0:Int),(0:Int),(0:Int),()))
abbrev q66_3 (a:Nat×List ShD)(x:Nat):=(!decide (nth a.2 ((x:Int).toNat+(a.1:Int).toNat)=nth a.2 ((x:Int).toNat+((a.1:Int)-1).toNat)))
abbrev q66_4 (d:List ShD×Unit):=(d.1.length:Int)
abbrev q66_1 (d:List ShD×Unit)(x:Nat):=(↑((q66_4 d).toNat-(x:Int).toNat):Int)
def jcW:Prop:=∀(d:List ShD×Unit),d.1.length<=100000->d.1.length<4611686018427387904->(decide ((q66_4 d)<2)=true->d=(U.qF U.kP d.1,())/\()=())/\(decide ((q66_4 d)<2)=false->(∃(x:Nat),((1=(x:Int)/\True)/\True)/\U.jAU U.kP d.1 x)/\∀(x:Nat),U.jAU U.kP d.1 x->d.1.length<4611686018427387904->(decide ((x:Int)<(q66_4 d))=true->0<=(x:Int)/\(x:Int)<(q66_4 d)/\jC ((x:Int)-1)/\0<=(x:Int)-1/\(x:Int)-1<(q66_4 d)/\(decide (nth d.1 (x:Int).toNat=nth d.1 ((x:Int)-1).toNat)=true->0<=(x:Int)/\(x:Int)<=(q66_4 d)/\(q66_4 d)<=(q66_4 d)/\(∃(a:Nat×List ShD),((1=(a.1:Int)/\(x:Int)=U.jcC U.kP d.1 (q66_0 x a)/\True)/\d.1=a.2/\True)/\U.jre U.kP d.1 (x:Int).toNat a.1 a.2)/\∀(a:Nat×List ShD),U.jre U.kP d.1 (x:Int).toNat a.1 a.2->(q66_4 d).toNat-(x:Int).toNat<4611686018427387904->(decide ((a.1:Int)<(q66_1 d x))=true->0<=(a.1:Int)/\(a.1:Int)<(q66_1 d x)/\jC ((a.1:Int)-1)/\0<=(a.1:Int)-1/\(a.1:Int)-1<(q66_1 d x)/\((q66_3 a x)=true->0<=(a.1:Int)/\(a.1:Int)<(q66_1 d x)/\0<=U.jcC U.kP d.1 (q66_0 x a)/\U.jcC U.kP d.1 (q66_0 x a)<(a.2.length:Int)/\jC (U.jcC U.kP d.1 (q66_0 x a)+1)/\jC ((a.1:Int)+1)/\∃(b:Nat×List ShD),(((a.1:Int)+1=(b.1:Int)/\U.jcC U.kP d.1 (q66_0 x a)+1=U.jcC U.kP d.1 ((x:Int).toNat+b.1)/\True)/\a.2.set (U.jcC U.kP d.1 (q66_0 x a)).toNat (nth a.2 ((x:Int).toNat+(a.1:Int).toNat))=b.2/\True)/\U.jre U.kP d.1 (x:Int).toNat b.1 b.2/\d.1.length-b.1<d.1.length-a.1)/\((q66_3 a x)=false->jC ((a.1:Int)+1)/\∃(b:Nat×List ShD),((U.jcC U.kP d.1 (q66_0 x a)=U.jcC U.kP d.1 ((x:Int).toNat+b.1)/\(a.1:Int)+1=(b.1:Int)/\True)/\a.2=b.2/\True)/\U.jre U.kP d.1 (x:Int).toNat b.1 b.2/\d.1.length-b.1<d.1.length-a.1))/\(decide ((a.1:Int)<(q66_1 d x))=false->0<=U.jcC U.kP d.1 (q66_0 x a)/\U.jcC U.kP d.1 (q66_0 x a)<=(a.2.length:Int)/\(a.2.length:Int)<=(a.2.length:Int)/\(U.jcC U.kP d.1 (q66_0 x a)).toNat+((a.2.length:Int).toNat-(U.jcC U.kP d.1 (q66_0 x a)).toNat)=a.2.length/\(0:Int)<=0/\0<=U.jcC U.kP d.1 (q66_0 x a)/\U.jcC U.kP d.1 (q66_0 x a)<=(↑(q66_2 d x a).length:Int)/\(List.take ((U.jcC U.kP d.1 (q66_0 x a)).toNat-Int.toNat 0) (q66_2 d x a),())=(U.qF U.kP d.1,())/\()=()))/\(decide (nth d.1 (x:Int).toNat=nth d.1 ((x:Int)-1).toNat)=false->jC ((x:Int)+1)/\∃(c:Nat),(((x:Int)+1=(c:Int)/\True)/\True)/\U.jAU U.kP d.1 c/\d.1.length-c<d.1.length-x))/\(decide ((x:Int)<(q66_4 d))=false->d=(U.qF U.kP d.1,())/\()=()))
abbrev jcn:zw:=jzF tSh 54
def jmb:zw:=⟨[.val (.slice tSh)],[rwS],fun d=>[d.1.length<=100000],fun d=>((U.jH d.1,()),())⟩
abbrev q67_0:=(Ty.int.pair (Ty.int.pair (Ty.int.pair (Ty.int.pair (Ty.int.pair Ty.unit)))))
def jlR:Prop:=∀(d:List ShD×Unit),d.1.length<=100000->d.1.length<=100000/\(∀(x:ShD),x∈d.1->∀(y:ShD),y∈d.1->U.jx [])/\kh (U.jd q67_0 fun(a:ShD×ShD×Unit)=>(U.wX a.1 a.2.1,())) d.1/\(U.jc (U.jd q67_0 fun(b:ShD×ShD×Unit)=>(U.wX b.1 b.2.1,())) d.1).length<=100000/\(U.qF U.kP (U.jc (U.jd q67_0 fun(c:ShD×ShD×Unit)=>(U.wX c.1 c.2.1,())) d.1),())=(U.jH d.1,())/\()=()
def jn8:zw:=⟨[.val tSh,.own (.box 125 [.map .int .int]) true],[.cl (.dat .bool)],fun d=>[U.jvo d.2.1.1],fun d=>((U.js5 d.2.1.1 d.1,()),((U.jcb d.2.1.1 d.1,()),()))⟩
abbrev q68_0 (d:ShD×(List (Int×Int)×Unit)×Unit):=(kr (0:Int) (zt Ty.int d.1.1 d.2.1.1)+1)
def jnB:Prop:=∀(d:ShD×(List (Int×Int)×Unit)×Unit),U.jvo d.2.1.1->jC (q68_0 d)/\(decide (1<kr (0:Int) (zt Ty.int d.1.1 (jdq Ty.int d.1.1 (q68_0 d) d.2.1.1))),())=(U.js5 d.2.1.1 d.1,())/\((jdq Ty.int d.1.1 (q68_0 d) d.2.1.1,()),())=((U.jcb d.2.1.1 d.1,()),())
abbrev clV:Sh:= .fbox 96 125 [.map .int .int]
def yD:zw:=⟨[.val (.slice tSh),.own clV true],[.cl (.dat .int)],fun d=>[d.1.length<=100000,U.jCr d.2.1.1],fun d=>((U.jbP d.2.1.1 d.1,()),((U.jdI d.2.1.1 d.1,()),()))⟩
def gp:Ann:=fun r=>match r with
 |2=>some fun σ=>{X:=Nat,sl:=fun i=>[(8,.dat .int (i:Int))],ob:=fun i=>[(400020,some (.map false .int .int (U.kA [] (gd (.slice tSh) σ 0) i)))],inv:=fun i=>i<=(gd (.slice tSh) σ 0).length/\∀b:Nat,b<i->U.jft [] (gd (.slice tSh) σ 0) b=false,mu:=fun i=>(gd (.slice tSh) σ 0).length-i}
 |_=>none
def yv:Prop:=∀(d:List ShD×(List (Int×Int)×Unit)×Unit),d.1.length<=100000->U.jCr d.2.1.1->d.1.length<4611686018427387904->(∃(x:Nat),((0=(x:Int)/\True)/\d.2.1.1=U.kA [] d.1 x/\True)/\x<=d.1.length/\∀(b:Nat),b<x->U.jft [] d.1 b=false)/\∀(x:Nat),(x<=d.1.length/\∀(b:Nat),b<x->U.jft [] d.1 b=false)->(decide ((x:Int)<(d.1.length:Int))=true->0<=(x:Int)/\(x:Int)<(d.1.length:Int)/\U.jvo (U.kA [] d.1 x)/\(U.js5 (U.kA [] d.1 x) (nth d.1 (x:Int).toNat)=true->((x:Int),())=(U.jbP d.2.1.1 d.1,())/\((U.jcb (U.kA [] d.1 x) (nth d.1 (x:Int).toNat),()),())=((U.jdI d.2.1.1 d.1,()),()))/\(U.js5 (U.kA [] d.1 x) (nth d.1 (x:Int).toNat)=false->jC ((x:Int)+1)/\∃(a:Nat),(((x:Int)+1=(a:Int)/\True)/\(True/\True)/\U.jcb (U.kA [] d.1 x) (nth d.1 (x:Int).toNat)=U.kA [] d.1 a/\True)/\(a<=d.1.length/\∀(b:Nat),b<a->U.jft [] d.1 b=false)/\d.1.length-a<d.1.length-x))/\(decide ((x:Int)<(d.1.length:Int))=false->((-1:Int),())=(U.jbP d.2.1.1 d.1,())/\((U.kA [] d.1 x,()),())=((U.jdI d.2.1.1 d.1,()),()))
def vk:zw:=⟨[.val (.slice tSh),.own clV true],[.cl (.dat .bool)],fun d=>[d.1.length<=100000,U.jCr d.2.1.1],fun d=>((decide (0<=U.jbP d.2.1.1 d.1),()),((U.jdI d.2.1.1 d.1,()),()))⟩
def vd:Prop:=∀(d:List ShD×(List (Int×Int)×Unit)×Unit),d.1.length<=100000->U.jCr d.2.1.1->d.1.length<=100000/\U.jCr d.2.1.1/\(decide (0<=U.jbP d.2.1.1 d.1),())=(decide (0<=U.jbP d.2.1.1 d.1),())/\((U.jdI d.2.1.1 d.1,()),())=((U.jdI d.2.1.1 d.1,()),())
def jtz:jR:=⟨[.val (.slice tSh)],[.bool],false,fun d=>[d.1.length<=100000],fun d=>(U.jrI d.1,())⟩
def jth:Prop:=∀(d:List ShD×Unit),d.1.length<=100000->d.1.length<=100000/\U.jCr []/\(decide (0<=U.jbP [] d.1),())=(U.jrI d.1,())
def jke:jR:=⟨[.val tDy],[.int],false,fun _=>[],fun d=>(U.jjQ d.1,())⟩
def jkL:Ann:=fun r=>match r with
 |5=>some fun σ=>{X:=Nat,sl:=fun i=>[(17,.dat .int (i:Int))],ob:=fun _=>[],inv:=fun i=>i<=(gd (.slice tBk) σ 15).length/\∀b:Nat,b<i->U.j7 (U.jf (gd tDy σ 0)) (U.jcJ (nth (gd (.slice tBk) σ 15) b))=true,mu:=fun i=>(gd (.slice tBk) σ 15).length-i}
 |_=>none
abbrev q72_0:=((0:Int),(1:Int),(0:Int),(0:Int),(0:Int),(1:Int),())
def jj6:Prop:=∀(d:DyD×Unit),(decide (U.zN d.1.1 q72_0≠0)=true->(U.zN d.1.1 q72_0,())=(U.jjQ d.1,()))/\(decide (U.zN d.1.1 q72_0≠0)=false->d.1.2.2.1.length<4611686018427387904->(∃(x:Nat),((0=(x:Int)/\True)/\True)/\x<=d.1.2.2.1.length/\∀(b:Nat),b<x->U.j7 (U.jf d.1) (U.jcJ (nth d.1.2.2.1 b))=true)/\∀(x:Nat),(x<=d.1.2.2.1.length/\∀(b:Nat),b<x->U.j7 (U.jf d.1) (U.jcJ (nth d.1.2.2.1 b))=true)->(decide ((x:Int)<(d.1.2.2.1.length:Int))=true->0<=(x:Int)/\(x:Int)<(d.1.2.2.1.length:Int)/\(decide (U.zN d.1.1 (nth d.1.2.2.1 (x:Int).toNat).1≠0)=true->(U.zN d.1.1 (nth d.1.2.2.1 (x:Int).toNat).1,())=(U.jjQ d.1,()))/\(decide (U.zN d.1.1 (nth d.1.2.2.1 (x:Int).toNat).1≠0)=false->jC ((x:Int)+1)/\∃(a:Nat),(((x:Int)+1=(a:Int)/\True)/\True)/\(a<=d.1.2.2.1.length/\∀(b:Nat),b<a->U.j7 (U.jf d.1) (U.jcJ (nth d.1.2.2.1 b))=true)/\d.1.2.2.1.length-a<d.1.2.2.1.length-x))/\(decide ((x:Int)<(d.1.2.2.1.length:Int))=false->((0:Int),())=(U.jjQ d.1,())))
def jtC:jR:=⟨[.val tDy],[.int],false,fun d=>[(U.zv d.1).length<=100000],fun d=>(U.jw d.1,())⟩
def jtk:Prop:=∀(d:DyD×Unit),(U.zv d.1).length<=100000->(decide (U.jjQ d.1≠0)=true->(U.jjQ d.1,())=(U.jw d.1,()))/\(decide (U.jjQ d.1≠0)=false->((!U.zi d.1)=true->((50:Int),())=(U.jw d.1,()))/\((!U.zi d.1)=false->d.1.2.2.2.2.2.1.length<=100000/\(U.jH d.1.2.2.2.2.2.1).length<=100000/\(U.jrI (U.jH d.1.2.2.2.2.2.1)=true->((51:Int),())=(U.jw d.1,()))/\(U.jrI (U.jH d.1.2.2.2.2.2.1)=false->((0:Int),())=(U.jw d.1,()))))
end Go.X
namespace Go.X
open Go.Proofs
theorem jt7:jp2:=by
 intro d;rfl
theorem jdo:zh PR 90 jqm:=jM jt7 Tryz.func90 kcN koN
theorem jdz:jcg:=by
 rintro⟨l,f,⟨⟩⟩ a g;refine⟨⟨0,⟨⟨rfl,trivial⟩,trivial⟩,jDU _,fun b c=>by omega⟩,fun i hi=>⟨fun h=> ?_,fun h=> ?_⟩⟩
 .have h:i<l.length:=(by simpa using h);simp only[jDN] at*;refine⟨by omega,by omega,wu _ (a _ (L.mem_nth h)) ⟨fun c=> ?_,fun c=>⟨L.in64 (by omega) (by omega),i+1,⟨⟨by simp,trivial⟩,trivial⟩,⟨by omega,fun b d=> ?_⟩,by omega⟩⟩⟩
  .rw[wA (p:=U.jb (α:=SpD) f.F) h hi.2 c]
  .by_cases e:b=i
   .subst e;exact c
   .exact hi.2 b (by omega)
 .have h:l.length<=i:=(by simpa using h);rw[kl (p:=U.jb (α:=SpD) f.F) h hi.2]
theorem jcs:zh PR 164 jck:=wt jcy jdz Tryz.func164 kcN koN
theorem jaM:gE:=by
 rintro⟨l,f,⟨⟩⟩ a;refine⟨a,?_⟩;exact congrArg (·,()) (jbA (U.jb (α:=SpD) f.F) l)
theorem gP:zh PR 134 gH:=jM jaM Tryz.func134 (kcC jcs kcN) koN
theorem jcv:jaV:=by
 rintro⟨l,f,⟨⟩⟩ a g;refine⟨⟨0,⟨⟨rfl,trivial⟩,trivial⟩,jDU _,fun b c=>by omega⟩,fun i hi=>⟨fun h=> ?_,fun h=> ?_⟩⟩
 .have h:i<l.length:=(by simpa using h);simp only[jDN] at*;refine⟨by omega,by omega,wu _ (a _ (L.mem_nth h)) ⟨fun c=> ?_,fun c=>⟨L.in64 (by omega) (by omega),i+1,⟨⟨by simp,trivial⟩,trivial⟩,⟨by omega,fun b d=> ?_⟩,by omega⟩⟩⟩
  .rw[wA (p:=U.jb (α:=(List SpD)) f.F) h hi.2 c]
  .by_cases e:b=i
   .subst e;exact c
   .exact hi.2 b (by omega)
 .have h:l.length<=i:=(by simpa using h);rw[kl (p:=U.jb (α:=(List SpD)) f.F) h hi.2]
theorem jbk:zh PR 165 ja4:=wt jbL jcv Tryz.func165 kcN koN
theorem gX:yw:=by
 rintro⟨l,f,⟨⟩⟩ a;refine⟨a,?_⟩;exact congrArg (·,()) (jbA (U.jb (α:=(List SpD)) f.F) l)
theorem yM:zh PR 136 yA:=jM gX Tryz.func136 (kcC jbk kcN) koN
theorem jaL:gD:=by
 rintro⟨l,f,⟨⟩⟩ a g;refine⟨⟨0,⟨⟨rfl,trivial⟩,trivial⟩,jDU _,fun b c=>by omega⟩,fun i hi=>⟨fun h=> ?_,fun h=> ?_⟩⟩
 .have h:i<l.length:=(by simpa using h);simp only[jDN] at*;refine⟨by omega,by omega,wu _ (a _ (L.mem_nth h)) ⟨fun c=> ?_,fun c=>⟨L.in64 (by omega) (by omega),i+1,⟨⟨by simp,trivial⟩,trivial⟩,⟨by omega,fun b d=> ?_⟩,by omega⟩⟩⟩
  .rw[wA (p:=U.jb (α:=BkD) f.F) h hi.2 c]
  .by_cases e:b=i
   .subst e;exact c
   .exact hi.2 b (by omega)
 .have h:l.length<=i:=(by simpa using h);rw[kl (p:=U.jb (α:=BkD) f.F) h hi.2]
theorem gO:zh PR 166 gG:=wt jah jaL Tryz.func166 kcN koN
theorem yo:vH:=by
 rintro⟨l,f,⟨⟩⟩ a;refine⟨a,?_⟩;exact congrArg (·,()) (jbA (U.jb (α:=BkD) f.F) l)
theorem vK:zh PR 138 vI:=jM yo Tryz.func138 (kcC gO kcN) koN
theorem jcw:jaW:=by
 rintro⟨l,f,⟨⟩⟩ a g;refine⟨⟨0,⟨⟨rfl,trivial⟩,trivial⟩,jDU _,fun b c=>by omega⟩,fun i hi=>⟨fun h=> ?_,fun h=> ?_⟩⟩
 .have h:i<l.length:=(by simpa using h);simp only[jDN] at*;refine⟨by omega,by omega,wu _ (a _ (L.mem_nth h)) ⟨fun c=> ?_,fun c=>⟨L.in64 (by omega) (by omega),i+1,⟨⟨by simp,trivial⟩,trivial⟩,⟨by omega,fun b d=> ?_⟩,by omega⟩⟩⟩
  .rw[wA (p:=U.jb (α:=ShD) f.F) h hi.2 c]
  .by_cases e:b=i
   .subst e;exact c
   .exact hi.2 b (by omega)
 .have h:l.length<=i:=(by simpa using h);rw[kl (p:=U.jb (α:=ShD) f.F) h hi.2]
theorem jbl:zh PR 141 ja5:=wt jbM jcw Tryz.func141 kcN koN
theorem gY:yx:=by
 rintro⟨l,f,⟨⟩⟩ a;refine⟨a,?_⟩;exact congrArg (·,()) (jbA (U.jb (α:=ShD) f.F) l)
theorem yN:zh PR 95 yB:=jM gY Tryz.func95 (kcC jbl kcN) koN
theorem jhH:jfE:=by
 intro d h;exact wu _ h rfl
theorem jf0:zh PR 135 jfK:=jM jhH Tryz.func135 kcN koN
theorem jkz:jid:=by
 intro d h;exact⟨fun g a=>⟨h g a,trivial⟩,congrArg (·,()) (jiX d.snd.fst.2 d.fst)⟩
theorem jiQ:zh PR 88 jiq:=jM jkz Tryz.func88 (kcC gP (kcC jf0 kcN)) koN
theorem jgi:jd7:=by
 intro d h;exact wu _ h rfl
theorem jeJ:zh PR 137 jej:=jM jgi Tryz.func137 kcN koN
theorem jjt:jg5:=by
 intro d h;exact⟨fun g a=>⟨h g a,trivial⟩,congrArg (·,()) (jiX d.snd.fst.2 d.fst)⟩
theorem jhw:zh PR 92 jhe:=jM jjt Tryz.func92 (kcC yM (kcC jeJ kcN)) koN
theorem jdB:jcj:=by
 intro d h;exact wu _ h rfl
theorem jcu:zh PR 139 jcm:=jM jdB Tryz.func139 kcN koN
theorem jgk:jd9:=by
 intro d h;exact⟨fun g a=>⟨h g a,trivial⟩,congrArg (·,()) (jiX d.snd.fst.2 d.fst)⟩
theorem jeL:zh PR 93 jel:=jM jgk Tryz.func93 (kcC vK (kcC jcu kcN)) koN
theorem jgj:jd8:=by
 intro d h;exact wu _ h rfl
theorem jeK:zh PR 140 jek:=jM jgj Tryz.func140 kcN koN
theorem jju:jg6:=by
 intro d h;exact⟨fun g a=>⟨h g a,trivial⟩,congrArg (·,()) (jiX d.snd.fst.2 d.fst)⟩
theorem jhx:zh PR 94 jhf:=jM jju Tryz.func94 (kcC yN (kcC jeK kcN)) koN
theorem jrq:jnz:=fun _=>rfl
theorem joG:zh PR 86 jnY:=jM jrq Tryz.func86 kcN koN
theorem jrp:jny:=by
 rintro⟨l,d,f,⟨⟩⟩ a _ _;exact⟨fun _=>a,rfl⟩
theorem joF:zh PR 87 jnX:=jM jrp Tryz.func87 (kcC jiQ kcN) koN
theorem jro:jnx:=by
 rintro⟨b,d,⟨⟩⟩ h;have h:(U.jz d).length<4611686018427387904:=h;exact⟨L.in64 (by show _<=((U.jz d).length:Int)-1;omega) (by show((U.jz d).length:Int)-1<=_;omega),rfl⟩
theorem joE:zh PR 89 jnW:=jM jro Tryz.func89 (kcC jdo kcN) koN
theorem jrn:jnw:=by
 unfold jnw q58_1 q58_0;rintro⟨s,d,⟨⟩⟩ h;refine⟨fun a=> ?_,fun b=>⟨fun a=> ?_,rfl⟩⟩
 .have h:=h a;exact L.in64 (by simp only at*;omega) (by simp only at*;omega)
 .have h:=b a;exact L.in64 (by simp only at*;omega) (by simp only at*;omega)
theorem joD:zh PR 91 jnV:=jM jrn Tryz.func91 (kcC jdo kcN) koN
theorem jyq (s:SpD):U.jgI s=U.jeM s:=by
 unfold U.jgI U.jeM;rw[jEk];simp only[jDK,decide_eq_true_eq];omega
theorem jys (n:Nat) (b:BkD):U.jiT n b=U.jbq n b:=by
 unfold U.jiT U.jbq U.ja;rw[jEk];simp only[jDK,decide_eq_true_eq];omega
theorem jyr (nb a:Nat) (s:ShD):U.joM nb a s=U.yO nb a s:=by
 unfold U.joM U.yO U.ja;rw[jEk];simp only[jDK,decide_eq_true_eq];omega
theorem jyK (d:DyD):(((((((decide (((U.jp d).length:Int)<=4)&&U.ja ((U.jz d).length:Int) 1 5)&&(U.jz d).all (fun r=>decide ((r.length:Int)=((U.jz d).length:Int))&&r.all U.jeM))&&(U.jp d).all (U.jbq (U.jz d).length))&&U.ja (U.jog d) 0 300)&&U.ja (U.jt1 d) 0 1440)&&decide (((U.zv d).length:Int)<=30))&&(U.zv d).all (U.yO (U.jp d).length (U.jh (U.jf d)).length))=U.zi d:=by
 unfold U.zi;have e:(fun(r:List SpD)=>decide ((r.length:Int)=((U.jz d).length:Int))&&r.all U.jeM)=U.qv (U.jz d).length:=by
  funext r;unfold U.qv;congr 1;exact decide_eq_decide.2 (by omega)
 rw[e];cases (U.jz d).all (U.qv (U.jz d).length)<;>cases (U.jp d).all (U.jbq (U.jz d).length)<;>cases (U.zv d).all (U.yO (U.jp d).length (U.jh (U.jf d)).length)<;>simp only[Bool.and_false,Bool.and_true,Bool.false_and,U.ja]
 rw[jEk];simp only[jDK,decide_eq_true_eq];omega
theorem jwO:jtg:=by
 unfold jtg q59_2 q59_1 q59_0;rintro⟨d,⟨⟩⟩ _ _;refine⟨fun _ _ _=>⟨fun _ _=>trivial,trivial⟩,fun _ _ _=>trivial,fun _=>⟨fun _ _ _=>trivial,?_⟩⟩;have a:(U.jb fun(x:SpD×Unit)=>(U.jgI x.fst,()))=U.jeM:=funext jyq;have b:(U.jb fun(x:BkD×Unit)=>(U.jiT (U.jz d).length x.fst,()))=U.jbq (U.jz d).length:=funext (jys _);have c:(U.jb fun(x:ShD×Unit)=>(U.joM (U.jp d).length (U.jh (U.jf d)).length x.fst,()))=U.yO (U.jp d).length (U.jh (U.jf d)).length:=funext (jyr _ _);simp only;rw[a,b,c];exact congrArg (·,()) (jyK d)
theorem jtQ:zh PR 46 jty:=jM jwO Tryz.func46 (kcC jdo (kcC joG (kcC joF (kcC joE (kcC joD (kcC jhw (kcC jeL (kcC jhx kcN)))))))) koN
theorem jjv:jg7:=by
 intro d;simp
theorem jhy:zh PR 144 jhg:=jM jjv Tryz.func144 kcN koN
theorem jgl:jea:=by
 unfold jea q61_0;rintro⟨a,b,⟨⟩⟩;refine⟨fun h=>(by cases h),fun _=>⟨fun h=>(by cases h),fun _=>⟨fun h=> ?_,fun h=>⟨fun c=> ?_,fun c=> ?_⟩⟩⟩⟩
 .have h:a<b:=of_decide_eq_true h;simp only;unfold U.gj;rw[if_pos h]
 .have h:¬a<b:=of_decide_eq_false h;have c:b<a:=of_decide_eq_true c;simp only;unfold U.gj;rw[if_neg h,if_pos c]
 .have h:¬a<b:=of_decide_eq_false h;have c:¬b<a:=of_decide_eq_false c;simp only;unfold U.gj;rw[if_neg h,if_neg c]
theorem wG:zh PR 101 jem:=jM jgl Tryz.func101 (kcC jhy kcN) koN
theorem jug {l:List Int} {i:Nat} (h:i<l.length) (a:∀b:Nat,b<i->nth l b=0) (hi:nth l i≠0):U.k8 l=nth l i:=by
 have e:l.find? (fun n=>decide (n≠0))=some (nth l i):=by
  rw[List.find?_eq_some_iff_getElem];refine⟨decide_eq_true hi,i,h,by rw[L.nth_lt h],fun j c=> ?_⟩;have:=a j c;rw[L.nth_lt (by omega)] at this;simp[this]
 unfold U.k8;rw[e]
theorem jpj {l:List Int} (a:∀b:Nat,b<l.length->nth l b=0):U.k8 l=0:=by
 have e:l.find? (fun n=>decide (n≠0))=none:=by
  rw[List.find?_eq_none];intro x c;obtain⟨i,hi,rfl⟩:=L.mem_iff.1 c;simp[a i hi]
 unfold U.k8;rw[e]
theorem jpa:jlT:=by
 rintro⟨l,⟨⟩⟩ f;refine⟨⟨0,⟨⟨rfl,trivial⟩,trivial⟩,jDU _,fun b c=>by omega⟩,fun x d=>⟨fun h=> ?_,fun h=> ?_⟩⟩
 .have h:x<l.length:=(by simpa using h);simp only[jDN];refine⟨by omega,by omega,fun a=> ?_,fun a=>⟨L.in64 (by omega) (by simp only at f;omega),x+1,⟨⟨by simp,trivial⟩,trivial⟩,⟨h,fun b c=> ?_⟩,by omega⟩⟩
  .rw[jug h d.2 (of_decide_eq_true a)]
  .by_cases e:b=x
   .subst e;exact Classical.not_not.1 (of_decide_eq_false a)
   .exact d.2 b (by omega)
 .have h:l.length<=x:=(by simpa using h);rw[jpj (fun b c=>d.2 b (by simp only at c;omega))]
theorem gR:zh PR 100 jl7:=wt jne jpa Tryz.func100 kcN koN
theorem jkA:jie:=fun _=>rfl
theorem jiR:zh PR 99 jir:=jM jkA Tryz.func99 (kcC wG (kcC gR kcN)) koN
theorem jt8:jp3:=fun _=>rfl
theorem jq0:zh PR 119 jqn:=jM jt8 Tryz.func119 (kcC wG (kcC gR kcN)) koN
theorem jhD:jfA:=by
 rintro⟨l,⟨⟩⟩ b c a;have b:l.length<=100000:=b;refine⟨fun h=>⟨?_,rfl⟩,fun _=>⟨by simp only;omega,by simp,rfl⟩⟩;have:l=[]:=a h;rw[this]
theorem jfW:wD PR 97 jfN:=jgK jhD Tryz.func97 kcN koN
theorem je1:jcW:=by
 unfold jcW q66_1 q66_4 q66_3 q66_2 q66_0;rintro⟨l,⟨⟩⟩ m C;have m:l.length<=100000:=m;obtain⟨eq,k⟩:∃eq,eq=U.kP:=⟨_,rfl⟩;have A:∀a b:ShD,decide (a=b)=eq a b:=fun a b=>by rw[k];rfl
 simp only[<-k,A,jDN];refine⟨fun h=>⟨?_,trivial⟩,fun h=> ?_⟩
 .have h:(l.length:Int)<2:=of_decide_eq_true h;rw[L.comp_short (by omega)]
 have h:¬(l.length:Int)<2:=of_decide_eq_false h;refine⟨⟨1,⟨⟨rfl,trivial⟩,trivial⟩,jDJ _,by omega,?_⟩,fun i hi _=>⟨fun g=> ?_,fun g=>⟨?_,trivial⟩⟩⟩
 .rw[L.comp_short];rw[jEa];omega
 .have g:(i:Int)<(l.length:Int):=of_decide_eq_true g;obtain⟨s,D,f⟩:=hi;have z:((i:Int)-1).toNat=i-1:=(by omega);rw[z];have n:=L.comp_take (eq:=eq) (l:=l) s (by omega:i<l.length);refine⟨by omega,g,by unfold jC;omega,by omega,by omega,fun j=>⟨by omega,by omega,jEB _,⟨(1,l),⟨⟨rfl,?_,trivial⟩,rfl,trivial⟩,jDJ _,by omega,rfl,?_,rfl,?_⟩,fun x q _=>⟨fun e=> ?_,fun e=> ?_⟩⟩,fun j=>⟨L.in64 (by omega) (by omega),i+1,⟨⟨by simp,trivial⟩,trivial⟩,⟨by omega,by omega,?_⟩,by omega⟩⟩
  .unfold U.jcC;rw[n,if_pos j,jEb,f,jEa];omega
  .rw[n,if_pos j,jEb,f,jEa];show l.take i=l.take (min i l.length);congr 1;omega
  .rw[n,if_pos j,jEb,f,jEa];omega
  .have e:(x.1:Int)<((l.length-i:Nat):Int):=of_decide_eq_true e;have r:=q;obtain⟨G,H,I,v,J,w⟩:=r;obtain⟨E,F⟩:=L.inv9_next s q (by omega);have y:((x.1:Int)-1).toNat=x.1-1:=(by omega);have o:i+(x.1-1)=i+x.1-1:=(by omega);rw[y,o];have p:U.jcC eq l (i+x.1)=((U.qF eq (l.take (i+x.1))).length:Int):=rfl;refine⟨by omega,e,by unfold jC;omega,by omega,by omega,fun c=> ?_,fun c=> ?_⟩
   .have c:eq (nth x.2 (i+x.1)) (nth x.2 (i+x.1-1))=false:=(by simpa using c);obtain⟨t,u⟩:=E c;refine⟨by omega,e,by omega,by omega,by unfold jC;omega,L.in64 (by omega) (by omega),(x.1+1,_),⟨⟨by simp,t.symm,trivial⟩,rfl,trivial⟩,u,by show _-(x.1+1)<_;omega⟩
   .have c:eq (nth x.2 (i+x.1)) (nth x.2 (i+x.1-1))=true:=(by simpa using c);obtain⟨t,u⟩:=F c;exact⟨L.in64 (by omega) (by omega),(x.1+1,x.2),⟨⟨t.symm,by simp,trivial⟩,rfl,trivial⟩,u,by show _-(x.1+1)<_;omega⟩
  .have e:¬(x.1:Int)<((l.length-i:Nat):Int):=of_decide_eq_false e;obtain⟨G,H,I,v,J,w⟩:=q;have p:U.jcC eq l (i+x.1)=((U.qF eq (l.take (i+x.1))).length:Int):=rfl;have d:l.take (i+x.1)=l:=jEx (by omega);rw[d] at p v w;rw[p];simp only[jDN];have B:=L.comp_len (eq:=eq) l;refine⟨by omega,by omega,jEB _,by omega,by omega,by omega,?_,⟨?_,trivial⟩⟩
   .simp only[jD0,jEa,jEG];omega
   .congr 1;rw[show(U.qF eq l).length-Int.toNat 0=(U.qF eq l).length from rfl];rw[List.take_left' (by rw[jEa];omega)];exact v.symm
  .rw[n,if_neg (by rw[j];simp),f];exact(L.take_succ (by omega)).symm
 .have g:¬(i:Int)<(l.length:Int):=of_decide_eq_false g;obtain⟨s,D,f⟩:=hi;have d:l.take i=l:=jEx (by omega);rw[d] at f;rw[f]
theorem jdm:wD PR 102 jc7:=ji0 jdR je1 Tryz.func102 kcN koN
theorem qS:wD PR 98 jcn:=
 jqz Tryz.sortSh 54 rfl (jDT (by kernel_rfl)) Tryz.isAgg54 Tryz.sizeOf54 (wi Tryz.func98 (c:=zz Tryz.f98) (by kernel_rfl) (by kernel_rfl))
theorem jza:jaQ U.wX:=by
 have e:U.wX=jxS (fun a b=>U.gj (U.zX a) (U.zX b)) (jxS (fun a b=>U.gj (U.jnl a) (U.jnl b)) (jxS (fun a b=>U.gj (U.jx7 a) (U.jx7 b)) (jxS (fun a b=>U.gj (U.jix a) (U.jix b)) (fun a b=>U.gj (U.vS a) (U.vS b))))):=by
  funext a b;unfold U.wX;simp only[j0,kO,jxS]
  split<;>(try rfl);split<;>(try rfl);split<;>(try rfl);split<;>(try rfl);split<;>(try rfl)
  rename_i h;exact(Classical.not_not.1 h).symm
 rw[e];exact jf6 (jgG jfi U.zX) (jf6 (jgG jfi U.jnl) (jf6 (jgG jfi U.jx7) (jf6 (jgG jfi U.jix) (jgG jfi U.vS))))
theorem juy {a b:ShD} (h:U.wX a b=0):a=b:=by
 unfold U.wX at h;rw[j0] at h
 split at h
 .contradiction
 rename_i c;rw[j0] at h
 split at h
 .contradiction
 rename_i d;rw[j0] at h
 split at h
 .contradiction
 rename_i e;rw[j0] at h
 split at h
 .contradiction
 rename_i f;rw[kO] at h;have c:=qX.1 (Classical.not_not.1 c);have d:=qX.1 (Classical.not_not.1 d);have e:=qX.1 (Classical.not_not.1 e);have f:=qX.1 (Classical.not_not.1 f);have g:=qX.1 h;obtain⟨i,j,k,l,m,⟨⟩⟩:=a;obtain⟨n,o,p,q,r,⟨⟩⟩:=b;have c:i=n:=c;have d:j=o:=d;have e:k=p:=e;have f:l=q:=f;have g:m=r:=g;rw[c,d,e,f,g]
theorem jmp (l:List ShD):kh (U.jd tSh fun x=>(U.wX x.1 x.2.1,())) l:=jmq jza (fun _ _ _ _ h=>juy h)
theorem jxi (l:List ShD):(U.jH l).length<=l.length:=by
 unfold U.jH;refine jDV (L.comp_len _) ?_;rw[(j9 l).length_eq];exact jDJ _
theorem jo8:jlR:=by
 unfold jlR q67_0;rintro⟨l,⟨⟩⟩ a;exact⟨a,fun _ _ _ _=>trivial,jmp l,by rw[(j9 (lt:=U.jd tSh fun x=>(U.wX x.1 x.2.1,())) l).length_eq];exact a,rfl,rfl⟩
theorem gQ:wD PR 48 jmb:=jgK jo8 Tryz.func48 (kcC jiR kcN) (koC jfW (koC qS (koC jdm koN)))
theorem jrs:jnB:=by
 unfold jnB q68_0;rintro⟨s,⟨m,⟨⟩⟩,⟨⟩⟩ h;have h:U.jvo m:=h;have:=h (U.zX s);have this:0<=kr 0 (zt .int s.1 m)/\kr 0 (zt .int s.1 m)<=200000:=this;exact⟨L.in64 (by simp only;omega) (by simp only;omega),rfl,rfl⟩
theorem joI:wD PR 96 jn8:=jgK jrs Tryz.func96 kcN koN
theorem gg {m:List (Int×Int)} {l:List ShD} {i:Nat} (h:i<l.length):U.kA m l (i+1)=U.jcb (U.kA m l i) (nth l i):=by
 unfold U.kA;rw[L.take_succ h,jEi];rfl
theorem jzY (l:List ShD):∀i,i<=l.length->∀k,0<=kr 0 (zt .int k (U.kA [] l i))/\kr 0 (zt .int k (U.kA [] l i))<=(i:Int)
 |0,_,k=>⟨jEB 0,jEB 0⟩
 |i+1,hi,k=>by
  have b:=jzY l i (by omega)
  rw[gg (by omega)]
  unfold U.jcb
  by_cases e:k=U.zX (nth l i)
  .rw[e]
   have a:=M.mfind_mput (kt:= .int) (U.zX (nth l i)) (kr 0 (zt .int (U.zX (nth l i)) (U.kA [] l i))+1) (U.kA [] l i)
   rw[a]
   have:=b (U.zX (nth l i))
   show 0<=kr 0 (zt .int (U.zX (nth l i)) (U.kA [] l i))+1/\kr 0 (zt .int (U.zX (nth l i)) (U.kA [] l i))+1<=_
   omega
  .have a:=M.mfind_mput_ne (kt:= .int) (k:=U.zX (nth l i)) (k':=k) e (kr 0 (zt .int (U.zX (nth l i)) (U.kA [] l i))+1) (U.kA [] l i)
   rw[a]
   have:=b k
   omega
theorem jzo {m:List (Int×Int)} {l:List ShD} {i:Nat} (h:i<l.length) (a:∀b:Nat,b<i->U.jft m l b=false) (hi:U.jft m l i=true):U.jbP m l=(i:Int)/\U.jxI m l=i+1:=by
 have e:(List.range l.length).findIdx? (U.jft m l)=some i:=by
  rw[List.findIdx?_eq_some_iff_getElem];refine⟨by simpa using h,by simpa using hi,fun j c=>by simp[a j c]⟩
 unfold U.jbP U.jxI U.gw;rw[e];exact⟨rfl,rfl⟩
theorem jlJ {m:List (Int×Int)} {l:List ShD} (a:∀b:Nat,b<l.length->U.jft m l b=false):U.jbP m l= -1/\U.jxI m l=l.length:=by
 have e:(List.range l.length).findIdx? (U.jft m l)=none:=by
  rw[List.findIdx?_eq_none_iff];intro x c;exact a x (jD3.1 c)
 unfold U.jbP U.jxI U.gw;rw[e];exact⟨rfl,rfl⟩
theorem gW:yv:=by
 rintro⟨l,⟨m,⟨⟩⟩,⟨⟩⟩ n g o;have g:m=[]:=g;subst g;have n:l.length<=100000:=n;refine⟨⟨0,⟨⟨rfl,trivial⟩,rfl,trivial⟩,jDU _,fun b j=>by omega⟩,fun x a=>⟨fun h=> ?_,fun h=> ?_⟩⟩
 .have h:x<l.length:=(by simpa using h);simp only[jDN];refine⟨by omega,by omega,fun k=> ?_,fun f=> ?_,fun f=>⟨L.in64 (by omega) (by omega),x+1,⟨⟨by simp,trivial⟩,⟨trivial,trivial⟩,(gg h).symm,trivial⟩,⟨h,fun b j=> ?_⟩,by omega⟩⟩
  .have:=jzY l x (by omega) k;omega
  .obtain⟨c,d⟩:=jzo h a.2 f;unfold U.jdI;rw[c,d,gg h];exact⟨rfl,rfl⟩
  .by_cases e:b=x
   .subst e;exact f
   .exact a.2 b (by omega)
 .have h:l.length<=x:=(by simpa using h);obtain⟨c,d⟩:=jlJ (m:=[]) (l:=l) (fun b j=>a.2 b (by omega));have i:x=l.length:=(by have:=a.1;simp only at this;omega);unfold U.jdI;rw[c,d,i];exact⟨rfl,rfl⟩
theorem yL:wD PR 141 yD:=ji0 gp gW Tryz.func141 kcN (koC joI koN)
theorem vL:vd:=fun _ a b=>⟨a,b,rfl,rfl⟩
theorem vq:wD PR 95 vk:=jgK vL Tryz.func95 kcN (koC yL koN)
theorem jwP:jth:=fun _ h=>⟨h,rfl,rfl⟩
theorem jk5:zh PR 47 jtz:=jM jwP Tryz.func47 kcN (koC vq koN)
theorem jx6 {c:CrD} (h:U.jr c=true):U.j7 c (0,1,0,0,0,1,())=true:=by
 obtain⟨a,_⟩:=jG h;unfold U.j7;refine decide_eq_true ?_;refine⟨by decide,?_,by decide,?_,by decide,by decide,by decide,by decide,by decide,by decide,by decide,by decide,by decide⟩
 .show(0:Int)<=U.la c-1;omega
 .show(1:Int)<=U.la c-1;omega
theorem jxs (c:CrD):U.zN c (0,1,0,0,0,1,())=if U.jr c=false then 30 else 0:=by
 unfold U.zN;by_cases h:U.jr c=false
 .rw[if_pos h,if_pos h]
 .rw[if_neg h,if_neg h,if_neg (by rw[jx6 (by simpa using h)];simp)]
theorem jmQ:jj6:=by
 unfold jj6 q72_0;rintro⟨d,⟨⟩⟩;have e:=jxs d.1;simp only[e];by_cases f:U.jr d.1=false
 .rw[if_pos f];refine⟨fun _=> ?_,fun h=>by simp at h⟩;have f:U.jr (U.jf d)=false:=f;unfold U.jjQ;rw[if_pos f]
 .rw[if_neg f];have c:U.jr (U.jf d)=true:=eq_true_of_ne_false f;refine⟨fun h=>by simp at h,fun _ k=>⟨⟨0,⟨⟨rfl,trivial⟩,trivial⟩,jDU _,fun b j=>by omega⟩,fun x l=>⟨fun h=> ?_,fun h=> ?_⟩⟩⟩
  .have h:(x:Int)<((U.jp d).length:Int):=of_decide_eq_true h;have h:x<(U.jp d).length:=(by omega);have k:(U.jp d).length<4611686018427387904:=k;have m:U.zN d.1 (nth d.2.2.1 x).1=if U.j7 (U.jf d) (U.jcJ (nth (U.jp d) x))=false then 31 else 0:=by
    show(if U.jr (U.jf d)=false then(30:Int) else if U.j7 (U.jf d) (U.jcJ (nth (U.jp d) x))=false then 31 else 0)=_;rw[if_neg (by rw[c];simp)]
   simp only[jDN,m];refine⟨by omega,by show(x:Int)<((U.jp d).length:Int);omega,fun a=> ?_,fun a=>⟨L.in64 (by omega) (by omega),x+1,⟨⟨by simp,trivial⟩,trivial⟩,⟨h,fun b j=> ?_⟩,(by show(U.jp d).length-(x+1)<(U.jp d).length-x;omega)⟩⟩
   .have a:=of_decide_eq_true a;by_cases g:U.j7 (U.jf d) (U.jcJ (nth (U.jp d) x))=false
    .rw[if_pos g];unfold U.jjQ;rw[if_neg (by rw[c];simp),if_pos];unfold U.jwy;exact L.all_false h g
    .rw[if_neg g] at a;exact absurd rfl a
   .have a:=of_decide_eq_false a;by_cases n:b=x
    .subst n;by_cases g:U.j7 (U.jf d) (U.jcJ (nth (U.jp d) b))=false
     .rw[if_pos g] at a;exact absurd (by decide) a
     .exact eq_true_of_ne_false g
    .exact l.2 b (by omega)
  .have h:¬(x:Int)<((U.jp d).length:Int):=of_decide_eq_false h;have h:(U.jp d).length<=x:=(by omega);unfold U.jjQ;rw[if_neg (by rw[c];simp),if_neg];rw[Bool.not_eq_false];unfold U.jwy;rw[jEf];intro b j;obtain⟨i,hi,rfl⟩:=L.mem_iff.1 j;exact l.2 i (by omega)
theorem jkp:zh PR 45 jke:=wt jkL jmQ Tryz.func45 (kcC jk4 kcN) koN
theorem jwS:jtk:=by
 rintro⟨d,⟨⟩⟩ c;refine⟨fun h=> ?_,fun h=>⟨fun b=> ?_,fun b=>⟨c,jDV (jxi _) c,fun a=> ?_,fun a=> ?_⟩⟩⟩
 .have h:=of_decide_eq_true h;simp only at h⊢;unfold U.jw;rw[if_pos h]
 .have h:=of_decide_eq_false h;simp only at h⊢;unfold U.jw;rw[if_neg h,if_pos (by simpa using b)]
 .have h:=of_decide_eq_false h;simp only at h⊢;unfold U.jw;rw[if_neg h,if_neg (by simpa using b)];have a:U.jrI (U.jH (U.zv d))=true:=a;rw[if_pos a]
 .have h:=of_decide_eq_false h;simp only at h⊢;unfold U.jw;rw[if_neg h,if_neg (by simpa using b)];have a:U.jrI (U.jH (U.zv d))=false:=a;rw[if_neg (by rw[a];simp)]
theorem jk7:zh PR 16 jtC:=jM jwS Tryz.func16 (kcC jkp (kcC jtQ (kcC jk5 kcN))) (koC gQ koN)
end Go.X
namespace Go.X
namespace U
def jts {α:Type} [Inhabited α] (l:List α) (j k:Nat):List α:=(l.set j (nth l k)).set k (nth l j)
def jco {α:Type} [Inhabited α] (lt:α->α->Bool):List α->Nat->List α
 |l,0=>l
 |l,j+1=>if lt (nth l (j+1)) (nth l j)=true then jco lt (jts l (j+1) j) j else l
def yj {α:Type} [Inhabited α] (lt:α->α->Bool) (l:List α) (i:Nat):List α:=(List.range i).foldl (jco lt) l
def jav {α:Type} [Inhabited α] (lt:α->α->Bool) (l:List α):List α:=yj lt l l.length
def jdw {α:Type} (lt:α->α->Bool) (x:α):List α->List α
 |[]=>[x]
 |y::r=>if lt x y=true then y::jdw lt x r else x::y::r
end U
namespace IS
variable {α:Type} [Inhabited α] {lt:α->α->Bool}
theorem swap_perm {l:List α} {j k:Nat} (a:j<l.length) (hk:k<l.length):(U.jts l j k).Perm l:=by
 unfold U.jts;rw[L.nth_lt a,L.nth_lt hk];exact List.set_set_perm a hk
theorem sink_perm:∀(j:Nat) (l:List α),j<l.length->(U.jco lt l j).Perm l
 |0,l,_=>List.Perm.refl _
 |j+1,l,h=>by
  unfold U.jco
  have a:=swap_perm (l:=l) (j:=j+1) (k:=j) h (by omega)
  split
  .exact(sink_perm j _ (by rw[a.length_eq];omega)).trans a
  .exact List.Perm.refl _
theorem part_succ (lt:α->α->Bool) (l:List α) (i:Nat):U.yj lt l (i+1)=U.jco lt (U.yj lt l i) i:=by
 simp[U.yj,jEw]
theorem part_perm {l:List α}:∀(i:Nat),i<=l.length->(U.yj lt l i).Perm l
 |0,_=>List.Perm.refl _
 |i+1,h=>by
  rw[part_succ]
  have a:=part_perm (l:=l) i (by omega)
  exact(sink_perm i _ (by rw[a.length_eq];omega)).trans a
theorem isort_perm (lt:α->α->Bool) (l:List α):(U.jav lt l).Perm l:=part_perm _ (jDJ _)
theorem part_isort {l:List α} {i:Nat} (a:1<=i) (b:i<=max l.length 1) (c:l.length<=i):U.yj lt l i=U.jav lt l:=by
 unfold U.jav;by_cases h:l.length=0
 .have:i=1:=(by omega);subst this;rw[h];rfl
 .have:i=l.length:=(by omega);rw[this]
theorem insR_len {α:Type} {lt:α->α->Bool} (x:α):∀q:List α,(U.jdw lt x q).length=q.length+1
 |[]=>rfl
 |y::r=>by
  unfold U.jdw
  split
  .simp[insR_len x r]
  .simp
theorem nth_mid (a:List α) (x:α) (s:List α):nth (a++x::s) a.length=x:=by
 rw[L.nth_lt (by simp)];simp
theorem sink_app:∀(q:List α) (x:α) (s:List α),U.jco lt (q.reverse++x::s) q.length=(U.jdw lt x q).reverse++s
 |[],x,s=>rfl
 |y::r,x,s=>by
  have e:(y::r).reverse++x::s=r.reverse++y::x::s:=by simp
  rw[e]
  have g:nth (r.reverse++y::x::s) (r.length+1)=x:=by
   have:=nth_mid (r.reverse++[y]) x s;simpa using this
  have h:nth (r.reverse++y::x::s) r.length=y:=by
   have:=nth_mid r.reverse y (x::s);simpa using this
  show(if lt (nth _ (r.length+1)) (nth _ r.length)=true then U.jco lt (U.jts _ (r.length+1) r.length) r.length else _)=_;rw[g,h];unfold U.jdw
  split
  .have a:U.jts (r.reverse++y::x::s) (r.length+1) r.length=r.reverse++x::(y::s):=by
    unfold U.jts;rw[g,h];apply List.ext_getElem?;intro k;simp only[List.getElem?_set,List.length_set];by_cases b:r.length=k
    .subst b;rw[if_pos rfl,if_pos (by simp)];rw[jDR (by simp)];simp
    .rw[if_neg b];by_cases c:r.length+1=k
     .subst c;rw[if_pos rfl,if_pos (by simp)];rw[jDR (by simp)];simp
     .rw[if_neg c];by_cases f:k<r.length
      .rw[jDS (by simpa using f),jDS (by simpa using f)]
      .rw[jDR (by simp;omega),jDR (by simp;omega)];obtain⟨d,i⟩:∃d,k-r.reverse.length=d+2:=⟨k-r.length-2,by simp;omega⟩;rw[i];simp
   rw[a,sink_app r x (y::s)];simp
  .simp
theorem fold_len {α:Type} {lt:α->α->Bool}:∀(l q:List α),(l.foldl (fun q x=>U.jdw lt x q) q).length=q.length+l.length
 |[],q=>rfl
 |x::l,q=>by
  simp only[List.foldl_cons,jEe]
  rw[fold_len l,insR_len];omega
theorem part_eq (l:List α):∀i,i<=l.length->U.yj lt l i=((l.take i).foldl (fun q x=>U.jdw lt x q) []).reverse++l.drop i
 |0,_=>by simp[U.yj]
 |i+1,h=>by
  rw[part_succ,part_eq l i (by omega)]
  have b:l.drop i=nth l i::l.drop (i+1):=by
   rw[L.nth_lt (by omega)];exact List.drop_eq_getElem_cons (by omega)
  rw[b];have a:((l.take i).foldl (fun q x=>U.jdw lt x q) []).length=i:=(by rw[fold_len];simp;omega);have:=sink_app (lt:=lt) ((l.take i).foldl (fun q x=>U.jdw lt x q) []) (nth l i) (l.drop (i+1));rw[a] at this;rw[this,L.take_succ (by omega),jEi];rfl
theorem isort_eq (l:List α):U.jav lt l=(l.foldl (fun q x=>U.jdw lt x q) []).reverse:=by
 unfold U.jav;rw[part_eq l _ (jDJ _)];simp
theorem insR_mem {α:Type} {lt:α->α->Bool} {x z:α}:∀{q:List α},z∈U.jdw lt x q↔z=x\/z∈q
 |[]=>by simp[U.jdw]
 |y::r=>by
  unfold U.jdw
  split
  .simp only[jDH,insR_mem (q:=r)]
   constructor
   .rintro(h|h|h)<;>simp[h]
   .rintro(h|h|h)<;>simp[h]
  .simp
theorem insR_desc {α:Type} {lt:α->α->Bool} {x:α}:∀{q:List α},kh lt (x::q)->q.Pairwise (fun a b=>lt a b=false)->(U.jdw lt x q).Pairwise (fun a b=>lt a b=false)
 |[],_,_=>by simp[U.jdw]
 |y::r,ho,h=>by
  rw[jEr] at h
  unfold U.jdw
  split
  .rename_i d
   rw[jEr]
   refine⟨fun z c=> ?_,insR_desc (ho.sub (fun z c=>by rcases jDH.1 c with h|h;exact h▸jEg;exact jDO _ (jDO _ h))) h.2⟩
   rcases insR_mem.1 c with rfl|c
   .exact ho.asymm (by simp) (by simp) d
   .exact h.1 z c
  .rename_i d
   have d:lt x y=false:=by simpa using d
   rw[jEr]
   refine⟨fun z c=> ?_,jEr.2 h⟩
   rcases jDH.1 c with rfl|c
   .exact d
   .exact ho.ntrans (by simp) (by simp) (by simp[c]) d (h.1 z c)
theorem fold_desc {α:Type} {lt:α->α->Bool}:∀(l q:List α),kh lt (l++q)->q.Pairwise (fun a b=>lt a b=false)->(l.foldl (fun q x=>U.jdw lt x q) q).Pairwise (fun a b=>lt a b=false)
 |[],q,_,h=>h
 |x::l,q,ho,h=>by
  refine fold_desc l _ (ho.sub (fun z c=> ?_)) (insR_desc (ho.sub (fun z c=> ?_)) h)
  .rcases jDP.1 c with c|c
   .simp[c]
   .rcases insR_mem.1 c with rfl|c
    .simp
    .simp[c]
  .rcases jDH.1 c with rfl|c
   .simp
   .simp[c]
theorem isort_asc {l:List α} (a:kh lt l):js9 lt (U.jav lt l):=by
 rw[isort_eq];unfold js9;rw[List.pairwise_reverse];exact fold_desc l [] (by simpa using a) (by simp)
theorem isort_sort {l:List α} (a:kh lt l):U.jav lt l=U.jc lt l:=jn5 a (isort_perm lt l) (isort_asc a)
end IS
end Go.X
namespace Go.X
open Go.Proofs
def U.len8tab:ByteArray:=⟨#[0,1,2,2,3,3,3,3,4,4,4,4,4,4,4,4,5,5,5,5,5,5,5,5,5,5,5,5,5,5,5,5,6,6,6,6,6,6,6,6,6,6,6,6,6,6,6,6,6,6,6,6,6,6,6,6,6,6,6,6,6,6,6,6,7,7,7,7,7,7,7,7,7,7,7,7,7,7,7,7,7,7,7,7,7,7,7,7,7,7,7,7,7,7,7,7,7,7,7,7,7,7,7,7,7,7,7,7,7,7,7,7,7,7,7,7,7,7,7,7,7,7,7,7,7,7,7,7,8,8,8,8,8,8,8,8,8,8,8,8,8,8,8,8,8,8,8,8,8,8,8,8,8,8,8,8,8,8,8,8,8,8,8,8,8,8,8,8,8,8,8,8,8,8,8,8,8,8,8,8,8,8,8,8,8,8,8,8,8,8,8,8,8,8,8,8,8,8,8,8,8,8,8,8,8,8,8,8,8,8,8,8,8,8,8,8,8,8,8,8,8,8,8,8,8,8,8,8,8,8,8,8,8,8,8,8,8,8,8,8,8,8,8,8,8,8,8,8,8,8,8,8,8,8,8,8]⟩
abbrev rwI:Sh:= .cl (.row 3 .int .unk)
namespace U
abbrev FC:=Int×Int×Unit->Int×Unit
abbrev qW (F:FC):Int->Int->Bool:=jd .int F
def jas (p:Int×Int×Unit->List Prop) (l:List Int):Prop:=∀x∈l,∀y∈l,jx (p (x,y,()))
def jdN (n:Int):Int:=if n=0 then 0 else if n<2 then 1 else if n<4 then 2 else if n<8 then 3 else 4
end U
def jl9:jR:=⟨[.val (.uint .u64)],[.int],false,fun d=>[0<=d.1/\d.1<=12],fun d=>(U.jdN d.1,())⟩
abbrev q74_0 (d:Int×Unit):=(d.1/(2:Int)^Int.toNat 32/(2:Int)^Int.toNat 16/(2:Int)^Int.toNat 8)
abbrev q74_1 (d:Int×Unit):=(d.1/(2:Int)^Int.toNat 32/(2:Int)^Int.toNat 16)
abbrev q74_2 (d:Int×Unit):=(d.1/(2:Int)^Int.toNat 32/(2:Int)^Int.toNat 8)
abbrev q74_3 (d:Int×Unit):=(d.1/(2:Int)^Int.toNat 16/(2:Int)^Int.toNat 8)
abbrev q74_4 (d:Int×Unit):=(256<=d.1/(2:Int)^Int.toNat 32/(2:Int)^Int.toNat 16)
def jlV:Prop:=∀(d:Int×Unit),0<=d.1/\d.1<=12->(decide (4294967296<=d.1)=true->(0:Int)<=32/\(32:Int)<=64/\(decide (65536<=d.1/(2:Int)^Int.toNat 32)=true->(0:Int)<=16/\(16:Int)<=64/\jC ((32:Int)+16)/\(decide (q74_4 d)=true->(0:Int)<=8/\(8:Int)<=64/\jC ((32:Int)+16+8)/\0<=d.1/(2:Int)^Int.toNat 32/(2:Int)^Int.toNat 16/(2:Int)^Int.toNat 8/\d.1/(2:Int)^Int.toNat 32/(2:Int)^Int.toNat 16/(2:Int)^Int.toNat 8<=255/\0<=d.1/(2:Int)^Int.toNat 32/(2:Int)^Int.toNat 16/(2:Int)^Int.toNat 8/\d.1/(2:Int)^Int.toNat 32/(2:Int)^Int.toNat 16/(2:Int)^Int.toNat 8<(U.len8tab.size:Int)/\jC (wQ U.len8tab (q74_0 d).toNat)/\jC ((32:Int)+16+8+wQ U.len8tab (q74_0 d).toNat)/\((32:Int)+16+8+wQ U.len8tab (q74_0 d).toNat,())=(U.jdN d.1,()))/\(decide (q74_4 d)=false->0<=d.1/(2:Int)^Int.toNat 32/(2:Int)^Int.toNat 16/\d.1/(2:Int)^Int.toNat 32/(2:Int)^Int.toNat 16<=255/\0<=d.1/(2:Int)^Int.toNat 32/(2:Int)^Int.toNat 16/\d.1/(2:Int)^Int.toNat 32/(2:Int)^Int.toNat 16<(U.len8tab.size:Int)/\jC (wQ U.len8tab (q74_1 d).toNat)/\jC ((32:Int)+16+wQ U.len8tab (q74_1 d).toNat)/\((32:Int)+16+wQ U.len8tab (q74_1 d).toNat,())=(U.jdN d.1,())))/\(decide (65536<=d.1/(2:Int)^Int.toNat 32)=false->(decide (256<=d.1/(2:Int)^Int.toNat 32)=true->(0:Int)<=8/\(8:Int)<=64/\jC ((32:Int)+8)/\0<=d.1/(2:Int)^Int.toNat 32/(2:Int)^Int.toNat 8/\d.1/(2:Int)^Int.toNat 32/(2:Int)^Int.toNat 8<=255/\0<=d.1/(2:Int)^Int.toNat 32/(2:Int)^Int.toNat 8/\d.1/(2:Int)^Int.toNat 32/(2:Int)^Int.toNat 8<(U.len8tab.size:Int)/\jC (wQ U.len8tab (q74_2 d).toNat)/\jC ((32:Int)+8+wQ U.len8tab (q74_2 d).toNat)/\((32:Int)+8+wQ U.len8tab (q74_2 d).toNat,())=(U.jdN d.1,()))/\(decide (256<=d.1/(2:Int)^Int.toNat 32)=false->0<=d.1/(2:Int)^Int.toNat 32/\d.1/(2:Int)^Int.toNat 32<=255/\0<=d.1/(2:Int)^Int.toNat 32/\d.1/(2:Int)^Int.toNat 32<(U.len8tab.size:Int)/\jC (wQ U.len8tab (d.1/(2:Int)^Int.toNat 32).toNat)/\jC ((32:Int)+wQ U.len8tab (d.1/(2:Int)^Int.toNat 32).toNat)/\((32:Int)+wQ U.len8tab (d.1/(2:Int)^Int.toNat 32).toNat,())=(U.jdN d.1,()))))/\(decide (4294967296<=d.1)=false->(decide (65536<=d.1)=true->(0:Int)<=16/\(16:Int)<=64/\jC ((0:Int)+16)/\(decide (256<=d.1/(2:Int)^Int.toNat 16)=true->(0:Int)<=8/\(8:Int)<=64/\jC ((0:Int)+16+8)/\0<=d.1/(2:Int)^Int.toNat 16/(2:Int)^Int.toNat 8/\d.1/(2:Int)^Int.toNat 16/(2:Int)^Int.toNat 8<=255/\0<=d.1/(2:Int)^Int.toNat 16/(2:Int)^Int.toNat 8/\d.1/(2:Int)^Int.toNat 16/(2:Int)^Int.toNat 8<(U.len8tab.size:Int)/\jC (wQ U.len8tab (q74_3 d).toNat)/\jC ((0:Int)+16+8+wQ U.len8tab (q74_3 d).toNat)/\((0:Int)+16+8+wQ U.len8tab (q74_3 d).toNat,())=(U.jdN d.1,()))/\(decide (256<=d.1/(2:Int)^Int.toNat 16)=false->0<=d.1/(2:Int)^Int.toNat 16/\d.1/(2:Int)^Int.toNat 16<=255/\0<=d.1/(2:Int)^Int.toNat 16/\d.1/(2:Int)^Int.toNat 16<(U.len8tab.size:Int)/\jC (wQ U.len8tab (d.1/(2:Int)^Int.toNat 16).toNat)/\jC ((0:Int)+16+wQ U.len8tab (d.1/(2:Int)^Int.toNat 16).toNat)/\((0:Int)+16+wQ U.len8tab (d.1/(2:Int)^Int.toNat 16).toNat,())=(U.jdN d.1,())))/\(decide (65536<=d.1)=false->(decide (256<=d.1)=true->(0:Int)<=8/\(8:Int)<=64/\jC ((0:Int)+8)/\0<=d.1/(2:Int)^Int.toNat 8/\d.1/(2:Int)^Int.toNat 8<=255/\0<=d.1/(2:Int)^Int.toNat 8/\d.1/(2:Int)^Int.toNat 8<(U.len8tab.size:Int)/\jC (wQ U.len8tab (d.1/(2:Int)^Int.toNat 8).toNat)/\jC ((0:Int)+8+wQ U.len8tab (d.1/(2:Int)^Int.toNat 8).toNat)/\((0:Int)+8+wQ U.len8tab (d.1/(2:Int)^Int.toNat 8).toNat,())=(U.jdN d.1,()))/\(decide (256<=d.1)=false->0<=d.1/\d.1<=255/\0<=d.1/\d.1<(U.len8tab.size:Int)/\jC (wQ U.len8tab d.1.toNat)/\jC ((0:Int)+wQ U.len8tab d.1.toNat)/\((0:Int)+wQ U.len8tab d.1.toNat,())=(U.jdN d.1,()))))
def jqt:jR:=⟨[.val (.uint .u64)],[.int],false,fun d=>[0<=d.1/\d.1<=12],fun d=>(U.jdN d.1,())⟩
def jp9:Prop:=∀(d:Int×Unit),0<=d.1/\d.1<=12->(false=true->False)/\(false=false->(0<=d.1/\d.1<=12)/\(U.jdN d.1,())=(U.jdN d.1,()))
def qm:zw:=⟨[.own rwI true,.val .int,.val .int,.fn [.int,.int] [.int]],[],fun d=>[d.2.1=0/\d.2.2.1=(d.1.length:Int)/\d.1.length<=12,U.jas d.2.2.2.1.pre d.1],fun d=>((),(U.jav (U.qW d.2.2.2.1.F) d.1,()))⟩
def qH:Ann:=fun r=>match r with
 |1=>some fun σ=>{X:=Nat,sl:=fun i=>[(8,.dat .int (i:Int))],ob:=fun i=>[(1000000,some (.row 3 .int false .unk (U.yj (U.qW (gfn [.int,.int] [.int] σ 3)) (gr .int σ 1000000) i)))],inv:=fun i=>1<=i/\i<=max (gr .int σ 1000000).length 1,mu:=fun i=>(gr .int σ 1000000).length-i}
 |4=>some fun σ=>{X:=Nat×List Int,sl:=fun x=>[(9,.dat .int (x.1:Int))],ob:=fun x=>[(1000000,some (.row 3 .int false .unk x.2))],inv:=fun x=>(x.1:Int)<=gd .int σ 8/\x.2.Perm (gr .int σ 1000000)/\U.jco (U.qW (gfn [.int,.int] [.int] σ 3)) x.2 x.1=U.jco (U.qW (gfn [.int,.int] [.int] σ 3)) (gr .int σ 1000000) (gd .int σ 8).toNat,mu:=fun x=>x.1}
 |_=>none
abbrev q76_0 (a:Nat×List Int):=(nth a.2 (a.1:Int).toNat,nth a.2 ((a.1:Int)-1).toNat,())
abbrev q76_1 (d:List Int×Int×Int×FnD [Ty.int,Ty.int] [Ty.int]×Unit):=(U.qW d.2.2.2.1.2)
def ql:Prop:=∀(d:List Int×Int×Int×FnD [Ty.int,Ty.int] [Ty.int]×Unit),d.2.1=0/\d.2.2.1=(d.1.length:Int)/\d.1.length<=12->U.jas d.2.2.2.1.1 d.1->jC (d.2.1+1)/\(∃(x:Nat),((d.2.1+1=(x:Int)/\True)/\d.1=U.yj (q76_1 d) d.1 x/\True)/\1<=x/\x<=max d.1.length 1)/\∀(x:Nat),1<=x/\x<=max d.1.length 1->(decide ((x:Int)<d.2.2.1)=true->(∃(a:Nat×List Int),(((x:Int)=(a.1:Int)/\True)/\U.yj (q76_1 d) d.1 x=a.2/\True)/\(a.1:Int)<=(x:Int)/\a.2.Perm (U.yj (q76_1 d) d.1 x)/\U.jco (q76_1 d) a.2 a.1=U.jco (q76_1 d) (U.yj (q76_1 d) d.1 x) (x:Int).toNat)/\∀(a:Nat×List Int),(a.1:Int)<=(x:Int)/\a.2.Perm (U.yj (q76_1 d) d.1 x)/\U.jco (q76_1 d) a.2 a.1=U.jco (q76_1 d) (U.yj (q76_1 d) d.1 x) (x:Int).toNat->(decide (d.2.1<(a.1:Int))=true->0<=(a.1:Int))/\(decide (d.2.1<(a.1:Int))=true->(a.1:Int)<(a.2.length:Int))/\(decide (d.2.1<(a.1:Int))=true->jC ((a.1:Int)-1))/\(decide (d.2.1<(a.1:Int))=true->0<=(a.1:Int)-1)/\(decide (d.2.1<(a.1:Int))=true->(a.1:Int)-1<(a.2.length:Int))/\jxC (decide (d.2.1<(a.1:Int))) (d.2.2.2.1.1 (q76_0 a)) (((decide (d.2.1<(a.1:Int))&&decide ((d.2.2.2.1.2 (q76_0 a)).1<0))=true->jC ((a.1:Int)-1)/\jC ((a.1:Int)-1)/\0<=(a.1:Int)-1/\(a.1:Int)-1<(a.2.length:Int)/\0<=(a.1:Int)/\(a.1:Int)<(a.2.length:Int)/\0<=(a.1:Int)/\(a.1:Int)<(a.2.length:Int)/\0<=(a.1:Int)-1/\(a.1:Int)-1<(↑(a.2.set (a.1:Int).toNat (nth a.2 ((a.1:Int)-1).toNat)).length:Int)/\jC ((a.1:Int)-1)/\∃(b:Nat×List Int),(((a.1:Int)-1=(b.1:Int)/\True)/\(a.2.set (a.1:Int).toNat (nth a.2 ((a.1:Int)-1).toNat)).set ((a.1:Int)-1).toNat (nth a.2 (a.1:Int).toNat)=b.2/\True)/\((b.1:Int)<=(x:Int)/\b.2.Perm (U.yj (q76_1 d) d.1 x)/\U.jco (q76_1 d) b.2 b.1=U.jco (q76_1 d) (U.yj (q76_1 d) d.1 x) (x:Int).toNat)/\b.1<a.1)/\((decide (d.2.1<(a.1:Int))&&decide ((d.2.2.2.1.2 (q76_0 a)).1<0))=false->jC ((x:Int)+1)/\∃(c:Nat),(((x:Int)+1=(c:Int)/\True)/\a.2=U.yj (q76_1 d) d.1 c/\True)/\(1<=c/\c<=max d.1.length 1)/\d.1.length-c<d.1.length-x)))/\(decide ((x:Int)<d.2.2.1)=false->()=()/\(U.yj (q76_1 d) d.1 x,())=(U.jav (q76_1 d) d.1,()))
def yC:zw:=⟨[.own rwI true,.val .int,.val .int,.val .int,.fn [.int,.int] [.int]],[],fun d=>[d.2.1=0/\d.2.2.1=(d.1.length:Int)/\d.1.length<=12,U.jas d.2.2.2.2.1.pre d.1],fun d=>((),(U.jav (U.qW d.2.2.2.2.1.F) d.1,()))⟩
def gn:Ann:=fun r=>match r with
 |1000002=>some fun _=>{X:=Unit,sl:=fun _=>[],ob:=fun _=>[],inv:=fun _=>True,mu:=fun _=>0}
 |_=>none
def yu:Prop:=∀(d:List Int×Int×Int×Int×FnD [Ty.int,Ty.int] [Ty.int]×Unit),d.2.1=0/\d.2.2.1=(d.1.length:Int)/\d.1.length<=12->U.jas d.2.2.2.2.1.1 d.1->jC (d.2.2.1-d.2.1)/\(decide (d.2.2.1-d.2.1<=12)=true->(d.2.1=0/\d.2.2.1=(d.1.length:Int)/\d.1.length<=12)/\U.jas d.2.2.2.2.1.1 d.1/\()=()/\(U.jav (U.qW d.2.2.2.2.1.2) d.1,())=(U.jav (U.qW d.2.2.2.2.1.2) d.1,()))/\(decide (d.2.2.1-d.2.1<=12)=false->(decide (d.2.2.2.1=0)=true->False)/\(decide (d.2.2.2.1=0)=false->((!true)=true->False)/\((!true)=false->False)))
def zx:zw:=⟨[.own rwI true,.fn [.int,.int] [.int]],[],fun d=>[d.1.length<=12,U.jas d.2.1.pre d.1,kh (U.qW d.2.1.F) d.1],fun d=>((),(U.jc (U.qW d.2.1.F) d.1,()))⟩
def jd1:Prop:=∀(d:List Int×FnD [Ty.int,Ty.int] [Ty.int]×Unit),d.1.length<=12->U.jas d.2.1.1 d.1->kh (U.qW d.2.1.2) d.1->d.1.length<4611686018427387904->0<=(d.1.length:Int)/\(d.1.length:Int)<=18446744073709551615/\(0<=(d.1.length:Int)/\(d.1.length:Int)<=12)/\((0:Int)=0/\(d.1.length:Int)=(d.1.length:Int)/\d.1.length<=12)/\U.jas d.2.1.1 d.1/\()=()/\(U.jav (U.qW d.2.1.2) d.1,())=(U.jc (U.qW d.2.1.2) d.1,())
def asI (l:List Int):List (Ty.st [.int]).Data:=l.map (fun x=>(x,()))
def LVi (d:PD [.ref (.slice .int)]) (xs:List (Ty.st [.int]).Data):Prop:=xs=asI d.1
def jfp:jh2 (YS [.int]):=fun r=>match r with
 |1=>some fun σ ys=>{X:=Nat,sl:=fun i=>[(7,.dat .int (i:Int))],ob:=fun _=>[],ys:=fun i=>(asI ((gd (.slice .int) σ 5).take i),true),inv:=fun i=>i<=(gd (.slice .int) σ 5).length,mu:=fun i=>(gd (.slice .int) σ 5).length-i}
 |_=>none
abbrev q79_0 (d:List Int×Unit)(x:Nat):=(nth d.1 (x:Int).toNat,())
def vN:Prop:=∀(d:List Int×Unit) (l:Nat),d.1.length<4611686018427387904->(∃(x:Nat),((0=(x:Int)/\True)/\True)/\([],true)=(List.map (fun(f:Int)=>(f,())) (List.take x d.1),true)/\x<=d.1.length)/\∀(x:Nat),x<=d.1.length->(decide ((x:Int)<(d.1.length:Int))=true->0<=(x:Int)/\(x:Int)<(d.1.length:Int)/\l=l/\(∃(rest:List (Int×Unit)),List.map (fun(g:Int)=>(g,())) (List.take x d.1)++[(q79_0 d x)]++rest=List.map (fun(h:Int)=>(h,())) d.1)/\(((!true)=true->true=true->List.map (fun(i:Int)=>(i,())) (List.take x d.1)++[(q79_0 d x)]=List.map (fun(j:Int)=>(j,())) d.1)/\((!true)=false->jC ((x:Int)+1)/\∃(a:Nat),(((x:Int)+1=(a:Int)/\True)/\True)/\(List.map (fun(k:Int)=>(k,())) (List.take x d.1)++[(q79_0 d x)],true)=(List.map (fun(z6:Int)=>(z6,())) (List.take a d.1),true)/\a<=d.1.length/\d.1.length-a<d.1.length-x))/\((!false)=true->false=true->List.map (fun(z7:Int)=>(z7,())) (List.take x d.1)++[(q79_0 d x)]=List.map (fun(z8:Int)=>(z8,())) d.1)/\((!false)=false->jC ((x:Int)+1)/\∃(a:Nat),(((x:Int)+1=(a:Int)/\True)/\True)/\(List.map (fun(m:Int)=>(m,())) (List.take x d.1)++[(q79_0 d x)],false)=(List.map (fun(b:Int)=>(b,())) (List.take a d.1),true)/\a<=d.1.length/\d.1.length-a<d.1.length-x))/\(decide ((x:Int)<(d.1.length:Int))=false->true=true->List.map (fun(c:Int)=>(c,())) (List.take x d.1)=List.map (fun(e:Int)=>(e,())) d.1)
theorem jaU:(jx8 (ctx 16 [] []) (zz Tryz.f152) [.int] [.ref (.slice .int)] LVi (fun _=>[]) (fun _ _=>jfp) (fun d l=>hkY [.int] l [13] (fun q=>∃rest,LVi d (q++rest)) (fun _=>none)))=vN:=by kernel_rfl
def zA:jdW:=⟨[.val (.slice .int)],fun _=>[],152,[.slice .int],fun d=>(d.1,())⟩
def jal:Prop:=∀(d:List Int×Unit),d=d
theorem jcT:(jxv (ctx 4 [] []) (fun _=>none) Tryz.f110 (zz Tryz.f110) zA)=jal:=by kernel_rfl
def vn:jpO [.int]:={ps:=[.own (.box 33 [.row 3 .int .unk]) true],slots:=[2],dst:=20,pre:=fun _=>[],G:=fun d q=>((d.1.1++q.map (·.1),()),()),seq:=fun sv=>match sv with
 | .clo 152 [.ep t m]=>(match j8 t (.slice .int) m with
  |some a=>some (True,fun xs=>xs=asI a)
  |none=>none)
 |_=>none}
def wk:Nat->Option ((ts:List Ty)×jpO ts):=fun r=>match r with
 |3=>some ⟨[.int],vn⟩
 |_=>none
def zM:jdT:=⟨[none,some (152,1)],[.nil false,.ref (.slice .int)],[rwI],fun d=>[d.2.1.length<=12],fun d r=>r.1.1=d.2.1⟩
def ke:jdT:=⟨[some (152,1)],[.ref (.slice .int)],[rwI],fun d=>[d.1.length<=12],fun d r=>r.1.1=d.1⟩
def zD:jdT:=⟨[some (152,1),none],[.ref (.slice .int),.fn [.int,.int] [.int]],[rwI],fun d=>[d.1.length<=12,U.jas d.2.1.pre d.1,kh (U.qW d.2.1.F) d.1],fun d r=>r.1.1=U.jc (U.qW d.2.1.F) d.1⟩
def jdO (d:OD zM.ps):List SV:=[.lit (.slice none 0 0),.clo 152 [.ep (.slice .int) d.2.1]]
def ve:Prop:=∀(d:Unit×List Int×Unit),d.2.1.length<=12/\True->True/\True/\(([]++List.map (fun(a:Int×Unit)=>a.1) [],()),())=(([],()),())/\(∀(q:List (Int×Unit)) (x:Int×Unit) (rest:List (Int×Unit)),q++x::rest=List.map (fun(b:Int)=>(b,())) d.2.1->kG (fun(i:List (Int×Unit))=>false) q->(([]++List.map (fun(e:Int×Unit)=>e.1) q).length+[x.1].length)*8<=140737488355328/\false=false/\(([]++List.map (fun(f:Int×Unit)=>f.1) q++[x.1],()),())=(([]++List.map (fun(g:Int×Unit)=>g.1) (q++[x]),()),()))/\(∀(xs:List (Int×Unit)),xs=List.map (fun(z6:Int)=>(z6,())) d.2.1->kG (fun(z7:List (Int×Unit))=>false) xs->∃(k:Unit),[]++List.map (fun(z8:Int×Unit)=>z8.1) xs=d.2.1)/\∀(q:List (Int×Unit)) (x:Int×Unit) (rest:List (Int×Unit)),q++x::rest=List.map (fun(h:Int)=>(h,())) d.2.1->kG (fun(c:List (Int×Unit))=>false) q->false=true->∃(k:Unit),[]=d.2.1
theorem jaE:(jvC (ctx 13 [] []) (fun _=>none) (hkC (ctx 13 [] []) (fun _=>none) wk [] []) Tryz.f178 (zz Tryz.f178) zM jdO)=ve:=by kernel_rfl
def jgr (d:OD ke.ps):List SV:=[.clo 152 [.ep (.slice .int) d.1]]
def yy:Prop:=∀(d:List Int×Unit),d.1.length<=12/\True->(d.1.length<=12/\True)/\∀(r:(List Int×Unit)×Unit),r.1.1=d.1->∃(k:Unit),r.1.1=d.1
theorem jch:(jvC (ctx 5 [] []) (fun _=>none) (hkC (ctx 5 [] []) (fun _=>none) jAj [4] [(178,20,zM)]) Tryz.f150 (zz Tryz.f150) ke jgr)=yy:=by kernel_rfl
def jcx (d:OD zD.ps):List SV:=[.clo 152 [.ep (.slice .int) d.1],.fn [.int,.int] [.int] d.2.1.pre d.2.1.F]
def qP:Prop:=∀(d:List Int×FnD [Ty.int,Ty.int] [Ty.int]×Unit),d.1.length<=12/\U.jas d.2.1.1 d.1/\kh (U.qW d.2.1.2) d.1/\True->(d.1.length<=12/\True)/\∀(r:(List Int×Unit)×Unit),r.1.1=d.1->r.1.1.length<=12/\U.jas d.2.1.1 r.1.1/\kh (U.qW d.2.1.2) r.1.1/\∃(k:Unit),U.jc (U.qW d.2.1.2) r.1.1=U.jc (U.qW d.2.1.2) d.1
theorem gC:(jvC (ctx 12 [] [(151,zx)]) (fun _=>none) (hkC (ctx 12 [] [(151,zx)]) (fun _=>none) jAj [7] [(150,20,ke)]) Tryz.f109 (zz Tryz.f109) zD jcx)=qP:=by kernel_rfl
end Go.X
namespace Go.X
open Go.Proofs
theorem juN {γ:Bool} {l:List Prop} {k:Prop} (h:γ=true->U.jx l) (hk:k):jxC γ l k:=by
 induction l with
 |nil=>exact hk
 |cons p l b=>exact⟨fun a=>(h a).1,b (fun a=>(h a).2)⟩
theorem jDu:∀n:Nat,n<13->wQ U.len8tab n=U.jdN (n:Int):=by decide+kernel
theorem jBl (n:Int):0<=U.jdN n/\U.jdN n<=4:=by
 unfold U.jdN
 split
 .omega
 split
 .omega
 split
 .omega
 split<;>omega
theorem jpc:jlV:=by
 unfold jlV q74_4 q74_3 q74_2 q74_1 q74_0;rintro⟨n,⟨⟩⟩ ⟨a,b⟩;have a:0<=n:=a;have b:n<=12:=b;refine⟨fun h=>absurd (of_decide_eq_true h) (by simp only;omega),fun _=>⟨fun h=>absurd (of_decide_eq_true h) (by simp only;omega),fun _=>⟨fun h=>absurd (of_decide_eq_true h) (by simp only;omega),fun _=> ?_⟩⟩⟩;have c:=jDu n.toNat (by omega);rw[Int.toNat_of_nonneg a] at c;have d:=jBl n;simp only;rw[c];refine⟨by omega,by omega,by omega,?_,by unfold jC;omega,by unfold jC;omega,by rw[Int.zero_add]⟩;have:U.len8tab.size=256:=(by decide+kernel);omega
theorem jmx:zh PR 176 jl9:=jM jpc Tryz.func176 kcN koN
theorem jue:jp9:=by
 rintro⟨n,⟨⟩⟩ h;exact⟨fun e=>(by cases e),fun _=>⟨h,rfl⟩⟩
theorem jq6:zh PR 143 jqt:=jM jue Tryz.func143 (kcC jmx kcN) koN
theorem qN:ql:=by
 unfold ql q76_1 q76_0;rintro⟨l,a,b,⟨pre,c⟩,⟨⟩⟩ x y;obtain⟨z,n,E⟩:a=0/\b=(l.length:Int)/\l.length<=12:=x;have s:U.jas pre l:=y;subst z n;simp only;refine⟨by unfold jC;omega,⟨1,⟨⟨rfl,trivial⟩,rfl,trivial⟩,jDJ _,by omega⟩,fun i hi=>⟨fun h=> ?_,fun h=> ?_⟩⟩
 .have h:i<l.length:=(by have:=of_decide_eq_true h;omega);have u:=IS.part_perm (lt:=U.qW c) (l:=l) i (by omega);refine⟨⟨(i,U.yj (U.qW c) l i),⟨⟨rfl,trivial⟩,rfl,trivial⟩,jEB _,List.Perm.refl _,rfl⟩,?_⟩;rintro⟨j,m⟩ ⟨v,o,p⟩;have v:(j:Int)<=i:=v;have o:m.Perm (U.yj (U.qW c) l i):=o;have p:U.jco (U.qW c) m j=U.jco (U.qW c) (U.yj (U.qW c) l i) i:=p;have C:m.length=l.length:=(o.trans u).length_eq;have g:∀{k:Nat},k<m.length->nth m k∈l:=fun hk=>(o.trans u).mem_iff.1 (L.mem_nth hk)
  simp only[jDN];refine⟨fun _=>by omega,fun f=>by have:=of_decide_eq_true f;omega,fun f=>by have:=of_decide_eq_true f;unfold jC;omega,fun f=>by have:=of_decide_eq_true f;omega,fun f=>by have:=of_decide_eq_true f;omega,juN (fun f=> ?_) ⟨fun n=> ?_,fun n=> ?_⟩⟩
  .have f:=of_decide_eq_true f;exact s _ (g (by omega)) _ (g (by omega))
  .simp only[jDK,decide_eq_true_eq] at n;obtain⟨D,q⟩:=n;obtain⟨d,rfl⟩:∃d,j=d+1:=⟨j-1,by omega⟩;have r:((d+1:Nat):Int)-1=(d:Int):=(by omega);rw[r] at q⊢;simp only[jDN] at q⊢;have t:=IS.swap_perm (l:=m) (j:=d+1) (k:=d) (by omega) (by omega);have e:jC (d:Int):=(by unfold jC;omega);refine⟨e,e,by omega,by omega,by omega,by omega,by omega,by omega,by omega,by simp;omega,e,⟨(d,U.jts m (d+1) d),⟨⟨rfl,trivial⟩,rfl,trivial⟩,⟨by simp only;omega,t.trans o,?_⟩,by simp⟩⟩;rw[<-p];show _=(if U.qW c (nth m (d+1)) (nth m d)=true then U.jco (U.qW c) (U.jts m (d+1) d) d else m);have w:U.qW c (nth m (d+1)) (nth m d)=true:=decide_eq_true q;rw[if_pos w]
  .have B:m=U.yj (U.qW c) l (i+1):=by
    rw[IS.part_succ,<-p];cases j with
    |zero=>rfl
    |succ d=>
     unfold U.jco;rw[if_neg];intro A;refine absurd n (by
      rw[Bool.and_eq_false_iff];rintro(h|h)
      .exact absurd (of_decide_eq_false h) (by simp)
      .refine of_decide_eq_false h ?_;have r:((d+1:Nat):Int)-1=(d:Int):=(by omega);rw[r];exact of_decide_eq_true A)
   exact⟨by unfold jC;omega,i+1,⟨⟨by simp,trivial⟩,B,trivial⟩,by omega,by omega⟩
 .have h:l.length<=i:=(by have:=of_decide_eq_false h;omega);exact⟨trivial,by rw[IS.part_isort hi.1 hi.2 h]⟩
theorem qt:wD PR 200 qm:=ji0 qH qN Tryz.func200 kcN koN
theorem gV:yu:=by
 rintro⟨l,a,b,lim,⟨pre,c⟩,⟨⟩⟩ e d;obtain⟨f,g,i⟩:a=0/\b=(l.length:Int)/\l.length<=12:=e;subst f g;refine⟨by unfold jC;simp only;omega,fun _=>⟨⟨rfl,rfl,by simp only;omega⟩,d,rfl,rfl⟩,fun h=>absurd (of_decide_eq_false h) (by simp only;omega)⟩
theorem yK:wD PR 179 yC:=ji0 gn gV Tryz.func179 kcN (koC qt koN)
theorem jgb:jd1:=by
 rintro⟨l,⟨pre,c⟩,⟨⟩⟩ a b d _;have a:l.length<=12:=a;exact⟨by simp only;omega,by simp only;omega,⟨by simp only;omega,by simp only;omega⟩,⟨rfl,rfl,a⟩,b,rfl,congrArg (·,()) (IS.isort_sort d)⟩
theorem jeD:wD PR 151 zx:=jgK jgb Tryz.func151 (kcC jq6 kcN) (koC yK koN)
theorem jzm {l:List Int} {i:Nat} (h:i<l.length):asI (l.take (i+1))=asI (l.take i)++[(nth l i,())]:=by
 unfold asI;rw[L.take_succ h,jEI];rfl
theorem jga:vN:=by
 unfold vN q79_0;rintro⟨l,⟨⟩⟩ y b;have b:l.length<4611686018427387904:=b;refine⟨⟨0,⟨⟨rfl,trivial⟩,trivial⟩,rfl,jDU _⟩,fun x c=>⟨fun h=> ?_,fun h _=> ?_⟩⟩
 .have h:(x:Int)<(l.length:Int):=of_decide_eq_true h;have a:x<l.length:=(by omega);have e:=jzm a;unfold asI at e;simp only[jDN];refine⟨by omega,h,trivial,⟨asI (l.drop (x+1)),?_⟩,⟨fun h=>(by cases h),fun _=>⟨L.in64 (by omega) (by omega),x+1,⟨⟨by simp,trivial⟩,trivial⟩,?_,by show x+1<=l.length;omega,by show l.length-(x+1)<l.length-x;omega⟩⟩,fun _ h=>(by cases h),fun h=>(by cases h)⟩
  .rw[<-e];unfold asI;rw[<-jEI,jEY]
  .rw[e]
 .have h:¬(x:Int)<(l.length:Int):=of_decide_eq_false h;have c:x<=l.length:=c;rw[jEx (by show l.length<=x;omega)]
theorem jtE {H:Imm} {lb:Array Value} {d:PD [.ref (.slice .int)]} (e:pvs PR H [.ref (.slice .int)] lb.toList d):jzr PR H [.int] (LVi d) (.func (.func 152) #[] lb):=
 jzH (C:=ctx 16 [] []) (jjL trivial trivial) mixed Tryz.func152 (by kernel_rfl) (by kernel_rfl) (by kernel_rfl) (by kernel_rfl) (by decide) (jaU.mpr jga) (fun d l B0 R f a b c=>jBZ a c) e trivial
theorem jjm:jal:=by intro d;rfl
theorem jhq:jpR PR 110 zA:=jB0 (jcT.mpr jjm) Tryz.func110 (by kernel_rfl) (by kernel_rfl) (by kernel_rfl) (by kernel_rfl) trivial trivial
theorem jBq (l:List Int):(asI l).map (fun(x:Int×Unit)=>x.1)=l:=by
 unfold asI;rw[List.map_map];exact List.map_id l
theorem je3:ve:=by
 intro d ⟨a,_⟩;refine⟨trivial,trivial,rfl,fun q x rest h _=>⟨?_,rfl,?_⟩,fun xs h _=>⟨(),?_⟩,fun _ _ _ _ _ h=>(by cases h)⟩
 .have b:=congrArg List.length h;simp only[jE2,jD0,jEe] at b;have a:d.2.1.length<=12:=a;simp only[jD5,jE2,jEe,jEt];omega
 .simp
 .rw[h,jD5];exact jBq d.2.1
theorem jhC:yy:=fun d a=>⟨a,fun r h=>⟨(),h⟩⟩
theorem jdy:qP:=fun d ⟨a,b,c,_⟩=>⟨⟨a,trivial⟩,fun r h=>by rw[h];exact⟨a,b,c,(),rfl⟩⟩
theorem jsT {P:Program} {ρ:Env} {H:Imm} (b:ρ.H=H) {g:Nat} {t:Ty} {d:t.Data} {lb:Array Value} {w:World} {bs:List Nat} (a:gu P H w [.ref t] lb.toList (d,()) bs):SV.den P ρ (.clo g [.ep t d]) (.func (.func g) #[] lb):=by
 subst b
 match e:lb.toList,a with
 |[],a=>exact a.elim
 |[x],⟨_,_,_,⟨c,_⟩,_⟩=>
  simp only[SV.den,SV.denL];exact⟨lb,rfl,x,[],e,c,rfl⟩
 |x::y::r,⟨_,_,_,_,h2⟩=>cases h2.1
theorem jqX {lb:Array Value} (h:lb.size=1):∃x,lb.toList=[x]:=by
 have a:lb.toList.length=1:=(by rw[jD8];exact h);exact List.length_eq_one_iff.1 a
theorem jvY {g n:Nat} {s:jdT} (h:ROK PR g s):∀(f:Nat) (p:Nat×jdT),jt [(g,n,s)] f=some p->ROK PR f p.2:=by
 intro f p a;simp only[jt] at a
 split at a
 .rename_i b;have:=jDE b;subst this;simp at a;subst a;exact h
 .cases a
theorem jzh (n:Nat):(ctx n [] []).ok PR:=jjL trivial trivial
theorem jcq:ROK PR 178 zM:=by
 refine jvB (body:=zz Tryz.f178) (C:=ctx 13 [] []) (hk:=hkC (ctx 13 [] []) (fun _=>none) wk [] []) (jzh 13) mixed Tryz.func178 (by kernel_rfl) (by kernel_rfl) (by kernel_rfl) (fun B=>jlp (jzh 13) mixed ?_ jAI B) rfl (fun H w vals fl d bs c b ρ f=> ?_) (fun d=>rfl) (jaE.mpr je3)
 .intro k t rs sv A L v ρ hk a p g;unfold wk at hk
  split at hk
  case h_2=>cases hk
  simp only[Option.some.injEq] at hk;cases hk;simp only[vn] at a
  split at a
  case h_2=>cases a
  rename_i t m
  split at a
  case h_2=>cases a
  rename_i z o;simp only[Option.some.injEq,Prod.mk.injEq] at a;obtain⟨rfl,rfl⟩:=a;obtain⟨e,rfl⟩:=ji o;subst e;simp only[SV.den,SV.denL] at g;obtain⟨lb,rfl,x,r,n,j,l⟩:=g;exact jtE (d:=(m,())) (by rw[n,l];exact⟨j,rfl⟩)
 .obtain⟨v,q,h,rfl,rfl,lb,s,i,rfl,rfl,_,rfl,rfl⟩:=c;obtain⟨u,y,_,⟨rfl,_⟩,b⟩:=b;rw[jEb] at b;refine⟨_,_,rfl,rfl,_,_,rfl,jsT f b,rfl⟩
theorem jew:ROK PR 150 ke:=by
 refine jvB (body:=zz Tryz.f150) (C:=ctx 5 [] []) (hk:=hkC (ctx 5 [] []) (fun _=>none) jAj [4] [(178,20,zM)]) (jzh 5) mixed Tryz.func150 (by kernel_rfl) (by kernel_rfl) (by kernel_rfl) (fun B=>jlp (jzh 5) mixed jqd (jvY jcq) B) rfl (fun H w vals fl d bs a c ρ b=> ?_) (fun d=>rfl) (jch.mpr jhC);obtain⟨lb,f,e,rfl,rfl,_,rfl,rfl⟩:=a;rw[jEb] at c;exact⟨_,_,rfl,jsT b c,rfl⟩
theorem jlw:(ctx 12 [] [(151,zx)]).ok PR:=jjL trivial ⟨jeD,trivial⟩
theorem jbd:ROK PR 109 zD:=by
 refine jvB (body:=zz Tryz.f109) (C:=ctx 12 [] [(151,zx)]) (hk:=hkC (ctx 12 [] [(151,zx)]) (fun _=>none) jAj [7] [(150,20,ke)]) jlw mixed Tryz.func109 (by kernel_rfl) (by kernel_rfl) (by kernel_rfl)
  (fun B=>jlp jlw mixed jqd (jvY jew) B) rfl (fun H w vals fl d bs a e ρ c=> ?_) (fun d=>rfl) (gC.mpr jdy)
 obtain⟨lb,k,g,rfl,rfl,b,v,l,h,rfl,rfl,rfl,rfl⟩:=a;obtain⟨x,f⟩:=jqX b;rw[f] at e;obtain⟨m,n,_,⟨i,_⟩,c1,c2,_,⟨j,_⟩,_⟩:=e;subst c;refine⟨_,_,rfl,⟨lb,rfl,x,[],f,i,rfl⟩,_,_,rfl,j,rfl⟩
end Go.X
namespace Go.X
open Go.Proofs
abbrev tRo:Ty:= .st [tDy,.slice .int,.slice (.slice .int),.slice .int]
abbrev RoD:Type:=DyD×List Int×List (List Int)×List Int×Unit
namespace U
def ro (o:Option RoD):RoD:=jS (Ty.dflt tRo) o
def rd (r:RoD):DyD:=r.1
def yU (r:RoD):List Int:=r.2.1
def wg (r:RoD):List (List Int):=r.2.2.1
def jCI (r:RoD):List Int:=r.2.2.2.1
def qV (d:DyD) (b:Int):Prop:=0<=b/\b<((jp d).length:Int)
def joQ (d:DyD) (l:List Int):Prop:=l.length<=12/\∀b∈l,qV d b
def joP (d:DyD):Prop:=jr (jf d)=true/\jwy d=true/\zi d=true
def joO (r:RoD):Prop:=joP (rd r)/\(yU r).length=(jp (rd r)).length
def jtU (d:DyD) (p:Int):Prop:=0<=p/\p<((jh (jf d)).length:Int)
def jfj (d:DyD) (a b:Int):Int:=k8 [gj (jdM (bk d a)) (jdM (bk d b)),gj a b]
def jk (d:DyD) (l:List Int):List Int:=jc (yc d) l
def w9 (d:DyD) (s:List Int) (n:Nat):Int:=jq9 d (s.take n)
def jmy (d:DyD) (vY:List Int) (p:Int) (s:List Int) (i:Nat):Bool:= !(decide (va (nth vY (nth s i).toNat/2^p.toNat) 1=0)||(s.drop (i+1)).any (fun c=>decide (vj d (nth s i) c<0)))
def jBh (d:DyD) (vY:List Int) (p:Int) (s:List Int):Bool:=(List.range s.length).all (jmy d vY p s)&&decide (jq9 d s<=jt1 d)
def jm9 (d:DyD) (vY:List Int) (p:Int) (l:List Int):Bool:=jBh d vY p (jk d l)
def jaO (r:RoD) (p:Int) (l:List Int):Bool:=jm9 (rd r) (yU r) p l
def w4 (on:List (List Int)) (b:Int) (n:Nat):Int:=(List.range n).foldl (fun s p=>if(nth on p).any (fun x=>decide (x=b))=true then bor s (1*2^p) else s) 0
def jfF (on:List (List Int)) (b:Int):Int:=w4 on b on.length
def jwZ (d:DyD) (b t:Int):Bool:=(decide (vg (jf d) (jcJ (bk d b)) t=0)&&decide (jCz (jf d) (jcJ (bk d b)) t=0))&&decide (t≠0)
def jax (l:List PeD) (t:Int) (n:Nat):Int:=(List.range n).foldl (fun s i=>s+va (t/2^i) 1*fe (nth l i)) 0
def vD (d:DyD) (t:Int):Int:=jax (jh (jf d)) t (jh (jf d)).length
end U
def jfI:jR:=⟨[.val (.ptr tRo),.val .int,.val .int],[.int],false,fun d=>[d.1.isSome=true,U.joP (U.rd (U.ro d.1)),U.qV (U.rd (U.ro d.1)) d.2.1,U.qV (U.rd (U.ro d.1)) d.2.2.1],fun d=>(U.vj (U.rd (U.ro d.1)) d.2.1 d.2.2.1,())⟩
abbrev q84_0 (d:Option RoD×Int×Int×Unit):=(jS ((((0:Int),[],[],()),[],[],(0:Int),(0:Int),[],()),[],[],[],()) d.1)
abbrev q84_1 (d:Option RoD×Int×Int×Unit):=(nth (q84_0 d).1.2.2.1 d.2.1.toNat)
abbrev q84_2 (d:Option RoD×Int×Int×Unit):=(nth (q84_0 d).1.2.2.1 d.2.2.1.toNat)
def jfC:Prop:=∀(d:Option RoD×Int×Int×Unit),d.1.isSome=true->U.joP (U.rd (U.ro d.1))->U.qV (U.rd (U.ro d.1)) d.2.1->U.qV (U.rd (U.ro d.1)) d.2.2.1->d.1.isSome=true/\0<=d.2.1/\d.2.1<(↑(q84_0 d).1.2.2.1.length:Int)/\d.1.isSome=true/\0<=d.2.2.1/\d.2.2.1<(↑(q84_0 d).1.2.2.1.length:Int)/\jC ((q84_2 d).2.2.1-(q84_1 d).2.2.2.1)/\d.1.isSome=true/\jC ((q84_2 d).2.2.1-(q84_1 d).2.2.2.1-(q84_0 d).1.2.2.2.1)/\d.1.isSome=true/\(0:Int)<=(q84_1 d).2.1/\(q84_1 d).2.1<(↑(q84_0 d).1.2.1.length:Int)/\(0:Int)<=(q84_2 d).2.1/\(q84_2 d).2.1<(↑(nth (q84_0 d).1.2.1 (q84_1 d).2.1.toNat).length:Int)/\jC ((q84_2 d).2.2.1-(q84_1 d).2.2.2.1-(q84_0 d).1.2.2.2.1-(nth (nth (q84_0 d).1.2.1 (q84_1 d).2.1.toNat) (q84_2 d).2.1.toNat).2.1)/\((q84_2 d).2.2.1-(q84_1 d).2.2.2.1-(q84_0 d).1.2.2.2.1-(nth (nth (q84_0 d).1.2.1 (q84_1 d).2.1.toNat) (q84_2 d).2.1.toNat).2.1,())=(U.vj (U.rd (U.ro d.1)) d.2.1 d.2.2.1,())
def zf:jR:=⟨[.val .int,.val .int,.ref (.ptr tRo)],[.int],false,fun d=>[d.2.2.1.isSome=true,U.qV (U.rd (U.ro d.2.2.1)) d.1,U.qV (U.rd (U.ro d.2.2.1)) d.2.1],fun d=>(U.jfj (U.rd (U.ro d.2.2.1)) d.1 d.2.1,())⟩
abbrev q85_0 (d:Int×Int×Option RoD×Unit):=(jS ((((0:Int),[],[],()),[],[],(0:Int),(0:Int),[],()),[],[],[],()) d.2.2.1)
def jci:Prop:=∀(d:Int×Int×Option RoD×Unit),d.2.2.1.isSome=true->U.qV (U.rd (U.ro d.2.2.1)) d.1->U.qV (U.rd (U.ro d.2.2.1)) d.2.1->d.2.2.1.isSome=true/\0<=d.1/\d.1<(↑(q85_0 d).1.2.2.1.length:Int)/\d.2.2.1.isSome=true/\0<=d.2.1/\d.2.1<(↑(q85_0 d).1.2.2.1.length:Int)/\(U.k8 [U.gj (nth (q85_0 d).1.2.2.1 d.1.toNat).2.2.1 (nth (q85_0 d).1.2.2.1 d.2.1.toNat).2.2.1,U.gj d.1 d.2.1],())=(U.jfj (U.rd (U.ro d.2.2.1)) d.1 d.2.1,())
def vT:jR:=⟨[.val (.ptr tRo),.val (.slice .int)],[.slice .int],false,fun d=>[d.1.isSome=true,U.joQ (U.rd (U.ro d.1)) d.2.1],fun d=>(U.jk (U.rd (U.ro d.1)) d.2.1,())⟩
def vP:Prop:=∀(d:Option RoD×List Int×Unit),d.1.isSome=true->U.joQ (U.rd (U.ro d.1)) d.2.1->(d.2.1.length<=12/\U.jas (fun(a:Int×Int×Unit)=>[d.1.isSome=true,U.qV (U.rd (U.ro d.1)) a.1,U.qV (U.rd (U.ro d.1)) a.2.1]) d.2.1/\kh (U.qW fun(b:Int×Int×Unit)=>(U.jfj (U.rd (U.ro d.1)) b.1 b.2.1,())) d.2.1/\True)/\∀(r:(List Int×Unit)×Unit),r.1.1=U.jc (U.qW fun(c:Int×Int×Unit)=>(U.jfj (U.rd (U.ro d.1)) c.1 c.2.1,())) d.2.1->r.1=(U.jk (U.rd (U.ro d.1)) d.2.1,())
theorem jaX:(jAs (jpV 9 [(111,zf)] [] [(110,zA)] []) (fun _=>none) (hkC (jpV 9 [(111,zf)] [] [(110,zA)] []) (fun _=>none) jAj [8] [(109,20,zD)]) Tryz.f58 (zz Tryz.f58) vT)=vP:=by kernel_rfl
def jfJ:jR:=⟨[.val .int,.ref (.ptr tRo),.ref .int],[.bool],false,fun d=>[d.2.1.isSome=true,U.joP (U.rd (U.ro d.2.1)),U.qV (U.rd (U.ro d.2.1)) d.1,U.qV (U.rd (U.ro d.2.1)) d.2.2.1],fun d=>(decide (U.vj (U.rd (U.ro d.2.1)) d.2.2.1 d.1<0),())⟩
def jfD:Prop:=∀(d:Int×Option RoD×Int×Unit),d.2.1.isSome=true->U.joP (U.rd (U.ro d.2.1))->U.qV (U.rd (U.ro d.2.1)) d.1->U.qV (U.rd (U.ro d.2.1)) d.2.2.1->d.2.1.isSome=true/\U.joP (U.rd (U.ro d.2.1))/\U.qV (U.rd (U.ro d.2.1)) d.2.2.1/\U.qV (U.rd (U.ro d.2.1)) d.1/\(decide (U.vj (U.rd (U.ro d.2.1)) d.2.2.1 d.1<0),())=(decide (U.vj (U.rd (U.ro d.2.1)) d.2.2.1 d.1<0),())
def ja7:jR:=⟨[.val (.ptr tRo),.val .int,.val (.slice .int)],[.bool],false,fun d=>[d.1.isSome=true,U.joO (U.ro d.1),U.jtU (U.rd (U.ro d.1)) d.2.1,U.joQ (U.rd (U.ro d.1)) d.2.2.1],fun d=>(U.jaO (U.ro d.1) d.2.1 d.2.2.1,())⟩
def jjY:Ann:=fun r=>match r with
 |4=>some fun σ=>{X:=Nat,sl:=fun i=>[(16,.dat .int (i:Int)),(7,.dat .int (U.w9 (U.rd (U.ro (gd (.ptr tRo) σ 0))) (gd (.slice .int) σ 14) i))],ob:=fun _=>[],inv:=fun i=>i<=(gd (.slice .int) σ 14).length/\∀b:Nat,b<i->U.jmy (U.rd (U.ro (gd (.ptr tRo) σ 0))) (U.yU (U.ro (gd (.ptr tRo) σ 0))) (gd .int σ 1) (gd (.slice .int) σ 14) b=true,mu:=fun i=>(gd (.slice .int) σ 14).length-i}
 |_=>none
abbrev q88_0 (d:Option RoD×Int×List Int×Unit):=(jS ((((0:Int),[],[],()),[],[],(0:Int),(0:Int),[],()),[],[],[],()) d.1)
abbrev q88_5 (d:Option RoD×Int×List Int×Unit):=(U.rd (U.ro d.1))
abbrev q88_1 (d:Option RoD×Int×List Int×Unit):=(U.jk (q88_5 d) d.2.2.1)
abbrev q88_4 (d:Option RoD×Int×List Int×Unit):=(↑(q88_1 d).length:Int)
abbrev q88_6 (d:Option RoD×Int×List Int×Unit)(x:Nat):=(nth (q88_1 d) (x:Int).toNat)
abbrev q88_2 (d:Option RoD×Int×List Int×Unit)(x:Nat):=(va (nth (q88_0 d).2.1 (q88_6 d x).toNat/(2:Int)^d.2.1.toNat) (1:Int)=0)
abbrev q88_3 (d:Option RoD×Int×List Int×Unit)(x:Nat):=((nth (q88_0 d).1.2.2.1 (q88_6 d x).toNat).2.2.2.1-(nth (q88_0 d).1.2.2.1 (q88_6 d x).toNat).2.2.1)
abbrev q88_7 (d:Option RoD×Int×List Int×Unit)(x:Nat):=(List.take ((q88_4 d).toNat-((x:Int)+1).toNat) (List.drop ((x:Int)+1).toNat (q88_1 d)))
def jic:Prop:=∀(d:Option RoD×Int×List Int×Unit),d.1.isSome=true->U.joO (U.ro d.1)->U.jtU (q88_5 d) d.2.1->U.joQ (q88_5 d) d.2.2.1->d.1.isSome=true/\U.joQ (q88_5 d) d.2.2.1/\((q88_1 d).length<4611686018427387904->(∃(x:Nat),((0=(x:Int)/\0=U.w9 (q88_5 d) (q88_1 d) x/\True)/\True)/\x<=(q88_1 d).length/\∀(b:Nat),b<x->U.jmy (q88_5 d) (U.yU (U.ro d.1)) d.2.1 (q88_1 d) b=true)/\∀(x:Nat),(x<=(q88_1 d).length/\∀(b:Nat),b<x->U.jmy (q88_5 d) (U.yU (U.ro d.1)) d.2.1 (q88_1 d) b=true)->(decide ((x:Int)<(q88_4 d))=true->0<=(x:Int)/\(x:Int)<(q88_4 d)/\d.1.isSome=true/\0<=nth (q88_1 d) (x:Int).toNat/\nth (q88_1 d) (x:Int).toNat<(↑(q88_0 d).1.2.2.1.length:Int)/\d.1.isSome=true/\0<=nth (q88_1 d) (x:Int).toNat/\nth (q88_1 d) (x:Int).toNat<(↑(q88_0 d).1.2.2.1.length:Int)/\jC (q88_3 d x)/\jC (U.w9 (q88_5 d) (q88_1 d) x+(q88_3 d x))/\d.1.isSome=true/\0<=nth (q88_1 d) (x:Int).toNat/\nth (q88_1 d) (x:Int).toNat<(↑(q88_0 d).2.1.length:Int)/\0<=d.2.1/\d.2.1<=64/\((!decide (q88_2 d x))=true->jC ((x:Int)+1))/\((!decide (q88_2 d x))=true->0<=(x:Int)+1)/\((!decide (q88_2 d x))=true->(x:Int)+1<=(q88_4 d))/\((!decide (q88_2 d x))=true->(q88_4 d)<=(q88_4 d))/\((!decide (q88_2 d x))=true->∀(g:Int),g∈List.take ((q88_4 d).toNat-((x:Int)+1).toNat) (List.drop ((x:Int)+1).toNat (q88_1 d))->U.jx [d.1.isSome=true,U.joP (q88_5 d),U.qV (q88_5 d) g,U.qV (q88_5 d) (q88_6 d x)])/\((decide (q88_2 d x)||(q88_7 d x).any (U.jb fun(c:Int×Unit)=>(decide (U.vj (q88_5 d) (q88_6 d x) c.1<0),())))=true->(false,())=(U.jaO (U.ro d.1) d.2.1 d.2.2.1,()))/\((decide (q88_2 d x)||(q88_7 d x).any (U.jb fun(e:Int×Unit)=>(decide (U.vj (q88_5 d) (q88_6 d x) e.1<0),())))=false->jC ((x:Int)+1)/\∃(a:Nat),(((x:Int)+1=(a:Int)/\U.w9 (q88_5 d) (q88_1 d) x+(q88_3 d x)=U.w9 (q88_5 d) (q88_1 d) a/\True)/\True)/\(a<=(q88_1 d).length/\∀(b:Nat),b<a->U.jmy (q88_5 d) (U.yU (U.ro d.1)) d.2.1 (q88_1 d) b=true)/\(q88_1 d).length-a<(q88_1 d).length-x))/\(decide ((x:Int)<(q88_4 d))=false->d.1.isSome=true/\(decide (U.w9 (q88_5 d) (q88_1 d) x<=(q88_0 d).1.2.2.2.2.1),())=(U.jaO (U.ro d.1) d.2.1 d.2.2.1,())))
def jhc:jR:=⟨[.val (.ptr tRo),.val .int],[.int],false,fun d=>[d.1.isSome=true,(U.wg (U.ro d.1)).length<=60],fun d=>(U.jfF (U.wg (U.ro d.1)) d.2.1,())⟩
def jhL:Ann:=fun r=>match r with
 |2=>some fun σ=>{X:=Nat,sl:=fun i=>[(12,.dat .int (i:Int)),(4,.dat .int (U.w4 (U.wg (U.ro (gd (.ptr tRo) σ 0))) (gd .int σ 1) i))],ob:=fun _=>[],inv:=fun i=>i<=(U.wg (U.ro (gd (.ptr tRo) σ 0))).length,mu:=fun i=>(U.wg (U.ro (gd (.ptr tRo) σ 0))).length-i}
 |_=>none
abbrev q89_0 (d:Option RoD×Int×Unit):=(jS ((((0:Int),[],[],()),[],[],(0:Int),(0:Int),[],()),[],[],[],()) d.1)
abbrev q89_1 (d:Option RoD×Int×Unit):=(U.wg (U.ro d.1))
def jg3:Prop:=∀(d:Option RoD×Int×Unit),d.1.isSome=true->(q89_1 d).length<=60->d.1.isSome=true/\((q89_0 d).2.2.1.length<4611686018427387904->(∃(x:Nat),((0=(x:Int)/\0=U.w4 (q89_1 d) d.2.1 x/\True)/\True)/\x<=(q89_1 d).length)/\∀(x:Nat),x<=(q89_1 d).length->(decide ((x:Int)<(↑(q89_0 d).2.2.1.length:Int))=true->0<=(x:Int)/\(x:Int)<(↑(q89_0 d).2.2.1.length:Int)/\(((nth (q89_0 d).2.2.1 (x:Int).toNat).any fun(b:Int)=>decide (b=d.2.1))=true->0<=(x:Int)/\(x:Int)<=64/\jC ((1:Int)*2^(x:Int).toNat)/\jC ((x:Int)+1)/\∃(a:Nat),(((x:Int)+1=(a:Int)/\bor (U.w4 (q89_1 d) d.2.1 x) ((1:Int)*2^(x:Int).toNat)=U.w4 (q89_1 d) d.2.1 a/\True)/\True)/\a<=(q89_1 d).length/\(q89_1 d).length-a<(q89_1 d).length-x)/\(((nth (q89_0 d).2.2.1 (x:Int).toNat).any fun(c:Int)=>decide (c=d.2.1))=false->jC ((x:Int)+1)/\∃(a:Nat),((U.w4 (q89_1 d) d.2.1 x=U.w4 (q89_1 d) d.2.1 a/\(x:Int)+1=(a:Int)/\True)/\True)/\a<=(q89_1 d).length/\(q89_1 d).length-a<(q89_1 d).length-x))/\(decide ((x:Int)<(↑(q89_0 d).2.2.1.length:Int))=false->(U.w4 (q89_1 d) d.2.1 x,())=(U.jfF (q89_1 d) d.2.1,())))
def jhd:jR:=⟨[.val (.ptr tRo),.val .int,.val .int],[.bool],false,fun d=>[d.1.isSome=true,U.qV (U.rd (U.ro d.1)) d.2.1],fun d=>(U.jwZ (U.rd (U.ro d.1)) d.2.1 d.2.2.1,())⟩
abbrev q90_0 (d:Option RoD×Int×Int×Unit):=(jS ((((0:Int),[],[],()),[],[],(0:Int),(0:Int),[],()),[],[],[],()) d.1)
def jg4:Prop:=∀(d:Option RoD×Int×Int×Unit),d.1.isSome=true->U.qV (U.rd (U.ro d.1)) d.2.1->d.1.isSome=true/\d.1.isSome=true/\0<=d.2.1/\d.2.1<(↑(q90_0 d).1.2.2.1.length:Int)/\(decide (U.vg (q90_0 d).1.1 (nth (q90_0 d).1.2.2.1 d.2.1.toNat).1 d.2.2.1=0)&&decide (U.jCz (q90_0 d).1.1 (nth (q90_0 d).1.2.2.1 d.2.1.toNat).1 d.2.2.1=0)&&decide (d.2.2.1≠0),())=(U.jwZ (U.rd (U.ro d.1)) d.2.1 d.2.2.1,())
def ja6:jR:=⟨[.val (.ptr tRo),.val .int],[.int],false,fun d=>[d.1.isSome=true,U.jr (U.jf (U.rd (U.ro d.1)))=true,0<=d.2.1,d.2.1<=1000000],fun d=>(U.vD (U.rd (U.ro d.1)) d.2.1,())⟩
def jjX:Ann:=fun r=>match r with
 |2=>some fun σ=>{X:=Nat,sl:=fun i=>[(14,.dat .int (i:Int)),(4,.dat .int (U.jax (U.jh (U.jf (U.rd (U.ro (gd (.ptr tRo) σ 0))))) (gd .int σ 1) i))],ob:=fun _=>[],inv:=fun i=>i<=(U.jh (U.jf (U.rd (U.ro (gd (.ptr tRo) σ 0))))).length,mu:=fun i=>(U.jh (U.jf (U.rd (U.ro (gd (.ptr tRo) σ 0))))).length-i}
 |_=>none
abbrev q91_0 (d:Option RoD×Int×Unit):=(jS ((((0:Int),[],[],()),[],[],(0:Int),(0:Int),[],()),[],[],[],()) d.1)
abbrev q91_1 (d:Option RoD×Int×Unit):=(U.jh (U.jf (U.rd (U.ro d.1))))
def jib:Prop:=∀(d:Option RoD×Int×Unit),d.1.isSome=true->U.jr (U.jf (U.rd (U.ro d.1)))=true->0<=d.2.1->d.2.1<=1000000->d.1.isSome=true/\((q91_0 d).1.1.2.1.length<4611686018427387904->(∃(x:Nat),((0=(x:Int)/\0=U.jax (q91_1 d) d.2.1 x/\True)/\True)/\x<=(q91_1 d).length)/\∀(x:Nat),x<=(q91_1 d).length->(decide ((x:Int)<(↑(q91_0 d).1.1.2.1.length:Int))=true->0<=(x:Int)/\(x:Int)<(↑(q91_0 d).1.1.2.1.length:Int)/\0<=(x:Int)/\(x:Int)<=64/\jC (va (d.2.1/(2:Int)^(x:Int).toNat) (1:Int)*(nth (q91_0 d).1.1.2.1 (x:Int).toNat).2.2.2.2.2.1)/\jC (U.jax (q91_1 d) d.2.1 x+va (d.2.1/(2:Int)^(x:Int).toNat) (1:Int)*(nth (q91_0 d).1.1.2.1 (x:Int).toNat).2.2.2.2.2.1)/\jC ((x:Int)+1)/\∃(a:Nat),(((x:Int)+1=(a:Int)/\U.jax (q91_1 d) d.2.1 x+va (d.2.1/(2:Int)^(x:Int).toNat) (1:Int)*(nth (q91_0 d).1.1.2.1 (x:Int).toNat).2.2.2.2.2.1=U.jax (q91_1 d) d.2.1 a/\True)/\True)/\a<=(q91_1 d).length/\(q91_1 d).length-a<(q91_1 d).length-x)/\(decide ((x:Int)<(↑(q91_0 d).1.1.2.1.length:Int))=false->(U.jax (q91_1 d) d.2.1 x,())=(U.vD (U.rd (U.ro d.1)) d.2.1,())))
end Go.X
namespace Go.X
open Go.Proofs
theorem j6 {d:DyD} (h:U.zi d=true):(U.jp d).length<=4/\(1<=(U.jz d).length/\(U.jz d).length<=5)/\(0<=U.jog d/\U.jog d<=300)/\(0<=U.jt1 d/\U.jt1 d<=1440)/\(U.zv d).length<=30/\
 (∀r∈U.jz d,U.qv (U.jz d).length r=true)/\(∀b∈U.jp d,U.jbq (U.jz d).length b=true)/\∀s∈U.zv d,U.yO (U.jp d).length (U.jh (U.jf d)).length s=true:=by
 unfold U.zi at h;simp only[jDK,decide_eq_true_eq,jEf] at h;obtain⟨⟨e,f,g,i,j,k,l,m⟩,n,a,c⟩:=h;exact⟨e,⟨f,g⟩,⟨i,j⟩,⟨k,l⟩,m,n,a,c⟩
theorem jDc {d:DyD} {b:Int} (h:U.qV d b):U.bk d b∈U.jp d:=by
 unfold U.bk;exact L.mem_nth (by unfold U.qV at h;omega)
theorem jcd {d:DyD} (h:U.zi d=true) {b:Int} (a:U.qV d b):(0<=U.jBj (U.bk d b)/\U.jBj (U.bk d b)<((U.jz d).length:Int))/\0<=U.jdM (U.bk d b)/\U.jdM (U.bk d b)<U.jzj (U.bk d b)/\U.jzj (U.bk d b)<=1440:=by
 have:=(j6 h).2.2.2.2.2.2.1 _ (jDc a);unfold U.jbq at this;have:=of_decide_eq_true this;omega
theorem jof {d:DyD} (h:U.zi d=true) {i:Nat} (hi:i<(U.jz d).length):(nth (U.jz d) i).length=(U.jz d).length/\∀j,j<(U.jz d).length->0<=U.lo (nth (nth (U.jz d) i) j)/\U.lo (nth (nth (U.jz d) i) j)<=U.hi (nth (nth (U.jz d) i) j)/\U.hi (nth (nth (U.jz d) i) j)<=300:=by
 have:=(j6 h).2.2.2.2.2.1 _ (L.mem_nth hi);unfold U.qv at this;rw[jDK,decide_eq_true_eq,jEf] at this;refine⟨this.1,fun j b=> ?_⟩;have a:=this.2 _ (L.mem_nth (l:=nth (U.jz d) i) (i:=j) (by omega));unfold U.jeM at a;exact of_decide_eq_true a
theorem jw3 {d:DyD} (h:U.zi d=true) {a b:Int} (c:U.qV d a) (e:U.qV d b):0<=U.jA3 d a b/\U.jA3 d a b<=300:=by
 have f:=(jcd h c).1;have g:=(jcd h e).1;have:=(jof h (i:=(U.jBj (U.bk d a)).toNat) (by omega)).2 (U.jBj (U.bk d b)).toNat (by omega);unfold U.jA3;omega
theorem jhF:jfC:=by
 unfold jfC q84_2 q84_1 q84_0;rintro⟨(_|r),a,b,⟨⟩⟩ h c d e
 .cases h
 obtain⟨c1,c2,c⟩:U.joP (U.rd r):=c;have d:U.qV (U.rd r) a:=d;have e:U.qV (U.rd r) b:=e;have g:=jcd c d;have j:=jcd c e;have k:=jw3 c d e;have l:=(j6 c).2.2.1;have m:=(jof c (i:=(U.jBj (U.bk (U.rd r) a)).toNat) (by omega)).1;have f:(0<=a/\a<((U.jp (U.rd r)).length:Int))/\0<=b/\b<((U.jp (U.rd r)).length:Int):=⟨d,e⟩;refine⟨rfl,f.1.1,f.1.2,rfl,f.2.1,f.2.2,?_,rfl,?_,rfl,g.1.1,g.1.2,j.1.1,?_,?_,rfl⟩
 .show jC (U.jdM (U.bk (U.rd r) b)-U.jzj (U.bk (U.rd r) a));exact L.in64 (by omega) (by omega)
 .show jC (U.jdM (U.bk (U.rd r) b)-U.jzj (U.bk (U.rd r) a)-U.jog (U.rd r));exact L.in64 (by omega) (by omega)
 .show U.jBj (U.bk (U.rd r) b)<((nth (U.jz (U.rd r)) (U.jBj (U.bk (U.rd r) a)).toNat).length:Int);omega
 .show jC (U.jdM (U.bk (U.rd r) b)-U.jzj (U.bk (U.rd r) a)-U.jog (U.rd r)-U.jA3 (U.rd r) a b);exact L.in64 (by omega) (by omega)
theorem jfY:zh PR 59 jfI:=jM jhF Tryz.func59 kcN koN
theorem jdA:jci:=by
 unfold jci q85_0;rintro⟨a,b,(_|r),⟨⟩⟩ e c d
 .cases e
 have c:U.qV (U.rd r) a:=c;have d:U.qV (U.rd r) b:=d;exact⟨rfl,c.1,c.2,rfl,d.1,d.2,rfl⟩
theorem jct:zh PR 111 zf:=jM jdA Tryz.func111 (kcC wG (kcC gR kcN)) koN
theorem jBc (d:DyD):jaQ (U.jfj d):=by
 have e:U.jfj d=jxS (fun a b=>U.gj (U.jdM (U.bk d a)) (U.jdM (U.bk d b))) U.gj:=by
  funext a b;unfold U.jfj;rw[j0,kO];rfl
 rw[e];exact jf6 (jgG jfi (fun a=>U.jdM (U.bk d a))) jfi
theorem jxo {d:DyD} {a b:Int} (h:U.jfj d a b=0):a=b:=by
 unfold U.jfj at h;rw[j0] at h
 split at h
 .contradiction
 .rw[kO] at h;exact qX.1 h
theorem jxp (d:DyD) (a b:Int):decide (U.jfj d a b<0)=U.yc d a b:=by
 unfold U.jfj U.yc;rw[j0,kO];refine decide_eq_decide.2 ?_;by_cases c:U.jdM (U.bk d a)<U.jdM (U.bk d b)
 .have e:U.gj (U.jdM (U.bk d a)) (U.jdM (U.bk d b))= -1:=(by unfold U.gj;rw[if_pos c]);rw[e];simp;omega
 .by_cases f:U.jdM (U.bk d b)<U.jdM (U.bk d a)
  .have e:U.gj (U.jdM (U.bk d a)) (U.jdM (U.bk d b))=1:=(by unfold U.gj;rw[if_neg c,if_pos f]);rw[e];simp;omega
  .have e:U.gj (U.jdM (U.bk d a)) (U.jdM (U.bk d b))=0:=(by unfold U.gj;rw[if_neg c,if_neg f]);rw[e];unfold U.gj;simp only[ne_eq,not_true_eq_false,if_false]
   split<;>(try split)<;>omega
theorem jDx (d:DyD) (l:List Int):kh (U.yc d) l:=by
 have:=jmq (t:= .int) (jBc d) (l:=l) (fun _ _ _ _ h=>jxo h);have e:(U.jd .int fun(x:Int×Int×Unit)=>(U.jfj d x.1 x.2.1,()))=U.yc d:=by
  funext a b;exact jxp d a b
 rw[e] at this;exact this
theorem ltK (d:DyD):(U.qW fun(x:Int×Int×Unit)=>(U.jfj d x.1 x.2.1,()))=U.yc d:=by
 funext a b;exact jxp d a b
theorem jgh:vP:=by
 rintro⟨(_|r),l,⟨⟩⟩ c f
 .cases c
 obtain⟨d,b⟩:U.joQ (U.rd r) l:=f;refine⟨⟨d,fun x g y h=>⟨rfl,b x g,b y h,trivial⟩,?_,trivial⟩,fun q a=> ?_⟩
 .have e:=ltK (U.rd r);show kh (U.qW fun(x:Int×Int×Unit)=>(U.jfj (U.rd r) x.1 x.2.1,())) l;rw[e];exact jDx _ l
 .have e:=ltK (U.rd r);have a:q.1.1=U.jc (U.qW fun(x:Int×Int×Unit)=>(U.jfj (U.rd r) x.1 x.2.1,())) l:=a;rw[e] at a;obtain⟨⟨q,⟨⟩⟩,⟨⟩⟩:=q;rw[show q=_ from a];rfl
theorem jpx:(jpV 9 [(111,zf)] [] [(110,zA)] []).ok PR:=jrR ⟨fun _=>jct,trivial⟩ trivial ⟨jhq,trivial⟩ trivial
theorem jeI:zh PR 58 vT:=
 jBO (body:=zz Tryz.f58) (C:=jpV 9 [(111,zf)] [] [(110,zA)] []) (hk:=hkC (jpV 9 [(111,zf)] [] [(110,zA)] []) (fun _=>none) jAj [8] [(109,20,zD)]) jpx mixed Tryz.func58 (by kernel_rfl) (by kernel_rfl) (by kernel_rfl) (by decide)
  (fun B=>jlp jpx mixed jqd (jvY jbd) B) (jaX.mpr jgh)
theorem jhG:jfD:=by
 rintro⟨b,(_|r),a,⟨⟩⟩ c f e d
 .cases c
 exact⟨rfl,f,d,e,rfl⟩
theorem jfZ:zh PR 123 jfJ:=jM jhG Tryz.func123 (kcC jfY kcN) koN
theorem ji1 {d:DyD} {s:List Int} {i:Nat} (h:i<s.length):U.w9 d s (i+1)=U.w9 d s i+(U.jzj (U.bk d (nth s i))-U.jdM (U.bk d (nth s i))):=by
 unfold U.w9 U.jq9;rw[L.take_succ h,jEI,jEi];rfl
theorem jwl {d:DyD} (a:U.zi d=true) {s:List Int} (c:∀b∈s,U.qV d b):∀i,i<=s.length->0<=U.w9 d s i/\U.w9 d s i<=1440*(i:Int)
 |0,_=>⟨jEB _,jEB _⟩
 |i+1,hi=>by
  have f:=jwl a c i (by omega)
  have e:=jcd a (c _ (L.mem_nth (l:=s) (i:=i) (by omega)))
  rw[ji1 (by omega)]
  omega
theorem jqw {d:DyD} {l:List Int} {b:Int}:b∈U.jk d l↔b∈l:=(j9 l).mem_iff
theorem jqx (d:DyD) (l:List Int):(U.jk d l).length=l.length:=(j9 l).length_eq
theorem jky:jic:=by
 unfold jic q88_7 q88_3 q88_2 q88_6 q88_4 q88_1 q88_5 q88_0;rintro⟨(_|r),p,l,⟨⟩⟩ D v q K
 .cases D
 obtain⟨⟨c1,c2,u⟩,v⟩:U.joO r:=v;have q:U.jtU (U.rd r) p:=q;obtain⟨z,A⟩:U.joQ (U.rd r) l:=K;have N:=(jG c1).2.2.1;refine⟨rfl,⟨z,A⟩,fun _=> ?_⟩;obtain⟨s,o⟩:∃s,s=U.jk (U.rd r) l:=⟨_,rfl⟩;have O:s.length<=12:=(by rw[o,jqx];exact z);have k:∀b∈s,U.qV (U.rd r) b:=fun b d=>A b (by rw[o] at d;exact jqw.1 d)
 have t:U.ro (some r)=r:=rfl;simp only[t,<-o];refine⟨⟨0,⟨⟨rfl,rfl,trivial⟩,trivial⟩,jDU _,fun b d=>by omega⟩,fun x w=>⟨fun h=> ?_,fun h=> ?_⟩⟩
 .have h:(x:Int)<(s.length:Int):=of_decide_eq_true h;have a:x<s.length:=(by omega);have d:=k _ (L.mem_nth a);have H:=jcd u d;have M:=jwl u k x (by omega);have C:((x:Int)+1).toNat=x+1:=(by omega);have B:(s.drop (x+1)).take (s.length-(x+1))=s.drop (x+1):=jEx (by rw[jEX];omega);have I:U.jdM (U.bk (U.rd r) (nth s x))=(nth (U.jp (U.rd r)) (nth s x).toNat).2.2.1:=rfl;simp only[jDN,C,B];have n:(nth s x)<((U.yU r).length:Int):=(by rw[v];exact d.2);have m:U.jmy (U.rd r) (U.yU r) p s x= !(decide (va (nth (U.yU r) (nth s x).toNat/2^p.toNat) 1=0)||(s.drop (x+1)).any (fun c=>decide (U.vj (U.rd r) (nth s x) c<0))):=rfl;have j:((s.drop (x+1)).any (U.jb fun(y:Int×Unit)=>(decide (U.vj (U.rd r) (nth s x) y.fst<0),())))=(s.drop (x+1)).any (fun c=>decide (U.vj (U.rd r) (nth s x) c<0)):=rfl;unfold U.jtU at q;refine⟨by omega,h,rfl,d.1,d.2,rfl,d.1,d.2,?_,?_,rfl,d.1,n,q.1,by omega,fun _=>L.in64 (by omega) (by omega),fun _=>by omega,fun _=>by omega,fun _=>by omega,fun _ g J=>⟨rfl,⟨c1,c2,u⟩,k g (jEZ J),d,trivial⟩,fun f=> ?_,fun f=>⟨L.in64 (by omega) (by omega),x+1,⟨⟨by simp,(ji1 a).symm,trivial⟩,trivial⟩,⟨by omega,fun b G=> ?_⟩,by omega⟩⟩
  .show jC (U.jzj (U.bk (U.rd r) (nth s x))-U.jdM (U.bk (U.rd r) (nth s x)));exact L.in64 (by omega) (by omega)
  .show jC (U.w9 (U.rd r) s x+(U.jzj (U.bk (U.rd r) (nth s x))-U.jdM (U.bk (U.rd r) (nth s x))));exact L.in64 (by omega) (by omega)
  .have f:(decide (va (nth (U.yU r) (nth s x).toNat/2^p.toNat) 1=0)||((s.drop (x+1)).any (U.jb fun(y:Int×Unit)=>(decide (U.vj (U.rd r) (nth s x) y.fst<0),()))))=true:=f;have f:U.jmy (U.rd r) (U.yU r) p s x=false:=(by rw[m,<-j,f];rfl);have:U.jaO r p l=false:=by
    unfold U.jaO U.jm9 U.jBh;rw[<-o];have:(List.range s.length).all (U.jmy (U.rd r) (U.yU r) p s)=false:=by
     rw[jEM];exact⟨x,by simpa using a,by rw[f];simp⟩
    rw[this];rfl
   rw[this]
  .by_cases e:b=x
   .subst e;have f:(decide (va (nth (U.yU r) (nth s b).toNat/2^p.toNat) 1=0)||((s.drop (b+1)).any (U.jb fun(y:Int×Unit)=>(decide (U.vj (U.rd r) (nth s b) y.fst<0),()))))=false:=f;rw[m,<-j,f];rfl
   .exact w.2 b (by omega)
 .have h:¬(x:Int)<(s.length:Int):=of_decide_eq_false h;have a:x=s.length:=(by have:=w.1;omega);refine⟨rfl,?_⟩;have E:(List.range s.length).all (U.jmy (U.rd r) (U.yU r) p s)=true:=by
   rw[jEf];intro i hi;exact w.2 i (by rw[a];simpa using hi)
  have F:U.w9 (U.rd r) s x=U.jq9 (U.rd r) s:=by
   unfold U.w9;rw[a,jEx (jDJ _)]
  rw[F];have:U.jaO r p l=decide (U.jq9 (U.rd r) s<=U.jt1 (U.rd r)):=by
   unfold U.jaO U.jm9 U.jBh;rw[<-o,E,Bool.true_and]
  rw[this];rfl
theorem jbm:zh PR 83 ja7:=wt jjY jky Tryz.func83 (kcC jeI (kcC jfZ (kcC wW kcN))) koN
theorem jih (on:List (List Int)) (b:Int) (n:Nat):U.w4 on b (n+1)=if(nth on n).any (fun x=>decide (x=b))=true then bor (U.w4 on b n) (1*2^n) else U.w4 on b n:=by
 unfold U.w4;rw[jEw,jEi];rfl
theorem jbi (n:Nat):(1:Int)*2^n=2^n:=Int.one_mul _
theorem jjr:jg3:=by
 unfold jg3 q89_1 q89_0;rintro⟨(_|r),b,⟨⟩⟩ g d
 .cases g
 have d:(U.wg r).length<=60:=d;have c:U.ro (some r)=r:=rfl;refine⟨rfl,fun _=>⟨⟨0,⟨⟨rfl,rfl,trivial⟩,trivial⟩,jDU _⟩,fun x f=>⟨fun h=> ?_,fun h=> ?_⟩⟩⟩
 .have h:(x:Int)<((U.wg r).length:Int):=of_decide_eq_true h;have e:=jih (U.wg r) b x;have i:BT.Set' ((2:Int)^x):=BT.two_set (by omega);unfold BT.Set' at i;simp only[jDN,c];refine⟨by omega,h,fun a=>⟨by omega,by omega,by rw[jbi];exact L.in64 (by omega) (by omega),L.in64 (by omega) (by omega),x+1,⟨⟨by simp,?_,trivial⟩,trivial⟩,by omega,by omega⟩,fun a=>⟨L.in64 (by omega) (by omega),x+1,⟨⟨?_,by simp,trivial⟩,trivial⟩,by omega,by omega⟩⟩
  .rw[e];have a:((nth (U.wg r) x).any fun y=>decide (y=b))=true:=a;rw[if_pos a]
  .rw[e];have a:((nth (U.wg r) x).any fun y=>decide (y=b))=false:=a;rw[if_neg (by rw[a];simp)]
 .have h:¬(x:Int)<((U.wg r).length:Int):=of_decide_eq_false h;have f:x<=(U.wg r).length:=f;rw[show x=(U.wg r).length by omega];rfl
theorem jhu:zh PR 53 jhc:=wt jhL jjr Tryz.func53 (kcC vW kcN) koN
theorem jjs:jg4:=by
 unfold jg4 q90_0;rintro⟨(_|r),b,t,⟨⟩⟩ c a
 .cases c
 have a:U.qV (U.rd r) b:=a;exact⟨rfl,rfl,a.1,a.2,rfl⟩
theorem jhv:zh PR 40 jhd:=jM jjs Tryz.func40 (kcC jqZ kcN) koN
theorem jlt (l:List PeD) (t:Int) (n:Nat):U.jax l t (n+1)=U.jax l t n+va (t/2^n) 1*U.fe (nth l n):=by
 unfold U.jax;rw[jEw,jEi];rfl
theorem jsR {c:CrD} (h:U.jr c=true) {i:Nat} (hi:i<(U.jh c).length):0<=U.fe (nth (U.jh c) i)/\U.fe (nth (U.jh c) i)<=1000:=by
 have:=(jG h).2.2.2.2.1 _ (L.mem_nth hi);unfold U.yn at this;simp only[jDK,decide_eq_true_eq] at this;obtain⟨⟨_,_,_,_,_,_,a,b⟩,_⟩:=this;exact⟨a,b⟩
theorem jxA {z f:Int} (a:0<=f/\f<=1000):0<=va z 1*f/\va z 1*f<=1000:=by
 rcases js0 z with h|h
 .rw[h,Int.zero_mul];omega
 .rw[h,Int.one_mul];omega
theorem jm0 {c:CrD} (h:U.jr c=true) (t:Int):∀i,i<=(U.jh c).length->0<=U.jax (U.jh c) t i/\U.jax (U.jh c) t i<=1000*(i:Int)
 |0,_=>⟨jEB _,jEB _⟩
 |i+1,hi=>by
  have a:=jm0 h t i (by omega)
  have:=jxA (z:=t/2^i) (jsR h (i:=i) (by omega))
  rw[jlt]
  omega
theorem jkx:jib:=by
 unfold jib q91_1 q91_0;rintro⟨(_|r),t,⟨⟩⟩ d a f g
 .cases d
 have a:U.jr (U.jf (U.rd r))=true:=a;have l:=(jG a).2.2.1;have b:U.ro (some r)=r:=rfl;refine⟨rfl,fun _=>⟨⟨0,⟨⟨rfl,rfl,trivial⟩,trivial⟩,jDU _⟩,fun x c=>⟨fun h=> ?_,fun h=> ?_⟩⟩⟩
 .have h:(x:Int)<((U.jh (U.jf (U.rd r))).length:Int):=of_decide_eq_true h;have e:=jlt (U.jh (U.jf (U.rd r))) t x;have j:=jm0 a t x (by omega);have k:=jxA (z:=t/2^x) (jsR a (i:=x) (by omega));simp only[jDN,b];refine⟨by omega,h,by omega,by omega,L.in64 (by show _<=va (t/2^x) 1*U.fe (nth (U.jh (U.jf (U.rd r))) x);omega) (by show va (t/2^x) 1*U.fe (nth (U.jh (U.jf (U.rd r))) x)<=_;omega),L.in64 (by show _<=U.jax _ t x+va (t/2^x) 1*U.fe (nth (U.jh (U.jf (U.rd r))) x);omega) (by show U.jax _ t x+va (t/2^x) 1*U.fe (nth (U.jh (U.jf (U.rd r))) x)<=_;omega),L.in64 (by omega) (by omega),x+1,⟨⟨by simp,e.symm,trivial⟩,trivial⟩,by omega,by omega⟩
 .have h:¬(x:Int)<((U.jh (U.jf (U.rd r))).length:Int):=of_decide_eq_false h;have c:x<=(U.jh (U.jf (U.rd r))).length:=c;rw[show x=(U.jh (U.jf (U.rd r))).length by omega];rfl
theorem jiP:zh PR 68 ja6:=wt jjX jkx Tryz.func68 kcN koN
end Go.X
namespace Go.X
theorem jad {l:List ShD} {s:ShD}:s∈U.jH l↔s∈l:=by
 have e:U.jH l=U.qF (fun a b=>decide (a=b)) (U.jc (U.jd tSh fun x=>(U.wX x.1 x.2.1,())) l):=by
  unfold U.jH;congr 1
 rw[e,L.comp_mem];exact(j9 l).mem_iff
theorem jfe (l:List ShD):(U.jH l).Nodup:=by
 have e:U.jH l=U.qF (fun a b=>decide (a=b)) (U.jc (U.jd tSh fun x=>(U.wX x.1 x.2.1,())) l):=by
  unfold U.jH;congr 1
 rw[e];refine L.asc_nodup (lt:=U.jd tSh fun x=>(U.wX x.1 x.2.1,())) (fun x=> ?_) (L.comp_asc (jmp _) (qZ (jmp l)));exact(jmp [x]).irrefl x (List.mem_singleton.2 rfl)
theorem jzZ (l:List ShD):∀i,i<=l.length->∀k,kr 0 (zt .int k (U.kA [] l i))=(((l.take i).countP (fun s=>decide (U.zX s=k)):Nat):Int)
 |0,_,k=>rfl
 |i+1,hi,k=>by
  have a:=jzZ l i (by omega)
  rw[gg (by omega),L.take_succ (by omega),jE5]
  unfold U.jcb
  by_cases e:k=U.zX (nth l i)
  .rw[e]
   rw[M.mfind_mput (kt:= .int) (U.zX (nth l i)) (kr 0 (zt .int (U.zX (nth l i)) (U.kA [] l i))+1) (U.kA [] l i)]
   show kr 0 (zt .int (U.zX (nth l i)) (U.kA [] l i))+1=_
   rw[a]
   simp
  .rw[M.mfind_mput_ne (kt:= .int) (k:=U.zX (nth l i)) (k':=k) e (kr 0 (zt .int (U.zX (nth l i)) (U.kA [] l i))+1) (U.kA [] l i),a]
   have:decide (U.zX (nth l i)=k)=false:=decide_eq_false fun h=>e h.symm
   simp[this]
theorem js4 {l:List ShD} {i:Nat} (h:i<l.length):U.jft [] l i=(l.take i).any (fun s=>decide (U.zX s=U.zX (nth l i))):=by
 unfold U.jft U.js5;rw[<-gg h,jzZ l (i+1) (by omega),L.take_succ h,jE5];rw[jEk,decide_eq_true_eq,jEF];have b:List.countP (fun s=>decide (U.zX s=U.zX (nth l i))) [nth l i]=1:=(by simp);rw[b];constructor
 .intro a;have:0<(l.take i).countP (fun s=>decide (U.zX s=U.zX (nth l i))):=(by omega);rw[List.countP_pos_iff] at this;exact this
 .intro a;have:0<(l.take i).countP (fun s=>decide (U.zX s=U.zX (nth l i))):=List.countP_pos_iff.2 a;omega
theorem jA6 (l:List ShD):U.jrI l=false↔(l.map U.zX).Nodup:=by
 have g:U.jrI l=false↔∀i,i<l.length->U.jft [] l i=false:=by
  unfold U.jrI;constructor
  .intro h i hi;cases k:U.jft [] l i with
   |false=>rfl
   |true=>
    exfalso;have b:(List.range l.length).findIdx? (U.jft [] l)≠none:=by
     intro f;rw[List.findIdx?_eq_none_iff] at f;have:=f i (jD3.2 hi);rw[k] at this;cases this
    unfold U.jbP U.gw at h;cases d:(List.range l.length).findIdx? (U.jft [] l) with
    |none=>exact b d
    |some j=>
     rw[d] at h;have h:=of_decide_eq_false h;exact h (jD9 j)
  .intro h;rw[(jlJ h).1];rfl
 rw[g,List.nodup_iff_pairwise_ne,List.pairwise_map,jEA];constructor
 .intro h i j hi a m e;have:=h j a;rw[js4 a,jEq] at this;have c:=this (l[i]) (by rw[jEs];exact⟨i,by omega,rfl⟩);rw[L.nth_lt a] at c;simp[e] at c
 .intro h i hi;rw[js4 hi,jEq];intro s b;rw[jEs] at b;obtain⟨j,a,rfl⟩:=b;have:=h j i (by omega) hi (by omega);rw[L.nth_lt hi];simpa using this
theorem jxb (l:List ShD):U.jrI (U.jH l)=false↔∀a∈l,∀b∈l,U.zX a=U.zX b->a=b:=by
 rw[jA6];constructor
 .intro h a c b d e;exact L.nodup_inj h (jad.2 c) (jad.2 d) e
 .intro h;rw[List.nodup_iff_pairwise_ne,List.pairwise_map];exact(List.Pairwise.imp_of_mem (fun{a b} c d f e=>f (h a (jad.1 c) b (jad.1 d) e)) (jfe l))
theorem gm (l:List ShD):U.kR l=false↔∀a∈l,∀b∈l,U.zX a=U.zX b->a=b:=by
 have k:U.kR l=false↔∀i,i<l.length->∀j,j<i->U.jjO (nth l i) (nth l j)=false:=by
  unfold U.kR U.wJ U.jhZ;rw[jEq];constructor
  .intro h i hi j d;have:=h i (jD3.2 hi);rw[Bool.not_eq_true,jEq] at this;have:=this (nth l j) (by rw[jEs];exact⟨j,by omega,(L.nth_lt (by omega)).symm⟩);simpa using this
  .intro h i hi;have hi:=jD3.1 hi;rw[Bool.not_eq_true,jEq];intro s g;rw[jEs] at g;obtain⟨j,d,rfl⟩:=g;have:=h i hi j (by omega);rw[L.nth_lt (l:=l) (i:=j) (by omega)] at this;simpa using this
 rw[k];have f:∀a b:ShD,U.jjO a b=false↔(U.zX a=U.zX b->a=b):=by
  intro a b;unfold U.jjO;rw[Bool.and_eq_false_iff];simp only[decide_eq_false_iff_not,jED,decide_eq_true_eq];constructor
  .rintro(h|h) e
   .exact absurd e h
   .exact h
  .intro h;by_cases e:U.zX a=U.zX b
   .exact .inr (h e)
   .exact .inl e
 constructor
 .intro h a m b n e;obtain⟨i,hi,rfl⟩:=L.mem_iff.1 m;obtain⟨j,d,rfl⟩:=L.mem_iff.1 n;rcases Nat.lt_trichotomy i j with c|rfl|c
  .exact((f _ _).1 (h j d i c) e.symm).symm
  .rfl
  .exact(f _ _).1 (h i hi j c) e
 .intro h i hi j d;exact(f _ _).2 (h _ (L.mem_nth hi) _ (L.mem_nth (by omega)))
theorem jpo (l:List ShD):U.jrI (U.jH l)=U.kR l:=by
 have:=(jxb l).trans (gm l).symm;cases a:U.jrI (U.jH l) with
 |false=>exact(this.1 a).symm
 |true=>
  cases b:U.kR l with
  |false=>rw[this.2 b] at a;cases a
  |true=>rfl
theorem jay (d:DyD):U.jw d=U.v8 d:=by
 unfold U.jw U.jjQ U.v8;rw[jpo]
 split
 .rfl
 .split
  .rfl
  .rw[if_neg (by simp)]
end Go.X
namespace Go.X
open Go.Proofs
abbrev tSt:Ty:= .st [.int,.int]
abbrev jCH:Sh:= .box 72 [.dat .int,.dat (.slice tPe),.dat (.slice tLw),.dat (.slice (.slice tSp)),.dat (.slice tBk),.dat .int,.dat .int,.dat (.slice tSh),.row 3 .int .yes,.row 33 (.slice .int) .no,.row 3 .int .unk]
namespace U
def q8:List Int:=[]
def kk (b:jCH.D):RoD:=(((b.1,b.2.1,b.2.2.1,()),b.2.2.2.1,b.2.2.2.2.1,b.2.2.2.2.2.1,b.2.2.2.2.2.2.1,b.2.2.2.2.2.2.2.1,()),b.2.2.2.2.2.2.2.2.1,b.2.2.2.2.2.2.2.2.2.1,b.2.2.2.2.2.2.2.2.2.2.1,())
def jhI (b:jCH.D) (x:List (List Int)×List Int):jCH.D:=(b.1,b.2.1,b.2.2.1,b.2.2.2.1,b.2.2.2.2.1,b.2.2.2.2.2.1,b.2.2.2.2.2.2.1,b.2.2.2.2.2.2.2.1,b.2.2.2.2.2.2.2.2.1,x.1,x.2,())
def yG (s:ShD):Int×Int×Unit:=(jix s,vS s,())
def zk (l:List ShD) (n:Nat):List ((Int×Int×Unit)×ShD):=(l.take n).foldl (fun m s=>jdq tSt (yG s) s m) []
def zW (m:List ((Int×Int×Unit)×ShD)) (s:ShD):Bool:= !(!decide (kr (Ty.dflt tSh) (zt tSt (yG s) m)=s)|| !decide (jx7 s=1))
def jnM (d:DyD) (vY:List Int) (m:List ((Int×Int×Unit)×ShD)) (x:List (List Int)×List Int) (s:ShD):List (List Int)×List Int:=
 if zW m s=true then(if jm9 d vY (vS s) (nth x.1 (vS s).toNat++[jix s])=true then(x.1.set (vS s).toNat (nth x.1 (vS s).toNat++[jix s]),x.2) else(x.1,x.2++[zX s])) else x
def jDD (l:List ShD):List ShD:=jc (jd tSh fun x=>(jo x.1 x.2.1,())) l
def jL (d:DyD):List ShD:=jDD (jH (zv d))
def zO (r:RoD) (l:List ShD) (n:Nat):List (List Int)×List Int:=(l.take n).foldl (jnM (rd r) (yU r) (zk l l.length)) (wg r,jCI r)
def qK (r:RoD):List (List Int)×List Int:=((zO r (jL (rd r)) (jL (rd r)).length).1,jen (zO r (jL (rd r)) (jL (rd r)).length).2)
def jyv (l:List (List Int)):Prop:=∀x∈l,x=q8
def jyp (r:RoD):Prop:=(jw (rd r)=0/\(yU r).length=(jp (rd r)).length)/\((wg r).length=(jh (jf (rd r))).length/\jyv (wg r))/\jCI r=q8
def vQ (r:RoD) (l:List ShD) (n:Nat) (x:List (List Int)×List Int):Prop:=x.1.length=(jh (jf (rd r))).length/\x.2.length<=n/\∀p:Nat,(nth x.1 p).Nodup/\∀b∈nth x.1 p,qV (rd r) b/\∃i:Nat,i<n/\yG (nth l i)=(b,(p:Int),())/\kr (Ty.dflt tSh) (zt tSt (yG (nth l i)) (zk l l.length))=nth l i
end U
def bx (σ:St) (o:Nat):List SV:=match σ.obj o with|some (.box _ _ cs)=>cs|_=>[]
def gb (t:Ty) (σ:St) (o:Nat):t.Data:=match kK σ t (bx σ o) with|some (x,_)=>x|none=>t.dflt
abbrev jkg:zw:=jvn 3
def jfO:zw:=⟨[.own jCH true],[],fun d=>[U.jyp (U.kk d.1)],fun d=>((),(U.jhI d.1 (U.qK (U.kk d.1)),()))⟩
def jgt:Ann:=fun r=>match r with
 |4=>some fun σ=>{X:=Nat,sl:=fun i=>[(20,.dat .int (i:Int))],ob:=fun i=>[(9,some (.map false tSt tSh (U.zk (gr tSh σ 3) i)))],inv:=fun i=>i<=(gr tSh σ 3).length,mu:=fun i=>(gr tSh σ 3).length-i}
 |9=>some fun σ=>{X:=Nat,sl:=fun i=>[(34,.dat .int (i:Int))],ob:=fun i=>[(400009,some (.row 33 (.slice .int) false .no (U.zO (gb tRo σ 1000000) (gr tSh σ 3) i).1)),(400010,some (.row 3 .int false .unk (U.zO (gb tRo σ 1000000) (gr tSh σ 3) i).2))],inv:=fun i=>i<=(gr tSh σ 3).length/\U.vQ (gb tRo σ 1000000) (gr tSh σ 3) i (U.zO (gb tRo σ 1000000) (gr tSh σ 3) i),mu:=fun i=>(gr tSh σ 3).length-i}
 |_=>none
abbrev q92_2 (d:(Int×List PeD×List LwD×List (List (Int×Int×Unit))×List BkD×Int×Int×List ShD×List Int×List (List Int)×List Int×Unit)×Unit):=(U.jH d.1.2.2.2.2.2.2.2.1)
abbrev q92_3 (d:(Int×List PeD×List LwD×List (List (Int×Int×Unit))×List BkD×Int×Int×List ShD×List Int×List (List Int)×List Int×Unit)×Unit):=((d.1.1,d.1.2.1,d.1.2.2.1,()),d.1.2.2.2.1,d.1.2.2.2.2.1,d.1.2.2.2.2.2.1,d.1.2.2.2.2.2.2.1,d.1.2.2.2.2.2.2.2.1,())
abbrev q92_1 (d:(Int×List PeD×List LwD×List (List (Int×Int×Unit))×List BkD×Int×Int×List ShD×List Int×List (List Int)×List Int×Unit)×Unit):=((q92_3 d),d.1.2.2.2.2.2.2.2.2)
abbrev q92_4:=(Ty.int.pair (Ty.int.pair Ty.unit))
abbrev q92_0:=(Ty.int.pair (Ty.int.pair (Ty.int.pair q92_4)))
abbrev q92_5:=((0:Int),(0:Int),(0:Int),(0:Int),(0:Int),())
def jfB:Prop:=∀(d:(Int×List PeD×List LwD×List (List (Int×Int×Unit))×List BkD×Int×Int×List ShD×List Int×List (List Int)×List Int×Unit)×Unit),U.jyp (U.kk d.1)->d.1.2.2.2.2.2.2.2.1.length<=100000/\(∀(u0:ShD),u0∈U.jH d.1.2.2.2.2.2.2.2.1->∀(y:ShD),y∈U.jH d.1.2.2.2.2.2.2.2.1->U.jx [])/\kh (U.jd q92_0 fun(z0:ShD×ShD×Unit)=>(U.jo z0.1 z0.2.1,())) (q92_2 d)/\((U.jc (U.jd q92_0 fun(z1:ShD×ShD×Unit)=>(U.jo z1.1 z1.2.1,())) (q92_2 d)).length<4611686018427387904->(∃(x:Nat),((0=(x:Int)/\True)/\[]=U.zk (U.jc (U.jd q92_0 fun(z2:ShD×ShD×Unit)=>(U.jo z2.1 z2.2.1,())) (q92_2 d)) x/\True)/\x<=(U.jc (U.jd q92_0 fun(z3:ShD×ShD×Unit)=>(U.jo z3.1 z3.2.1,())) (q92_2 d)).length)/\∀(x:Nat),x<=(U.jc (U.jd q92_0 fun(z4:ShD×ShD×Unit)=>(U.jo z4.1 z4.2.1,())) (q92_2 d)).length->(decide ((x:Int)<(↑(U.jc (U.jd q92_0 fun(z5:ShD×ShD×Unit)=>(U.jo z5.1 z5.2.1,())) (q92_2 d)).length:Int))=true->0<=(x:Int)/\(x:Int)<(↑(U.jc (U.jd q92_0 fun(z6:ShD×ShD×Unit)=>(U.jo z6.1 z6.2.1,())) (q92_2 d)).length:Int)/\jC ((x:Int)+1)/\∃(b:Nat),(((x:Int)+1=(b:Int)/\True)/\jdq q92_4 (nth (U.jc (U.jd q92_0 fun(z7:ShD×ShD×Unit)=>(U.jo z7.1 z7.2.1,())) (q92_2 d)) (x:Int).toNat).2.2.2 (nth (U.jc (U.jd q92_0 fun(z8:ShD×ShD×Unit)=>(U.jo z8.1 z8.2.1,())) (q92_2 d)) (x:Int).toNat) (U.zk (U.jc (U.jd q92_0 fun(z9:ShD×ShD×Unit)=>(U.jo z9.1 z9.2.1,())) (q92_2 d)) x)=U.zk (U.jc (U.jd q92_0 fun(v:ShD×ShD×Unit)=>(U.jo v.1 v.2.1,())) (q92_2 d)) b/\True)/\b<=(U.jc (U.jd q92_0 fun(w:ShD×ShD×Unit)=>(U.jo w.1 w.2.1,())) (q92_2 d)).length/\(U.jc (U.jd q92_0 fun(z:ShD×ShD×Unit)=>(U.jo z.1 z.2.1,())) (q92_2 d)).length-b<(U.jc (U.jd q92_0 fun(A:ShD×ShD×Unit)=>(U.jo A.1 A.2.1,())) (q92_2 d)).length-x)/\(decide ((x:Int)<(↑(U.jc (U.jd q92_0 fun(B:ShD×ShD×Unit)=>(U.jo B.1 B.2.1,())) (q92_2 d)).length:Int))=false->(U.jc (U.jd q92_0 fun(C:ShD×ShD×Unit)=>(U.jo C.1 C.2.1,())) (q92_2 d)).length<4611686018427387904->(∃(x:Nat),((0=(x:Int)/\True)/\d.1.2.2.2.2.2.2.2.2.2.1=(U.zO (q92_1 d) (U.jc (U.jd q92_0 fun(D:ShD×ShD×Unit)=>(U.jo D.1 D.2.1,())) (q92_2 d)) x).1/\d.1.2.2.2.2.2.2.2.2.2.2.1=(U.zO (q92_1 d) (U.jc (U.jd q92_0 fun(E:ShD×ShD×Unit)=>(U.jo E.1 E.2.1,())) (q92_2 d)) x).2/\True)/\x<=(U.jc (U.jd q92_0 fun(F:ShD×ShD×Unit)=>(U.jo F.1 F.2.1,())) (q92_2 d)).length/\U.vQ (q92_1 d) (U.jc (U.jd q92_0 fun(G:ShD×ShD×Unit)=>(U.jo G.1 G.2.1,())) (q92_2 d)) x (U.zO (q92_1 d) (U.jc (U.jd q92_0 fun(H:ShD×ShD×Unit)=>(U.jo H.1 H.2.1,())) (q92_2 d)) x))/\∀(a:Nat),a<=(U.jc (U.jd q92_0 fun(I:ShD×ShD×Unit)=>(U.jo I.1 I.2.1,())) (q92_2 d)).length/\U.vQ (q92_1 d) (U.jc (U.jd q92_0 fun(J:ShD×ShD×Unit)=>(U.jo J.1 J.2.1,())) (q92_2 d)) a (U.zO (q92_1 d) (U.jc (U.jd q92_0 fun(K:ShD×ShD×Unit)=>(U.jo K.1 K.2.1,())) (q92_2 d)) a)->(decide ((a:Int)<(↑(U.jc (U.jd q92_0 fun(L:ShD×ShD×Unit)=>(U.jo L.1 L.2.1,())) (q92_2 d)).length:Int))=true->0<=(a:Int)/\(a:Int)<(↑(U.jc (U.jd q92_0 fun(M:ShD×ShD×Unit)=>(U.jo M.1 M.2.1,())) (q92_2 d)).length:Int)/\((!decide (kr q92_5 (zt q92_4 (nth (U.jc (U.jd q92_0 fun(N:ShD×ShD×Unit)=>(U.jo N.1 N.2.1,())) (q92_2 d)) (a:Int).toNat).2.2.2 (U.zk (U.jc (U.jd q92_0 fun(O:ShD×ShD×Unit)=>(U.jo O.1 O.2.1,())) (q92_2 d)) x))=nth (U.jc (U.jd q92_0 fun(P:ShD×ShD×Unit)=>(U.jo P.1 P.2.1,())) (q92_2 d)) (a:Int).toNat)||decide ((nth (U.jc (U.jd q92_0 fun(Q:ShD×ShD×Unit)=>(U.jo Q.1 Q.2.1,())) (q92_2 d)) (a:Int).toNat).2.2.1≠1))=true->jC ((a:Int)+1)/\∃(b:Nat),(((a:Int)+1=(b:Int)/\True)/\(U.zO (q92_1 d) (U.jc (U.jd q92_0 fun(R:ShD×ShD×Unit)=>(U.jo R.1 R.2.1,())) (q92_2 d)) a).2=(U.zO (q92_1 d) (U.jc (U.jd q92_0 fun(S:ShD×ShD×Unit)=>(U.jo S.1 S.2.1,())) (q92_2 d)) b).2/\(U.zO (q92_1 d) (U.jc (U.jd q92_0 fun(T:ShD×ShD×Unit)=>(U.jo T.1 T.2.1,())) (q92_2 d)) a).1=(U.zO (q92_1 d) (U.jc (U.jd q92_0 fun(V:ShD×ShD×Unit)=>(U.jo V.1 V.2.1,())) (q92_2 d)) b).1/\True)/\(b<=(U.jc (U.jd q92_0 fun(W:ShD×ShD×Unit)=>(U.jo W.1 W.2.1,())) (q92_2 d)).length/\U.vQ (q92_1 d) (U.jc (U.jd q92_0 fun(X:ShD×ShD×Unit)=>(U.jo X.1 X.2.1,())) (q92_2 d)) b (U.zO (q92_1 d) (U.jc (U.jd q92_0 fun(Y:ShD×ShD×Unit)=>(U.jo Y.1 Y.2.1,())) (q92_2 d)) b))/\(U.jc (U.jd q92_0 fun(Z:ShD×ShD×Unit)=>(U.jo Z.1 Z.2.1,())) (q92_2 d)).length-b<(U.jc (U.jd q92_0 fun(z38:ShD×ShD×Unit)=>(U.jo z38.1 z38.2.1,())) (q92_2 d)).length-a)/\((!decide (kr q92_5 (zt q92_4 (nth (U.jc (U.jd q92_0 fun(z39:ShD×ShD×Unit)=>(U.jo z39.1 z39.2.1,())) (q92_2 d)) (a:Int).toNat).2.2.2 (U.zk (U.jc (U.jd q92_0 fun(z40:ShD×ShD×Unit)=>(U.jo z40.1 z40.2.1,())) (q92_2 d)) x))=nth (U.jc (U.jd q92_0 fun(z41:ShD×ShD×Unit)=>(U.jo z41.1 z41.2.1,())) (q92_2 d)) (a:Int).toNat)||decide ((nth (U.jc (U.jd q92_0 fun(z42:ShD×ShD×Unit)=>(U.jo z42.1 z42.2.1,())) (q92_2 d)) (a:Int).toNat).2.2.1≠1))=false->(0:Int)<=(nth (U.jc (U.jd q92_0 fun(z43:ShD×ShD×Unit)=>(U.jo z43.1 z43.2.1,())) (q92_2 d)) (a:Int).toNat).2.2.2.2.1/\(nth (U.jc (U.jd q92_0 fun(z44:ShD×ShD×Unit)=>(U.jo z44.1 z44.2.1,())) (q92_2 d)) (a:Int).toNat).2.2.2.2.1<(↑(U.zO (q92_1 d) (U.jc (U.jd q92_0 fun(z45:ShD×ShD×Unit)=>(U.jo z45.1 z45.2.1,())) (q92_2 d)) a).1.length:Int)/\(0:Int)<=(nth (U.jc (U.jd q92_0 fun(z46:ShD×ShD×Unit)=>(U.jo z46.1 z46.2.1,())) (q92_2 d)) (a:Int).toNat).2.2.2.2.1/\(nth (U.jc (U.jd q92_0 fun(z47:ShD×ShD×Unit)=>(U.jo z47.1 z47.2.1,())) (q92_2 d)) (a:Int).toNat).2.2.2.2.1<(↑(U.zO (q92_1 d) (U.jc (U.jd q92_0 fun(z48:ShD×ShD×Unit)=>(U.jo z48.1 z48.2.1,())) (q92_2 d)) a).1.length:Int)/\(0:Int)<=(nth (U.jc (U.jd q92_0 fun(z49:ShD×ShD×Unit)=>(U.jo z49.1 z49.2.1,())) (q92_2 d)) (a:Int).toNat).2.2.2.2.1/\(nth (U.jc (U.jd q92_0 fun(z50:ShD×ShD×Unit)=>(U.jo z50.1 z50.2.1,())) (q92_2 d)) (a:Int).toNat).2.2.2.2.1<(↑(U.zO (q92_1 d) (U.jc (U.jd q92_0 fun(z51:ShD×ShD×Unit)=>(U.jo z51.1 z51.2.1,())) (q92_2 d)) a).1.length:Int)/\(↑(nth (U.zO (q92_1 d) (U.jc (U.jd q92_0 fun(z52:ShD×ShD×Unit)=>(U.jo z52.1 z52.2.1,())) (q92_2 d)) a).1 (nth (U.jc (U.jd q92_0 fun(z53:ShD×ShD×Unit)=>(U.jo z53.1 z53.2.1,())) (q92_2 d)) (a:Int).toNat).2.2.2.2.1.toNat).length:Int)=(↑(nth (U.zO (q92_1 d) (U.jc (U.jd q92_0 fun(z54:ShD×ShD×Unit)=>(U.jo z54.1 z54.2.1,())) (q92_2 d)) a).1 (nth (U.jc (U.jd q92_0 fun(z55:ShD×ShD×Unit)=>(U.jo z55.1 z55.2.1,())) (q92_2 d)) (a:Int).toNat).2.2.2.2.1.toNat).length:Int)/\(↑(nth (U.zO (q92_1 d) (U.jc (U.jd q92_0 fun(z56:ShD×ShD×Unit)=>(U.jo z56.1 z56.2.1,())) (q92_2 d)) a).1 (nth (U.jc (U.jd q92_0 fun(z57:ShD×ShD×Unit)=>(U.jo z57.1 z57.2.1,())) (q92_2 d)) (a:Int).toNat).2.2.2.2.1.toNat).length:Int)=(↑(nth (U.zO (q92_1 d) (U.jc (U.jd q92_0 fun(z58:ShD×ShD×Unit)=>(U.jo z58.1 z58.2.1,())) (q92_2 d)) a).1 (nth (U.jc (U.jd q92_0 fun(z59:ShD×ShD×Unit)=>(U.jo z59.1 z59.2.1,())) (q92_2 d)) (a:Int).toNat).2.2.2.2.1.toNat).length:Int)/\((nth (U.zO (q92_1 d) (U.jc (U.jd q92_0 fun(z60:ShD×ShD×Unit)=>(U.jo z60.1 z60.2.1,())) (q92_2 d)) a).1 (nth (U.jc (U.jd q92_0 fun(z61:ShD×ShD×Unit)=>(U.jo z61.1 z61.2.1,())) (q92_2 d)) (a:Int).toNat).2.2.2.2.1.toNat).length+[(nth (U.jc (U.jd q92_0 fun(z62:ShD×ShD×Unit)=>(U.jo z62.1 z62.2.1,())) (q92_2 d)) (a:Int).toNat).2.2.2.1].length)*8<=140737488355328/\(some ((q92_3 d),d.1.2.2.2.2.2.2.2.2.1,(U.zO (q92_1 d) (U.jc (U.jd q92_0 fun(z63:ShD×ShD×Unit)=>(U.jo z63.1 z63.2.1,())) (q92_2 d)) a).1,(U.zO (q92_1 d) (U.jc (U.jd q92_0 fun(z64:ShD×ShD×Unit)=>(U.jo z64.1 z64.2.1,())) (q92_2 d)) a).2,())).isSome=true/\U.joO (U.ro (some ((q92_3 d),d.1.2.2.2.2.2.2.2.2.1,(U.zO (q92_1 d) (U.jc (U.jd q92_0 fun(z65:ShD×ShD×Unit)=>(U.jo z65.1 z65.2.1,())) (q92_2 d)) a).1,(U.zO (q92_1 d) (U.jc (U.jd q92_0 fun(z66:ShD×ShD×Unit)=>(U.jo z66.1 z66.2.1,())) (q92_2 d)) a).2,())))/\U.jtU (U.rd (U.ro (some ((q92_3 d),d.1.2.2.2.2.2.2.2.2.1,(U.zO (q92_1 d) (U.jc (U.jd q92_0 fun(z67:ShD×ShD×Unit)=>(U.jo z67.1 z67.2.1,())) (q92_2 d)) a).1,(U.zO (q92_1 d) (U.jc (U.jd q92_0 fun(z68:ShD×ShD×Unit)=>(U.jo z68.1 z68.2.1,())) (q92_2 d)) a).2,())))) (nth (U.jc (U.jd q92_0 fun(z69:ShD×ShD×Unit)=>(U.jo z69.1 z69.2.1,())) (q92_2 d)) (a:Int).toNat).2.2.2.2.1/\U.joQ (U.rd (U.ro (some ((q92_3 d),d.1.2.2.2.2.2.2.2.2.1,(U.zO (q92_1 d) (U.jc (U.jd q92_0 fun(z70:ShD×ShD×Unit)=>(U.jo z70.1 z70.2.1,())) (q92_2 d)) a).1,(U.zO (q92_1 d) (U.jc (U.jd q92_0 fun(z71:ShD×ShD×Unit)=>(U.jo z71.1 z71.2.1,())) (q92_2 d)) a).2,())))) (nth (U.zO (q92_1 d) (U.jc (U.jd q92_0 fun(z72:ShD×ShD×Unit)=>(U.jo z72.1 z72.2.1,())) (q92_2 d)) a).1 (nth (U.jc (U.jd q92_0 fun(z73:ShD×ShD×Unit)=>(U.jo z73.1 z73.2.1,())) (q92_2 d)) (a:Int).toNat).2.2.2.2.1.toNat++[(nth (U.jc (U.jd q92_0 fun(z74:ShD×ShD×Unit)=>(U.jo z74.1 z74.2.1,())) (q92_2 d)) (a:Int).toNat).2.2.2.1])/\(U.jaO (U.ro (some ((q92_3 d),d.1.2.2.2.2.2.2.2.2.1,(U.zO (q92_1 d) (U.jc (U.jd q92_0 fun(z75:ShD×ShD×Unit)=>(U.jo z75.1 z75.2.1,())) (q92_2 d)) a).1,(U.zO (q92_1 d) (U.jc (U.jd q92_0 fun(z76:ShD×ShD×Unit)=>(U.jo z76.1 z76.2.1,())) (q92_2 d)) a).2,()))) (nth (U.jc (U.jd q92_0 fun(z77:ShD×ShD×Unit)=>(U.jo z77.1 z77.2.1,())) (q92_2 d)) (a:Int).toNat).2.2.2.2.1 (nth (U.zO (q92_1 d) (U.jc (U.jd q92_0 fun(z78:ShD×ShD×Unit)=>(U.jo z78.1 z78.2.1,())) (q92_2 d)) a).1 (nth (U.jc (U.jd q92_0 fun(z79:ShD×ShD×Unit)=>(U.jo z79.1 z79.2.1,())) (q92_2 d)) (a:Int).toNat).2.2.2.2.1.toNat++[(nth (U.jc (U.jd q92_0 fun(z80:ShD×ShD×Unit)=>(U.jo z80.1 z80.2.1,())) (q92_2 d)) (a:Int).toNat).2.2.2.1])=true->(0:Int)<=(nth (U.jc (U.jd q92_0 fun(z81:ShD×ShD×Unit)=>(U.jo z81.1 z81.2.1,())) (q92_2 d)) (a:Int).toNat).2.2.2.2.1/\(nth (U.jc (U.jd q92_0 fun(z82:ShD×ShD×Unit)=>(U.jo z82.1 z82.2.1,())) (q92_2 d)) (a:Int).toNat).2.2.2.2.1<(↑(U.zO (q92_1 d) (U.jc (U.jd q92_0 fun(z83:ShD×ShD×Unit)=>(U.jo z83.1 z83.2.1,())) (q92_2 d)) a).1.length:Int)/\jC ((a:Int)+1)/\∃(b:Nat),(((a:Int)+1=(b:Int)/\True)/\(U.zO (q92_1 d) (U.jc (U.jd q92_0 fun(z84:ShD×ShD×Unit)=>(U.jo z84.1 z84.2.1,())) (q92_2 d)) a).2=(U.zO (q92_1 d) (U.jc (U.jd q92_0 fun(z85:ShD×ShD×Unit)=>(U.jo z85.1 z85.2.1,())) (q92_2 d)) b).2/\(U.zO (q92_1 d) (U.jc (U.jd q92_0 fun(z86:ShD×ShD×Unit)=>(U.jo z86.1 z86.2.1,())) (q92_2 d)) a).1.set (nth (U.jc (U.jd q92_0 fun(z87:ShD×ShD×Unit)=>(U.jo z87.1 z87.2.1,())) (q92_2 d)) (a:Int).toNat).2.2.2.2.1.toNat (nth (U.zO (q92_1 d) (U.jc (U.jd q92_0 fun(z88:ShD×ShD×Unit)=>(U.jo z88.1 z88.2.1,())) (q92_2 d)) a).1 (nth (U.jc (U.jd q92_0 fun(z89:ShD×ShD×Unit)=>(U.jo z89.1 z89.2.1,())) (q92_2 d)) (a:Int).toNat).2.2.2.2.1.toNat++[(nth (U.jc (U.jd q92_0 fun(z90:ShD×ShD×Unit)=>(U.jo z90.1 z90.2.1,())) (q92_2 d)) (a:Int).toNat).2.2.2.1])=(U.zO (q92_1 d) (U.jc (U.jd q92_0 fun(z91:ShD×ShD×Unit)=>(U.jo z91.1 z91.2.1,())) (q92_2 d)) b).1/\True)/\(b<=(U.jc (U.jd q92_0 fun(z92:ShD×ShD×Unit)=>(U.jo z92.1 z92.2.1,())) (q92_2 d)).length/\U.vQ (q92_1 d) (U.jc (U.jd q92_0 fun(z93:ShD×ShD×Unit)=>(U.jo z93.1 z93.2.1,())) (q92_2 d)) b (U.zO (q92_1 d) (U.jc (U.jd q92_0 fun(z94:ShD×ShD×Unit)=>(U.jo z94.1 z94.2.1,())) (q92_2 d)) b))/\(U.jc (U.jd q92_0 fun(z95:ShD×ShD×Unit)=>(U.jo z95.1 z95.2.1,())) (q92_2 d)).length-b<(U.jc (U.jd q92_0 fun(z96:ShD×ShD×Unit)=>(U.jo z96.1 z96.2.1,())) (q92_2 d)).length-a)/\(U.jaO (U.ro (some ((q92_3 d),d.1.2.2.2.2.2.2.2.2.1,(U.zO (q92_1 d) (U.jc (U.jd q92_0 fun(z97:ShD×ShD×Unit)=>(U.jo z97.1 z97.2.1,())) (q92_2 d)) a).1,(U.zO (q92_1 d) (U.jc (U.jd q92_0 fun(z98:ShD×ShD×Unit)=>(U.jo z98.1 z98.2.1,())) (q92_2 d)) a).2,()))) (nth (U.jc (U.jd q92_0 fun(z99:ShD×ShD×Unit)=>(U.jo z99.1 z99.2.1,())) (q92_2 d)) (a:Int).toNat).2.2.2.2.1 (nth (U.zO (q92_1 d) (U.jc (U.jd q92_0 fun(c:ShD×ShD×Unit)=>(U.jo c.1 c.2.1,())) (q92_2 d)) a).1 (nth (U.jc (U.jd q92_0 fun(e:ShD×ShD×Unit)=>(U.jo e.1 e.2.1,())) (q92_2 d)) (a:Int).toNat).2.2.2.2.1.toNat++[(nth (U.jc (U.jd q92_0 fun(f:ShD×ShD×Unit)=>(U.jo f.1 f.2.1,())) (q92_2 d)) (a:Int).toNat).2.2.2.1])=false->((U.zO (q92_1 d) (U.jc (U.jd q92_0 fun(g:ShD×ShD×Unit)=>(U.jo g.1 g.2.1,())) (q92_2 d)) a).2.length+[(nth (U.jc (U.jd q92_0 fun(h:ShD×ShD×Unit)=>(U.jo h.1 h.2.1,())) (q92_2 d)) (a:Int).toNat).1].length)*8<=140737488355328/\jC ((a:Int)+1)/\∃(b:Nat),(((a:Int)+1=(b:Int)/\True)/\(U.zO (q92_1 d) (U.jc (U.jd q92_0 fun(i:ShD×ShD×Unit)=>(U.jo i.1 i.2.1,())) (q92_2 d)) a).1=(U.zO (q92_1 d) (U.jc (U.jd q92_0 fun(j:ShD×ShD×Unit)=>(U.jo j.1 j.2.1,())) (q92_2 d)) b).1/\(d.1.1=d.1.1/\d.1.2.1=d.1.2.1/\d.1.2.2.1=d.1.2.2.1/\d.1.2.2.2.1=d.1.2.2.2.1/\d.1.2.2.2.2.1=d.1.2.2.2.2.1/\d.1.2.2.2.2.2.1=d.1.2.2.2.2.2.1/\d.1.2.2.2.2.2.2.1=d.1.2.2.2.2.2.2.1/\d.1.2.2.2.2.2.2.2.1=d.1.2.2.2.2.2.2.2.1/\True/\True/\True/\True)/\(U.zO (q92_1 d) (U.jc (U.jd q92_0 fun(k:ShD×ShD×Unit)=>(U.jo k.1 k.2.1,())) (q92_2 d)) a).2++[(nth (U.jc (U.jd q92_0 fun(l:ShD×ShD×Unit)=>(U.jo l.1 l.2.1,())) (q92_2 d)) (a:Int).toNat).1]=(U.zO (q92_1 d) (U.jc (U.jd q92_0 fun(m:ShD×ShD×Unit)=>(U.jo m.1 m.2.1,())) (q92_2 d)) b).2/\True)/\(b<=(U.jc (U.jd q92_0 fun(n:ShD×ShD×Unit)=>(U.jo n.1 n.2.1,())) (q92_2 d)).length/\U.vQ (q92_1 d) (U.jc (U.jd q92_0 fun(o:ShD×ShD×Unit)=>(U.jo o.1 o.2.1,())) (q92_2 d)) b (U.zO (q92_1 d) (U.jc (U.jd q92_0 fun(p:ShD×ShD×Unit)=>(U.jo p.1 p.2.1,())) (q92_2 d)) b))/\(U.jc (U.jd q92_0 fun(q:ShD×ShD×Unit)=>(U.jo q.1 q.2.1,())) (q92_2 d)).length-b<(U.jc (U.jd q92_0 fun(r:ShD×ShD×Unit)=>(U.jo r.1 r.2.1,())) (q92_2 d)).length-a)))/\(decide ((a:Int)<(↑(U.jc (U.jd q92_0 fun(s:ShD×ShD×Unit)=>(U.jo s.1 s.2.1,())) (q92_2 d)).length:Int))=false->()=()/\((d.1.1,d.1.2.1,d.1.2.2.1,d.1.2.2.2.1,d.1.2.2.2.2.1,d.1.2.2.2.2.2.1,d.1.2.2.2.2.2.2.1,d.1.2.2.2.2.2.2.2.1,d.1.2.2.2.2.2.2.2.2.1,(U.zO (q92_1 d) (U.jc (U.jd q92_0 fun(t:ShD×ShD×Unit)=>(U.jo t.1 t.2.1,())) (q92_2 d)) a).1,U.jen (U.zO (q92_1 d) (U.jc (U.jd q92_0 fun(u:ShD×ShD×Unit)=>(U.jo u.1 u.2.1,())) (q92_2 d)) a).2,()),())=(U.jhI d.1 (U.qK (U.kk d.1)),()))))
end Go.X
