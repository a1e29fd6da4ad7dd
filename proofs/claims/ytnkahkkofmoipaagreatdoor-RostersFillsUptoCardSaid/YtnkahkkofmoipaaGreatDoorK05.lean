/-
  Part 5 of the road: a checked reading of bodies, and what the functions on it do (T L BT BS NL DF RC FX A1 P1 A2 P2 A4 P4 A5 P5 A3 P6 CM MP O1 B1 P7 IS B2 P8 B3 P9 DI).
-/
import Derived.Test.YtnkahkkofmoipaaGreatDoorK04
import Derived.Test.YtnkahkkofmoipaaGreatDoorProg
import Derived.KernelRfl
import Derived.Shelf.SlSortCmp.WholeK
import Derived.Shelf.Sort.Plain
namespace Go.X
open Go.Proofs
abbrev bT:=true
abbrev bF:=false
abbrev vO:Value:=.int .i64 0
abbrev qy0:Ty:=.ptr (.uint .u8)
abbrev qy1:Ty:=.st [.int,.int]
abbrev qy2:Ty:=.ptr (.uint .u64)
abbrev qy3:Ty:=.slice (.slice .int)
abbrev qy4:Ty:=.st [.int,.int,.bool]
abbrev qy5:Ty:=.slice qy1
abbrev qy6:Ty:=.slice qy4
abbrev qy7:Ty:=.st [.int,.int,.bool,.uint .u8]
abbrev qy8:Ty:=.st [.int,.int,.int,.int,.int]
abbrev qy9:Ty:=.slice qy5
abbrev qy10:Ty:=.st [.int,.int,.int,.int,.int,.int]
abbrev qy11:Ty:=.slice qy8
abbrev qy12:Ty:=.slice qy10
abbrev qy13:Ty:=.slice qy11
abbrev qy14:Ty:=.st [.slice .int,.int,.int,.slice .int,.bool,.int]
abbrev qy15:Ty:=.map qy1 qy8
abbrev qy16:Ty:=.slice qy14
abbrev qy17:Ty:=.st [qy10,.int,.int,.int]
abbrev qy18:Ty:=.slice qy17
abbrev qy19:Ty:=.st [.int,qy16,qy6]
abbrev qy20:Ty:=.st [qy19,qy10,qy4]
abbrev qy21:Ty:=.ptr qy20
abbrev qy22:Ty:=.st [qy19,qy9,qy18,.int,.int,qy11]
abbrev qy23:Ty:=.slice qy22
abbrev qy24:Ty:=.st [qy22,.slice .int,qy3,.slice .int]
abbrev qy25:Ty:=.ptr qy24
abbrev qy26:Ty:=.st [qy25,qy3,.slice .int,.slice .int,.int,.bool]
abbrev qy27:Ty:=.ptr qy26
def rr (i:Nat)(t:Ty)(n:Nat)(a:Bool)(f:List (Nat×Nat))(s:Bool)(e b:Nat)(z:List Value)(c m:Bool)(k:Nat)(q:Bool):TI:=⟨i,t,n,a,f,s,e,b,z,c,m,k,q,false,false,false⟩
def rf (i:Nat):TI:=⟨i,.unit,1,false,[],false,0,8,[.nilFunc],false,false,0,false,false,false,true⟩
def rq (i:Nat):TI:=⟨i,.unit,1,false,[],false,0,8,[.pointer none],false,false,0,false,false,true,false⟩
def ti:List TI:=[
 rf 1,
 rr 2 .int 1 bF [] bF 0 8 [vO] bF bF 0 bT,
 rr 3 .int 1 bF [] bF 0 8 [vO] bF bF 0 bT,
 rr 4 .bool 1 bF [] bF 0 1 [.bool false] bT bF 0 bF,
 rr 5 (.uint .u8) 1 bF [] bF 0 1 [.int .u8 0] bF bF 0 bF,
 rr 6 (.uint .u8) 1 bF [] bF 0 1 [.int .u8 0] bF bF 0 bF,
 rr 7 qy7 4 bT [(0,2),(1,3),(2,4),(3,6)] bF 0 24 [vO,vO,.bool false,.int .u8 0] bT bF 0 bT,
 rr 8 qy7 4 bT [(0,2),(1,3),(2,4),(3,6)] bF 0 24 [vO,vO,.bool false,.int .u8 0] bT bF 0 bT,
 rr 12 (.uint .u64) 1 bF [] bF 0 8 [.int .u64 0] bF bF 0 bF,
 rq 15,
 rq 16,
 rq 17,
 rr 18 .unit 1 bT [(0,17)] bF 0 8 [.pointer none] bF bF 0 bF,
 rr 19 .unit 1 bT [(0,17)] bF 0 8 [.pointer none] bF bF 0 bF,
 rr 21 (.uint .i32) 1 bF [] bF 0 4 [.int .i32 0] bF bF 0 bF,
 rr 22 qy16 1 bF [] bT 102 24 [.slice none 0 0] bF bF 0 bF,
 rr 23 qy6 1 bF [] bT 104 24 [.slice none 0 0] bF bF 0 bF,
 rr 24 qy19 3 bT [(0,3),(1,22),(2,23)] bF 0 56 [vO,.slice none 0 0,.slice none 0 0] bF bF 0 bF,
 rr 25 qy19 3 bT [(0,3),(1,22),(2,23)] bF 0 56 [vO,.slice none 0 0,.slice none 0 0] bF bF 0 bF,
 rr 26 qy9 1 bF [] bT 75 24 [.slice none 0 0] bF bF 0 bF,
 rr 27 qy18 1 bF [] bT 62 24 [.slice none 0 0] bF bF 0 bF,
 rr 28 qy11 1 bF [] bT 54 24 [.slice none 0 0] bF bF 0 bF,
 rr 29 qy22 8 bT [(0,25),(3,26),(4,27),(5,3),(6,3),(7,28)] bF 0 144 [vO,.slice none 0 0,.slice none 0 0,.slice none 0 0,.slice none 0 0,vO,vO,.slice none 0 0] bF bF 0 bF,
 rr 30 qy22 8 bT [(0,25),(3,26),(4,27),(5,3),(6,3),(7,28)] bF 0 144 [vO,.slice none 0 0,.slice none 0 0,.slice none 0 0,.slice none 0 0,vO,vO,.slice none 0 0] bF bF 0 bF,
 rf 31,
 rf 32,
 rr 33 (.slice .int) 1 bF [] bT 3 24 [.slice none 0 0] bF bF 0 bF,
 rr 34 .int 1 bF [] bF 0 8 [vO] bF bF 0 bT,
 rf 36,
 rf 37,
 rf 38,
 rf 39,
 rf 41,
 rr 42 qy1 2 bT [(0,3),(1,3)] bF 0 16 [vO,vO] bT bF 0 bT,
 rr 43 qy1 2 bT [(0,3),(1,3)] bF 0 16 [vO,vO] bT bF 0 bT,
 rf 44,
 rf 45,
 rf 47,
 rf 48,
 rf 50,
 rf 51,
 rf 52,
 rr 53 qy8 5 bT [(0,3),(1,3),(2,3),(3,3),(4,3)] bF 0 40 [vO,vO,vO,vO,vO] bT bF 0 bT,
 rr 54 qy8 5 bT [(0,3),(1,3),(2,3),(3,3),(4,3)] bF 0 40 [vO,vO,vO,vO,vO] bT bF 0 bT,
 rf 55,
 rf 56,
 rf 57,
 rf 58,
 rr 59 qy10 6 bT [(0,3),(1,3),(2,3),(3,3),(4,3),(5,3)] bF 0 48 [vO,vO,vO,vO,vO,vO] bT bF 0 bT,
 rr 60 qy10 6 bT [(0,3),(1,3),(2,3),(3,3),(4,3),(5,3)] bF 0 48 [vO,vO,vO,vO,vO,vO] bT bF 0 bT,
 rr 61 qy17 9 bT [(0,60),(6,3),(7,3),(8,3)] bF 0 72 [vO,vO,vO,vO,vO,vO,vO,vO,vO] bT bF 0 bT,
 rr 62 qy17 9 bT [(0,60),(6,3),(7,3),(8,3)] bF 0 72 [vO,vO,vO,vO,vO,vO,vO,vO,vO] bT bF 0 bT,
 rf 63,
 {rr 64 qy25 1 bF [] bF 0 8 [.pointer none] bF bF 0 bF with pt:=true},
 rf 66,
 {rr 67 qy27 1 bF [] bF 0 8 [.pointer none] bF bF 0 bF with pt:=true},
 rr 68 qy3 1 bF [] bT 33 24 [.slice none 0 0] bF bF 0 bF,
 rr 69 qy26 6 bT [(0,64),(1,68),(2,33),(3,33),(4,3),(5,4)] bF 0 96 [.pointer none,.slice none 0 0,.slice none 0 0,.slice none 0 0,vO,.bool false] bF bF 0 bF,
 rr 70 qy26 6 bT [(0,64),(1,68),(2,33),(3,33),(4,3),(5,4)] bF 0 96 [.pointer none,.slice none 0 0,.slice none 0 0,.slice none 0 0,vO,.bool false] bF bF 0 bF,
 rr 71 qy24 11 bT [(0,30),(8,33),(9,68),(10,33)] bF 0 216 [vO,.slice none 0 0,.slice none 0 0,.slice none 0 0,.slice none 0 0,vO,vO,.slice none 0 0,.slice none 0 0,.slice none 0 0,.slice none 0 0] bF bF 0 bF,
 rr 72 qy24 11 bT [(0,30),(8,33),(9,68),(10,33)] bF 0 216 [vO,.slice none 0 0,.slice none 0 0,.slice none 0 0,.slice none 0 0,vO,vO,.slice none 0 0,.slice none 0 0,.slice none 0 0,.slice none 0 0] bF bF 0 bF,
 rf 73,
 rf 74,
 rr 75 qy5 1 bF [] bT 92 24 [.slice none 0 0] bF bF 0 bF,
 rf 76,
 rf 77,
 rf 78,
 rf 79,
 rf 80,
 rf 81,
 rf 82,
 rf 84,
 rf 85,
 rf 86,
 rf 87,
 rf 88,
 rf 89,
 rf 90,
 rr 91 qy1 2 bT [(0,3),(1,3)] bF 0 16 [vO,vO] bT bF 0 bT,
 rr 92 qy1 2 bT [(0,3),(1,3)] bF 0 16 [vO,vO] bT bF 0 bT,
 rf 93,
 rf 94,
 rr 95 (.uint .u64) 1 bF [] bF 0 8 [.int .u64 0] bF bF 0 bF,
 rf 96,
 rr 97 qy23 1 bF [] bT 30 24 [.slice none 0 0] bF bF 0 bF,
 rf 98,
 rf 99,
 rf 100,
 rr 101 qy14 6 bT [(0,33),(1,3),(2,3),(3,33),(4,4),(5,3)] bF 0 80 [.slice none 0 0,vO,vO,.slice none 0 0,.bool false,vO] bF bF 0 bF,
 rr 102 qy14 6 bT [(0,33),(1,3),(2,3),(3,33),(4,4),(5,3)] bF 0 80 [.slice none 0 0,vO,vO,.slice none 0 0,.bool false,vO] bF bF 0 bF,
 rr 103 qy4 3 bT [(0,3),(1,3),(2,4)] bF 0 24 [vO,vO,.bool false] bT bF 0 bT,
 rr 104 qy4 3 bT [(0,3),(1,3),(2,4)] bF 0 24 [vO,vO,.bool false] bT bF 0 bT,
 rf 105,
 rf 106,
 rr 107 qy12 1 bF [] bT 60 24 [.slice none 0 0] bF bF 0 bF,
 rf 109,
 rf 110,
 rf 111,
 rf 113,
 rf 114,
 rf 115,
 rf 116,
 rf 117,
 rf 118,
 rf 119,
 rf 120,
 rf 121,
 rf 122,
 rf 123,
 rf 124,
 rr 125 (.map .int .int) 1 bF [] bF 3 8 [.map none] bF bT 3 bF,
 rf 126,
 rf 127,
 rf 128,
 rf 129,
 rf 130,
 rf 131,
 rf 132,
 rf 133,
 rf 134,
 rf 135,
 rf 136,
 rr 137 qy13 1 bF [] bT 28 24 [.slice none 0 0] bF bF 0 bF,
 rf 138,
 rf 139,
 rf 140,
 rf 141,
 rf 142,
 {rr 143 qy21 1 bF [] bF 0 8 [.pointer none] bF bF 0 bF with pt:=true},
 rf 145,
 rr 146 (.uint .u64) 1 bF [] bF 0 8 [.int .u64 0] bF bF 0 bF,
 rf 147,
 rr 148 qy15 1 bF [] bF 54 8 [.map none] bF bT 150 bF,
 rr 149 qy1 2 bT [(0,3),(1,3)] bF 0 16 [vO,vO] bT bF 0 bT,
 rr 150 qy1 2 bT [(0,3),(1,3)] bF 0 16 [vO,vO] bT bF 0 bT,
 rf 151,
 rf 152,
 rf 153,
 rf 154,
 rf 155,
 rf 156,
 rf 157,
 rf 158,
 rf 159,
 rf 160,
 rf 161,
 rf 162,
 rf 163,
 rf 164,
 rf 165,
 rf 166,
 rr 167 qy20 12 bT [(0,25),(3,60),(9,104)] bF 0 128 [vO,.slice none 0 0,.slice none 0 0,vO,vO,vO,vO,vO,vO,vO,vO,.bool false] bF bF 0 bF,
 rr 168 qy20 12 bT [(0,25),(3,60),(9,104)] bF 0 128 [vO,.slice none 0 0,.slice none 0 0,vO,vO,vO,vO,vO,vO,vO,vO,.bool false] bF bF 0 bF,
 rf 169,
 rf 170,
 rf 171,
 rf 172,
 rf 173,
 rf 174,
 rf 175,
 rf 176,
 rf 177,
 rf 178,
 rf 179,
 rr 180 .int 1 bF [] bF 0 8 [vO] bF bF 0 bT,
 rf 182,
 rf 183,
 rf 184,
 rf 186,
 rf 187,
 rr 188 (.uint .u32) 1 bF [] bF 0 4 [.int .u32 0] bF bF 0 bF,
 rf 189,
 rr 190 (.uint .u64) 1 bF [] bF 0 8 [.int .u64 0] bF bF 0 bF,
 rf 191,
 rf 192,
 rf 193,
 rf 194,
 rf 195,
 rf 196,
 rf 197,
 rf 198,
 rf 199,
 rf 200,
 rf 201,
 rf 202,
 rr 203 (.uint .u64) 1 bF [] bF 0 8 [.int .u64 0] bF bF 0 bF,
 rf 204,
 rf 205,
 rf 206,
 {rr 207 (.ptr .int) 1 bF [] bF 0 8 [.pointer none] bF bF 0 bF with pt:=true},
 rf 208,
 rf 209,
 rf 210,
 rf 211,
 rf 212,
 rf 213,
 rf 214,
 rf 215,
 rf 217,
 {rr 218 qy2 1 bF [] bF 0 8 [.pointer none] bF bF 0 bF with pt:=true},
 rf 220,
 rf 221,
 rf 222,
 rf 223,
 rf 225,
 rf 227,
 rf 228,
 rf 229,
 rr 233 .unit 0 bT [(0,232)] bF 0 0 [] bF bF 0 bF,
 rr 234 .unit 0 bT [(0,232)] bF 0 0 [] bF bF 0 bF,
 rr 235 (.uint .u8) 1 bF [] bF 0 1 [.int .u8 0] bF bF 0 bF,
 rr 236 (.uint .u8) 1 bF [] bF 0 1 [.int .u8 0] bF bF 0 bF,
 rf 237,
 {rr 238 qy0 1 bF [] bF 0 8 [.pointer none] bF bF 0 bF with pt:=true},
 rr 239 (.uint .i32) 1 bF [] bF 0 4 [.int .i32 0] bF bF 0 bF,
 rr 240 (.uint .i32) 1 bF [] bF 0 4 [.int .i32 0] bF bF 0 bF,
 rr 241 .unit 11 bT [(0,12),(1,12),(2,188),(3,235),(4,5),(5,5),(6,236),(7,237),(8,238),(9,239),(10,240)] bF 0 48 [.int .u64 0,.int .u64 0,.int .u32 0,.int .u8 0,.int .u8 0,.int .u8 0,.int .u8 0,.nilFunc,.pointer none,.int .i32 0,.int .i32 0] bF bF 0 bF,
 rr 242 .unit 11 bT [(0,12),(1,12),(2,188),(3,235),(4,5),(5,5),(6,236),(7,237),(8,238),(9,239),(10,240)] bF 0 48 [.int .u64 0,.int .u64 0,.int .u32 0,.int .u8 0,.int .u8 0,.int .u8 0,.int .u8 0,.nilFunc,.pointer none,.int .i32 0,.int .i32 0] bF bF 0 bF,
 rf 243,
 rf 245]
def strs:List Nat:=[9,10,11]
noncomputable abbrev PR:Program:=Tryz.prog
theorem jEk:ti.all (jGP PR)=true:=by kernel_rfl
def jEZ (P:Program) (k:Nat):Bool:=match P.underlying k with|some .string=>true|_=>false
theorem jAp {P:Program} {l:List Nat} (a:l.all (jEZ P)=true) (T:Nat) (h:yw l T=true):P.underlying T=some .string:=by
 have:=jIl.1 a T ((kC _ _).1 h);unfold jEZ at this
 split at this
 .assumption
 .cases this
theorem jEn:strs.all (jEZ PR)=true:=by kernel_rfl
theorem jyK:∀T,yw strs T=true->PR.underlying T=some .string:=jAp jEn
theorem mixed:PR.follows .mixedOrders=true:=by kernel_rfl
def jHd (n:Nat) (fs:List (Nat×j9)):Ctx:=⟨n,ti,fs,fun _ _ _ _=>none,strs,false⟩
def ctx (n:Nat) (fs:List (Nat×j9)) (os:List (Nat×zQ)):Ctx:=⟨n,ti,fs,jG7 (jHd n fs) os,strs,false⟩
def jfh:List (Nat×j9)->Prop
 |[]=>True
 |p::r=>(p.2.own=false->zm PR p.1 p.2)/\jfh r
def ga:List (Nat×zQ)->Prop
 |[]=>True
 |p::r=>qb PR p.1 p.2/\ga r
theorem jdh:∀{l:List (Nat×j9)},jfh l->∀f s,jJ l f=some s->s.own=false->zm PR f s
 |[],_,f,s,h,_=>by simp[jJ] at h
 | (j,x)::r,hk,f,s,h,ho=>by
  simp only[jJ] at h
  cases a:Nat.beq j f with
  |true=>rw[a] at h;simp at h;subst h;have:=jHH a;subst this;exact hk.1 ho
  |false=>rw[a] at h;exact jdh hk.2 f s h ho
theorem jeM:∀{l:List (Nat×zQ)},ga l->∀f s,jJ l f=some s->qb PR f s
 |[],_,f,s,h=>by simp[jJ] at h
 | (j,x)::r,hk,f,s,h=>by
  simp only[jJ] at h
  cases a:Nat.beq j f with
  |true=>rw[a] at h;simp at h;subst h;have:=jHH a;subst this;exact hk.1
  |false=>rw[a] at h;exact jeM hk.2 f s h
theorem jBl {n:Nat} {fs:List (Nat×j9)} (h:jfh fs):(jHd n fs).ok PR:=
 ⟨jyE jEk,jdh h,jyK,rfl,fun _ _ _ _ _ a=>by cases a⟩
theorem jle {n:Nat} {fs:List (Nat×j9)} {os:List (Nat×zQ)} (h:jfh fs) (b:ga os):(ctx n fs os).ok PR:=
 ⟨jyE jEk,jdh h,jyK,rfl,fun f dst σ svs out a=>jw6 (jBl h) (jeM b) a⟩
def gd (t:Ty) (σ:St) (s:Nat):t.Data:=match σ.get s with
 | .dat a d=>(match zA a t d with|some x=>x|none=>t.dflt)
 |_=>t.dflt
def gr (t:Ty) (σ:St) (o:Nat):List t.Data:=match σ.obj o with
 |some (.row _ a _ _ l)=>(match zA (.slice a) (.slice t) l with|some l'=>l'|none=>[])
 |_=>[]
def gfn (ps rs:List Ty) (σ:St) (s:Nat):(Ty.st ps).Data->(Ty.st rs).Data:=match σ.get s with
 | .fn a b _ F=>if h:a=ps/\b=rs then h.1▸h.2▸F else fun _=>(Ty.st rs).dflt
 |_=>fun _=>(Ty.st rs).dflt
def z8 (fn:Func):Code:=match fn.body with|some c=>c|none=> .skip
theorem jHu {f:Nat} {fn:Func} {n:Nat} {fs:List (Nat×j9)} {os:List (Nat×zQ)} {s:j9} {A:Ann} (h:jGs (ctx n fs os) A fn (z8 fn) s) (d:PR.funcs[f]? =some fn) (c:fn.body=some (z8 fn)) (a:(fn.name== "runtime.NumGoroutine")=false)
 (e:fn.ntmps=n) (b:Nat.ble s.ps.length n=true) (hk:jfh fs) (g:ga os):zm PR f s:=
 jHb (jle hk g) mixed d c a e (jHY b) A h
theorem jES {f:Nat} {fn:Func} {n:Nat} {fs:List (Nat×j9)} {os:List (Nat×zQ)} {s:zQ} {A:Ann} (h:jw5 (ctx n fs os) A fn (z8 fn) s) (e:PR.funcs[f]? =some fn) (d:fn.body=some (z8 fn)) (a:(fn.name== "runtime.NumGoroutine")=false)
 (g:fn.ntmps=n) (c:Nat.ble s.ps.length n=true) (b:qk (jtv s.ps 0)=true) (hk:jfh fs) (i:ga os):qb PR f s:=
 jGb (jle hk i) mixed e d a g (jHY c) b A h
theorem kcC {f:Nat} {s:j9} {fs:List (Nat×j9)} (h:zm PR f s) (hk:jfh fs):jfh ((f,s)::fs):=⟨fun _=>h,hk⟩
theorem kcN:jfh []:=trivial
theorem koC {f:Nat} {s:zQ} {fs:List (Nat×zQ)} (h:qb PR f s) (hk:ga fs):ga ((f,s)::fs):=⟨h,hk⟩
theorem koN:ga []:=trivial
theorem kH (A:Ann) {f:Nat} {fn:Func} {fs:List (Nat×j9)} {os:List (Nat×zQ)} {s:j9} {P:Prop} (h:P) (e:PR.funcs[f]? =some fn) (hk:jfh fs) (g:ga os) (d:jGs (ctx fn.ntmps fs os) A fn (z8 fn) s=P:=by kernel_rfl) (c:fn.body=some (z8 fn):=by kernel_rfl) (a:(fn.name== "runtime.NumGoroutine")=false:=by kernel_rfl) (b:Nat.ble s.ps.length fn.ntmps=true:=by kernel_rfl):zm PR f s:=jHu (d.mpr h) e c a rfl b hk g
theorem j8 {f:Nat} {fn:Func} {fs:List (Nat×j9)} {os:List (Nat×zQ)} {s:j9} {P:Prop} (h:P) (e:PR.funcs[f]? =some fn) (hk:jfh fs) (g:ga os) (d:jGs (ctx fn.ntmps fs os) (fun _=>none) fn (z8 fn) s=P:=by kernel_rfl) (c:fn.body=some (z8 fn):=by kernel_rfl) (a:(fn.name== "runtime.NumGoroutine")=false:=by kernel_rfl) (b:Nat.ble s.ps.length fn.ntmps=true:=by kernel_rfl):zm PR f s:=jHu (d.mpr h) e c a rfl b hk g
theorem jdY (A:Ann) {f:Nat} {fn:Func} {fs:List (Nat×j9)} {os:List (Nat×zQ)} {s:zQ} {P:Prop} (h:P) (g:PR.funcs[f]? =some fn) (hk:jfh fs) (i:ga os) (e:jw5 (ctx fn.ntmps fs os) A fn (z8 fn) s=P:=by kernel_rfl) (d:fn.body=some (z8 fn):=by kernel_rfl) (a:(fn.name== "runtime.NumGoroutine")=false:=by kernel_rfl) (c:Nat.ble s.ps.length fn.ntmps=true:=by kernel_rfl) (b:qk (jtv s.ps 0)=true:=by kernel_rfl):qb PR f s:=jES (e.mpr h) g d a rfl c b hk i
theorem jkr {f:Nat} {fn:Func} {fs:List (Nat×j9)} {os:List (Nat×zQ)} {s:zQ} {P:Prop} (h:P) (g:PR.funcs[f]? =some fn) (hk:jfh fs) (i:ga os) (e:jw5 (ctx fn.ntmps fs os) (fun _=>none) fn (z8 fn) s=P:=by kernel_rfl) (d:fn.body=some (z8 fn):=by kernel_rfl) (a:(fn.name== "runtime.NumGoroutine")=false:=by kernel_rfl) (c:Nat.ble s.ps.length fn.ntmps=true:=by kernel_rfl) (b:qk (jtv s.ps 0)=true:=by kernel_rfl):qb PR f s:=jES (e.mpr h) g d a rfl c b hk i
def jrS (n:Nat) (fs:List (Nat×j9)) (os:List (Nat×zQ)) (cs:List (Nat×jfi)) (vs:List (Nat×jo3)):Ctx:=⟨n,ti,fs,jG0 (jHd n fs) os cs vs,strs,false⟩
def jBQ:List (Nat×jfi)->Prop
 |[]=>True
 |p::r=>jrK PR p.1 p.2/\jBQ r
def jBP:List (Nat×jo3)->Prop
 |[]=>True
 |p::r=>VOK PR p.1 p.2/\jBP r
theorem jkC:∀{l:List (Nat×jfi)},jBQ l->∀f s,jJ l f=some s->jrK PR f s
 |[],_,f,s,h=>by simp[jJ] at h
 | (j,x)::r,hk,f,s,h=>by
  simp only[jJ] at h
  cases a:Nat.beq j f with
  |true=>rw[a] at h;simp at h;subst h;have:=jHH a;subst this;exact hk.1
  |false=>rw[a] at h;exact jkC hk.2 f s h
theorem jkB:∀{l:List (Nat×jo3)},jBP l->∀f s,jJ l f=some s->VOK PR f s
 |[],_,f,s,h=>by simp[jJ] at h
 | (j,x)::r,hk,f,s,h=>by
  simp only[jJ] at h
  cases a:Nat.beq j f with
  |true=>rw[a] at h;simp at h;subst h;have:=jHH a;subst this;exact hk.1
  |false=>rw[a] at h;exact jkB hk.2 f s h
theorem juk {n:Nat} {fs:List (Nat×j9)} {os:List (Nat×zQ)} {cs:List (Nat×jfi)} {vs:List (Nat×jo3)} (h:jfh fs) (c:ga os) (a:jBQ cs) (d:jBP vs):(jrS n fs os cs vs).ok PR:=
 ⟨jyE jEk,jdh h,jyK,rfl,fun f dst σ svs out b=>jvW (jBl h) (jeM c) (jkC a) (jkB d) b⟩
theorem jGd {f:Nat} {fn:Func} {n:Nat} {fs:List (Nat×j9)} {os:List (Nat×zQ)} {s:jfi} {A:Ann} (h:jBw (ctx n fs os) A fn (z8 fn) s) (d:PR.funcs[f]? =some fn) (c:fn.body=some (z8 fn)) (a:(fn.name== "runtime.NumGoroutine")=false)
 (e:fn.ntmps=n) (b:Nat.ble s.ps.length n=true) (hk:jfh fs) (g:ga os):jrK PR f s:=
 jGE (jle hk g) mixed d c a e (jHY b) A h
end Go.X
namespace Go.X
namespace L
theorem nth_lt {α:Type} [Inhabited α] {l:List α} {i:Nat} (h:i<l.length):nth l i=l[i]:=by
 unfold nth;simp[h]
theorem take_succ {α:Type} [Inhabited α] {l:List α} {i:Nat} (h:i<l.length):l.take (i+1)=l.take i++[nth l i]:=by
 rw[nth_lt h];exact List.take_succ_eq_append_getElem h
theorem mem_nth {α:Type} [Inhabited α] {l:List α} {i:Nat} (h:i<l.length):nth l i∈l:=by
 rw[nth_lt h];exact List.getElem_mem h
theorem mem_iff {α:Type} [Inhabited α] {l:List α} {x:α}:x∈l↔∃i,i<l.length/\nth l i=x:=by
 constructor
 .intro h;obtain⟨i,hi,e⟩:=List.getElem_of_mem h;exact⟨i,hi,by rw[nth_lt hi,e]⟩
 .rintro⟨i,hi,rfl⟩;exact mem_nth hi
theorem all_false {α:Type} [Inhabited α] {l:List α} {i:Nat} {p:α->Bool} (h:i<l.length) (a:p (nth l i)=false):l.all p=false:=by
 rw[jIT];exact⟨nth l i,mem_nth h,by simp[a]⟩
theorem in64 {x:Int} (a: -9223372036854775808<=x) (b:x<=9223372036854775807):jz x:=⟨a,b⟩
end L
end Go.X
namespace Go.X
namespace BT
theorem two_nat (k:Nat):(2:Int)^k=((2^k:Nat):Int):=by simp
theorem div_nat (n k:Nat):(n:Int)/2^k=((n/2^k:Nat):Int):=by simp
theorem pow63 {k:Nat} (h:k<=62):2^k<2^63:=Nat.pow_lt_pow_right (by decide) (by omega)
theorem ofInt_nat {n:Nat} (a:n<2^63):(BitVec.ofInt 64 (n:Int)).toNat=n:=by
 simp only[BitVec.toNat_ofInt];omega
theorem wrap_nat {n:Nat} (h:n<2^63):IntKind.i64.wrap (n:Int)=(n:Int):=by
 unfold IntKind.wrap;simp[IntKind.signed,IntKind.bits];omega
theorem wrapU_nat {n:Nat} (h:n<2^63):IntKind.u64.wrap (n:Int)=(n:Int):=by
 unfold IntKind.wrap;simp[IntKind.signed,IntKind.bits];omega
theorem band_nat {a b:Nat} (c:a<2^63) (d:b<2^63):qL (a:Int) (b:Int)=((a&&&b:Nat):Int):=by
 unfold qL;rw[BitVec.toNat_and,ofInt_nat c,ofInt_nat d];exact wrap_nat (jJe Nat.and_le_left c)
theorem uand_nat {a b:Nat} (c:a<2^63) (d:b<2^63):w4 (a:Int) (b:Int)=((a&&&b:Nat):Int):=by
 unfold w4;rw[BitVec.toNat_and,ofInt_nat c,ofInt_nat d];exact wrapU_nat (jJe Nat.and_le_left c)
theorem bor_nat {a b:Nat} (c:a<2^63) (d:b<2^63):bor (a:Int) (b:Int)=((a|||b:Nat):Int):=by
 unfold bor;rw[BitVec.toNat_or,ofInt_nat c,ofInt_nat d,wrap_nat (Nat.or_lt_two_pow c d)]
def sdiff (a b:Nat):Nat:=a&&&(2^64-(b+1))
theorem sdiff_bit {a b:Nat} (c:a<2^63) (d:b<2^63) (i:Nat):(sdiff a b).testBit i=(a.testBit i&& !b.testBit i):=by
 unfold sdiff;rw[Nat.testBit_and,Nat.testBit_two_pow_sub_succ (by omega)];by_cases hi:i<64
 .rw[decide_eq_true hi,Bool.true_and]
 .have:a.testBit i=false:=Nat.testBit_lt_two_pow (jIJ c (jIZ (by decide) (by omega)));rw[this];simp
theorem bandn_nat {a b:Nat} (c:a<2^63) (d:b<2^63):qp (a:Int) (b:Int)=((sdiff a b:Nat):Int):=by
 unfold qp;rw[BitVec.toNat_and,BitVec.toNat_not,ofInt_nat c,ofInt_nat d];have:2^64-1-b=2^64-(b+1):=(by omega);rw[this];exact wrap_nat (jJe Nat.and_le_left c)
def Set' (s:Int):Prop:=0<=s/\s<2^62
def has (s:Int) (p:Nat):Bool:=s.toNat.testBit p
theorem nat_of {s:Int} (h:Set' s):∃n:Nat,s=(n:Int)/\n<2^62:=⟨s.toNat,by unfold Set' at h;omega,by unfold Set' at h;omega⟩
theorem lt63 {n:Nat} (h:n<2^62):n<2^63:=by omega
theorem has_shr {s:Int} (h:Set' s) (p:Nat):decide (qL (s/2^p) 1=1)=has s p:=by
 obtain⟨n,rfl,b⟩:=nat_of h;unfold has;rw[jHQ,div_nat];have a:n/2^p<2^63:=jJe (Nat.div_le_self _ _) (lt63 b);rw[show(1:Int)=((1:Nat):Int) from rfl,band_nat a (by decide),Nat.and_one_is_mod,Nat.testBit_eq_decide_div_mod_eq];exact decide_eq_decide.2 ⟨fun h=>by omega,fun h=>by omega⟩
theorem has_ushr {s:Int} (h:Set' s) (p:Nat):decide (w4 (s/2^p) 1=1)=has s p:=by
 obtain⟨n,rfl,b⟩:=nat_of h;unfold has;rw[jHQ,div_nat];have a:n/2^p<2^63:=jJe (Nat.div_le_self _ _) (lt63 b);rw[show(1:Int)=((1:Nat):Int) from rfl,uand_nat a (by decide),Nat.and_one_is_mod,Nat.testBit_eq_decide_div_mod_eq];exact decide_eq_decide.2 ⟨fun h=>by omega,fun h=>by omega⟩
theorem bit_num {s:Int} (h:Set' s) (p:Nat):qL (s/2^p) 1=if has s p=true then 1 else 0:=by
 obtain⟨n,rfl,b⟩:=nat_of h;unfold has;rw[jHQ,div_nat];have a:n/2^p<2^63:=jJe (Nat.div_le_self _ _) (lt63 b);rw[show(1:Int)=((1:Nat):Int) from rfl,band_nat a (by decide),Nat.and_one_is_mod,Nat.testBit_eq_decide_div_mod_eq]
 split
 .rename_i h;have:=of_decide_eq_true h;omega
 .rename_i h;have:¬(n/2^p%2=1):=fun e=>h (decide_eq_true e);omega
theorem has_zero (p:Nat):has 0 p=false:=by unfold has;simp
theorem has_two (k p:Nat):has ((2:Int)^k) p=decide (k=p):=by
 unfold has;rw[two_nat,jHQ,Nat.testBit_two_pow]
theorem has_band {a b:Int} (c:Set' a) (d:Set' b) (p:Nat):has (qL a b) p=(has a p&&has b p):=by
 obtain⟨n,rfl,f⟩:=nat_of c;obtain⟨m,rfl,e⟩:=nat_of d;unfold has;rw[band_nat (lt63 f) (lt63 e)];simp only[jHQ,Nat.testBit_and]
theorem has_bor {a b:Int} (c:Set' a) (d:Set' b) (p:Nat):has (bor a b) p=(has a p||has b p):=by
 obtain⟨n,rfl,f⟩:=nat_of c;obtain⟨m,rfl,e⟩:=nat_of d;unfold has;rw[bor_nat (lt63 f) (lt63 e)];simp only[jHQ,Nat.testBit_or]
theorem has_bandn {a b:Int} (e:Set' a) (f:Set' b) (p:Nat):has (qp a b) p=(has a p&& !has b p):=by
 obtain⟨n,rfl,d⟩:=nat_of e;obtain⟨m,rfl,c⟩:=nat_of f;unfold has;rw[bandn_nat (lt63 d) (lt63 c)];simp only[jHQ];exact sdiff_bit (lt63 d) (lt63 c) p
theorem band_set {a b:Int} (c:Set' a) (d:Set' b):Set' (qL a b):=by
 obtain⟨n,rfl,f⟩:=nat_of c;obtain⟨m,rfl,e⟩:=nat_of d;rw[band_nat (lt63 f) (lt63 e)];have:n&&&m<=n:=Nat.and_le_left;unfold Set';omega
theorem bor_set {a b:Int} (e:Set' a) (f:Set' b):Set' (bor a b):=by
 obtain⟨n,rfl,d⟩:=nat_of e;obtain⟨m,rfl,c⟩:=nat_of f;rw[bor_nat (lt63 d) (lt63 c)];have:n|||m<2^62:=Nat.or_lt_two_pow d c;unfold Set';omega
theorem zero_set:Set' 0:=by unfold Set';omega
theorem two_set {k:Nat} (h:k<=61):Set' ((2:Int)^k):=by
 rw[two_nat];have:2^k<2^62:=Nat.pow_lt_pow_right (by decide) (by omega);obtain⟨q,a⟩:∃q,q=2^k:=⟨_,rfl⟩;rw[<-a] at this⊢;unfold Set';omega
theorem ext {a b:Int} (c:Set' a) (d:Set' b) (h:∀p,has a p=has b p):a=b:=by
 obtain⟨n,rfl,f⟩:=nat_of c;obtain⟨m,rfl,e⟩:=nat_of d;have:n=m:=jI8 (fun i=>by have:=h i;unfold has at this;simpa using this);rw[this]
theorem has_lt {s:Int} {k:Nat} (c:0<=s) (h:s<2^k) {p:Nat} (b:has s p=true):p<k:=by
 obtain⟨n,rfl⟩:∃n:Nat,s=(n:Int):=⟨s.toNat,by omega⟩;rw[two_nat] at h;unfold has at b;rw[jHQ] at b;have d:=Nat.ge_two_pow_of_testBit b;rcases Nat.lt_or_ge p k with a|a
 .exact a
 .have:=jIZ (n:=2) (by decide) a;omega
theorem lt_of_has {s:Int} {k:Nat} (a:Set' s) (h:∀p,has s p=true->p<k):s<2^k:=by
 obtain⟨n,rfl,b⟩:=nat_of a;rw[two_nat];have:n<2^k:=Nat.lt_pow_two_of_testBit n (fun i hi=>by
  cases e:n.testBit i with
  |false=>rfl
  |true=>have:=h i (by unfold has;simpa using e);omega)
 omega
theorem or_two {n p:Nat} (h:n.testBit p=false):n+2^p=n|||2^p:=by
 have g:n=2^(p+1)*(n/2^(p+1))+n%2^(p+1):=(Nat.div_add_mod _ _).symm;have c:n%2^(p+1)<2^p:=by
  have b:n%2^(p+1)<2^(p+1):=Nat.mod_lt _ (Nat.pow_pos (by decide));rcases Nat.lt_or_ge (n%2^(p+1)) (2^p) with a|a
  .exact a
  .exfalso;have:(n%2^(p+1)).testBit p=true:=Nat.testBit_of_two_pow_le_and_two_pow_add_one_gt a b;rw[Nat.testBit_mod_two_pow,h] at this;simp at this
 apply jI8;intro i;rw[Nat.testBit_or,Nat.testBit_two_pow];have e:n+2^p=2^(p+1)*(n/2^(p+1))+(2^p+n%2^(p+1)):=(by omega);have j:2^p+n%2^(p+1)<2^(p+1):=jIJ (Nat.add_lt_add_left c _) (by rw[Nat.pow_succ];omega);rw[e,Nat.testBit_two_pow_mul_add _ j]
 conv=>rhs;rw[g,Nat.testBit_two_pow_mul_add _ (Nat.mod_lt _ (Nat.pow_pos (by decide)))]
 have f:2^p+n%2^(p+1)=2^p*1+n%2^(p+1):=(by omega);by_cases hi:i<p+1
 .rw[if_pos hi,if_pos hi,f,Nat.testBit_two_pow_mul_add _ c];by_cases d:i<p
  .rw[if_pos d,decide_eq_false (by omega),Bool.or_false]
  .have:i=p:=(by omega);subst this;rw[if_neg d,Nat.sub_self,decide_eq_true rfl,Bool.or_true];simp
 .rw[if_neg hi,if_neg hi,decide_eq_false (by omega),Bool.or_false]
theorem add_two {s:Int} (b:Set' s) {p:Nat} (c:p<=61) (h:has s p=false):s+2^p=bor s (2^p):=by
 obtain⟨n,rfl,a⟩:=nat_of b;rw[two_nat,bor_nat (lt63 a) (pow63 (by omega))];unfold has at h;rw[jHQ] at h;rw[<-or_two h];omega
def size (s:Int):Int:=(((List.range 62).countP (fun p=>has s p):Nat):Int)
theorem size_zero:size 0=0:=by
 unfold size;have:(List.range 62).countP (fun p=>has 0 p)=0:=jI3.2 (fun p _=>by rw[has_zero];simp);rw[this];rfl
theorem size_le (s:Int):0<=size s/\size s<=62:=by
 have:=List.countP_le_length (l:=List.range 62) (p:=fun p=>has s p);rw[List.length_range] at this;unfold size;omega
theorem has_half {s:Int} (a:Set' s) (p:Nat):has (s/2) p=has s (p+1):=by
 obtain⟨n,rfl,b⟩:=nat_of a;unfold has;have:((n:Int)/2).toNat=n/2:=(by omega);rw[this,jHQ,Nat.testBit_succ]
theorem size_half {s:Int} (d:Set' s):size s=s%2+size (s/2):=by
 obtain⟨n,e,i⟩:=nat_of d;have b:has (s/2) 61=false:=by
  rw[has_half d];subst e;unfold has;rw[jHQ];exact Nat.testBit_lt_two_pow i
 have j:(List.range 62)=0::(List.range 61).map (·+1):=by
  rw[show(62:Nat)=61+1 from rfl,List.range_succ_eq_map]
 have c:(List.range 62)=List.range 61++[61]:=(by rw[show(62:Nat)=61+1 from rfl,jIe]);have f:(has s 0=true)↔s%2=1:=by
  subst e;unfold has;rw[jHQ,Nat.testBit_zero];simp only[decide_eq_true_eq];omega
 have g:(List.range 62).countP (fun p=>has (s/2) p)=(List.range 61).countP (fun p=>has s (p+1)):=by
  rw[c,jJd];simp only[jJb,List.countP_nil,b];simp only[has_half d];simp
 unfold size;rw[g]
 conv=>lhs;rw[j]
 rw[jJb,List.countP_map];have h:((fun p=>has s p)∘fun(x:Nat)=>x+1)=fun p=>has s (p+1):=rfl
 rw[h];by_cases a:has s 0=true
 .rw[if_pos a];have:=f.1 a;omega
 .rw[if_neg a];have:¬s%2=1:=fun e=>a (f.2 e);omega
end BT
end Go.X
namespace Go.X
namespace BT
theorem uor_nat {a b:Nat} (c:a<2^63) (d:b<2^63):uor (a:Int) (b:Int)=((a|||b:Nat):Int):=by
 unfold uor;rw[BitVec.toNat_or,ofInt_nat c,ofInt_nat d,wrapU_nat (Nat.or_lt_two_pow c d)]
theorem has_uor {a b:Int} (c:Set' a) (d:Set' b) (p:Nat):has (uor a b) p=(has a p||has b p):=by
 obtain⟨n,rfl,f⟩:=nat_of c;obtain⟨m,rfl,e⟩:=nat_of d;unfold has;rw[uor_nat (lt63 f) (lt63 e)];simp only[jHQ,Nat.testBit_or]
theorem uor_set {a b:Int} (e:Set' a) (f:Set' b):Set' (uor a b):=by
 obtain⟨n,rfl,d⟩:=nat_of e;obtain⟨m,rfl,c⟩:=nat_of f;rw[uor_nat (lt63 d) (lt63 c)];have:n|||m<2^62:=Nat.or_lt_two_pow d c;unfold Set';omega
theorem pred_odd (k:Nat):(2*k+1)&&&(2*k+1-1)=2*k:=by
 apply jI8;intro i;rw[Nat.testBit_and,Nat.add_sub_cancel];cases i with
 |zero=>simp
 |succ i=>
  rw[Nat.testBit_succ,Nat.testBit_succ];have:(2*k+1)/2=k:=(by omega);have a:(2*k)/2=k:=(by omega);rw[this,a,Bool.and_self]
theorem pred_even (k:Nat) (h:k≠0):(2*k)&&&(2*k-1)=2*(k&&&(k-1)):=by
 apply jI8;intro i;rw[Nat.testBit_and];cases i with
 |zero=>simp
 |succ i=>
  rw[Nat.testBit_succ,Nat.testBit_succ,Nat.testBit_succ];have:(2*k)/2=k:=(by omega);have a:(2*k-1)/2=k-1:=(by omega);have b:(2*(k&&&(k-1)))/2=k&&&(k-1):=(by omega);rw[this,a,b,Nat.testBit_and]
theorem size_dbl {k:Nat} (h:k<2^61):size ((2*k:Nat):Int)=size (k:Int):=by
 rw[size_half (s:=((2*k:Nat):Int)) (by unfold Set';omega)];have a:((2*k:Nat):Int)%2=0:=(by omega);have b:((2*k:Nat):Int)/2=(k:Int):=(by omega);rw[a,b];omega
theorem size_odd {k:Nat} (h:k<2^61):size ((2*k+1:Nat):Int)=1+size (k:Int):=by
 rw[size_half (s:=((2*k+1:Nat):Int)) (by unfold Set';omega)];have a:((2*k+1:Nat):Int)%2=1:=(by omega);have b:((2*k+1:Nat):Int)/2=(k:Int):=(by omega);rw[a,b]
theorem pred_nat:∀(n:Nat),n≠0->n<2^62->(n&&&(n-1))<n/\size ((n&&&(n-1):Nat):Int)+1=size (n:Int)
 |n,b,d=>by
  rcases Nat.mod_two_eq_zero_or_one n with e|e
  .obtain⟨k,rfl⟩:∃k,n=2*k:=⟨n/2,by omega⟩
   have hk:k≠0:=by omega
   obtain⟨c,a⟩:=pred_nat k hk (by omega)
   rw[pred_even k hk]
   exact⟨by omega,by rw[size_dbl (by omega),size_dbl (by omega)];exact a⟩
  .obtain⟨k,rfl⟩:∃k,n=2*k+1:=⟨n/2,by omega⟩
   rw[pred_odd]
   exact⟨by omega,by rw[size_dbl (by omega),size_odd (by omega)];omega⟩
termination_by n=>n
theorem pred {s:Int} (d:Set' s) (h:s≠0):Set' (w4 s (s-1))/\w4 s (s-1)<s/\size (w4 s (s-1))+1=size s:=by
 obtain⟨n,rfl,a⟩:=nat_of d;have b:n≠0:=(by omega);have e:(n:Int)-1=((n-1:Nat):Int):=(by omega);rw[e,uand_nat (lt63 a) (by omega)];obtain⟨f,c⟩:=pred_nat n b a;exact⟨by unfold Set';omega,by omega,c⟩
end BT
end Go.X
namespace Go.X
namespace U
def jaw {α:Type} (eq:α->α->Bool) (p:α):List α->List α
 |[]=>[]
 |y::r=>if eq y p=true then jaw eq y r else y::jaw eq y r
def vM {α:Type} (eq:α->α->Bool):List α->List α
 |[]=>[]
 |x::r=>x::jaw eq x r
def jE0 {α:Type} (eq:α->α->Bool) (l:List α) (i:Nat):Prop:=1<=i/\i<=l.length/\vM eq (l.take i)=l.take i
def jdX {α:Type} (eq:α->α->Bool) (l:List α) (n:Nat):Int:=((vM eq (l.take n)).length:Int)
def jtD {α:Type} (eq:α->α->Bool) (l:List α) (i k:Nat) (r:List α):Prop:=1<=k/\i+k<=l.length/\r.length=l.length/\vM eq (l.take (i+k))=r.take (vM eq (l.take (i+k))).length/\r.drop (i+k-1)=l.drop (i+k-1)/\(vM eq (l.take (i+k))).length<i+k
end U
namespace L
theorem nodup_len {α:Type}:∀(a b:List α),a.Nodup->(∀x∈a,x∈b)->a.length<=b.length
 |[],_,_,_=>by simp
 |x::a,b,hn,h=>by
  obtain⟨e,f,rfl⟩:=List.append_of_mem (h x (by simp))
  rw[jIE] at hn
  have:=nodup_len a (e++f) hn.2 (fun y d=>by
   have:=h y (by simp[d])
   rw[jHT,jHL] at this
   rw[jHT]
   rcases this with c|c|c
   .exact .inl c
   .subst c;exact absurd d hn.1
   .exact .inr c)
  simp at this⊢
  omega
theorem perm_of_nodup {α:Type} [DecidableEq α]:∀{a b:List α},a.Nodup->b.Nodup->(∀n,n∈a↔n∈b)->a.Perm b
 |[],b,_,_,h=>by
  have:b=[]:=by
   cases b with
   |nil=>rfl
   |cons x r=>exact absurd ((h x).2 (by simp)) (by simp)
  rw[this]
 |x::r,b,ha,hb,h=>by
  have i:x∈b:=(h x).1 (by simp);have f:=List.perm_cons_erase i;refine(List.Perm.cons x (perm_of_nodup (jIE.1 ha).2 (hb.erase x) (fun n=> ?_))).trans f.symm;rw[hb.mem_erase_iff];constructor
  .intro c;exact⟨fun e=>by subst e;exact(jIE.1 ha).1 c,(h n).1 (jHS _ c)⟩
  .rintro⟨d,c⟩;rcases jHL.1 ((h n).2 c) with e|g
   .exact absurd e d
   .exact g
theorem nodup_inj {α d:Type} {f:α->d}:∀{l:List α},(l.map f).Nodup->∀{x y:α},x∈l->y∈l->f x=f y->x=y
 |[],_,_,_,h,_,_=>by simp at h
 |a::r,hn,x,y,hx,hy,e=>by
  simp only[jIQ,jIE] at hn
  rcases jHL.1 hx with rfl|c
  .rcases jHL.1 hy with rfl|b
   .rfl
   .exact absurd (jIk.2 ⟨y,b,e.symm⟩) hn.1
  .rcases jHL.1 hy with rfl|b
   .exact absurd (jIk.2 ⟨x,c,e⟩) hn.1
   .exact nodup_inj hn.2 c b e
theorem nth_take {α:Type} [Inhabited α] {l:List α} {i n:Nat} (h:i<n):nth (l.take n) i=nth l i:=by
 unfold nth;rw[jIm,jIm,jH9 h]
theorem nth_drop {α:Type} [Inhabited α] {l r:List α} {a n:Nat} (h:l.drop a=r.drop a) (b:a<=n):nth l n=nth r n:=by
 have e:=congrArg (fun x=>x[n-a]?) h;simp only[jIp] at e;rw[show a+(n-a)=n by omega] at e;unfold nth;rw[jIm,jIm,e]
theorem nth_map {α a:Type} [Inhabited α] [Inhabited a] {f:α->a} {l:List α} {i:Nat} (h:i<l.length):nth (l.map f) i=f (nth l i):=by
 rw[nth_lt (by simpa using h),nth_lt h];simp
theorem nth_set {α:Type} [Inhabited α] {l:List α} {i j:Nat} {x:α} (h:i<l.length):nth (l.set i x) j=if i=j then x else nth l j:=by
 unfold nth;rw[jIm,jIm,List.getElem?_set]
 split
 .rename_i e;subst e;simp[h]
 .rfl
theorem nth_rep {α:Type} [Inhabited α] {n i:Nat} {x:α} (h:i<n):nth (List.replicate n x) i=x:=by
 unfold nth;rw[jIm,List.getElem?_replicate,if_pos h];rfl
theorem ext_nth {α:Type} [Inhabited α] {a b:List α} (h:a.length=b.length) (d:∀i,i<a.length->nth a i=nth b i):a=b:=by
 apply List.ext_getElem h;intro i c e;rw[<-nth_lt c,<-nth_lt e];exact d i c
theorem range_map_nth {α:Type} [Inhabited α] (l:List α):(List.range l.length).map (nth l)=l:=by
 apply ext_nth
 .simp
 .intro i hi;rw[nth_map (by simpa using hi)];congr 1;rw[nth_lt (by simpa using hi)];simp
section
variable {α:Type} [Inhabited α] {eq:α->α->Bool}
theorem compT_snoc (y:α):∀(r:List α) (p:α),U.jaw eq p (r++[y])=U.jaw eq p r++(if eq y (nth (p::r) r.length)=true then[] else[y])
 |[],p=>rfl
 |z::r,p=>by
  have e:nth (p::z::r) (z::r).length=nth (z::r) r.length:=rfl
  rw[e]
  simp only[jIf,U.jaw]
  split
  .exact compT_snoc y r z
  .rw[compT_snoc y r z];rfl
theorem comp_snoc (y:α) {l:List α} (h:l≠[]):U.vM eq (l++[y])=U.vM eq l++(if eq y (nth l (l.length-1))=true then[] else[y]):=by
 cases l with
 |nil=>exact absurd rfl h
 |cons x r=>
  show x::U.jaw eq x (r++[y])=_;rw[compT_snoc];have:(x::r).length-1=r.length:=(by simp);rw[this];rfl
theorem comp_take {l:List α} {n:Nat} (b:1<=n) (a:n<l.length):U.vM eq (l.take (n+1))=U.vM eq (l.take n)++(if eq (nth l n) (nth l (n-1))=true then[] else[nth l n]):=by
 rw[L.take_succ a,comp_snoc]
 .have e:(l.take n).length-1=n-1:=(by rw[jH6];omega);rw[e,nth_take (by omega)]
 .intro e;have:=congrArg List.length e;rw[jH6,jIq] at this;omega
end
theorem comp_short {α:Type} {eq:α->α->Bool} {l:List α} (h:l.length<2):U.vM eq l=l:=by
 match l,h with
 |[],_=>rfl
 |[x],_=>rfl
theorem comp_len {α:Type} {eq:α->α->Bool} (l:List α):(U.vM eq l).length<=l.length:=by
 have:∀(r:List α) (p:α),(U.jaw eq p r).length<=r.length:=by
  intro r
  induction r with
  |nil=>intro p;simp[U.jaw]
  |cons y r a=>
   intro p;unfold U.jaw
   split
   .have:=a y;simp;omega
   .have:=a y;simp;omega
 cases l with
 |nil=>simp[U.vM]
 |cons x r=>have:=this r x;simp[U.vM];omega
theorem inv9_next {α:Type} [Inhabited α] {eq:α->α->Bool} {l r:List α} {i k:Nat} (hi:1<=i) (h:U.jtD eq l i k r) (g:i+k<l.length):
 (eq (nth r (i+k)) (nth r (i+k-1))=false->U.jdX eq l (i+(k+1))=U.jdX eq l (i+k)+1/\U.jtD eq l i (k+1) (r.set (U.jdX eq l (i+k)).toNat (nth r (i+k))))/\
 (eq (nth r (i+k)) (nth r (i+k-1))=true->U.jdX eq l (i+(k+1))=U.jdX eq l (i+k)/\U.jtD eq l i (k+1) r):=by
 obtain⟨t,u,j,d,e,q⟩:=h;have o:nth r (i+k)=nth l (i+k):=nth_drop e (by omega);have p:nth r (i+k-1)=nth l (i+k-1):=nth_drop e (by omega);have a:=comp_take (eq:=eq) (l:=l) (n:=i+k) (by omega) g;rw[show i+k+1=i+(k+1) by omega] at a;have m:r.drop (i+k)=l.drop (i+k):=by
  have:=congrArg (List.drop 1) e;rw[List.drop_drop,List.drop_drop,show i+k-1+1=i+k by omega] at this;exact this
 rw[o,p];obtain⟨c,b⟩:∃c,c=U.vM eq (l.take (i+k)):=⟨_,rfl⟩;rw[<-b] at a d q;have s:(U.jdX eq l (i+k))=(c.length:Int):=(by unfold U.jdX;rw[<-b]);rw[s];refine⟨fun f=> ?_,fun f=> ?_⟩
 .rw[if_neg (by rw[f];simp)] at a;refine⟨by unfold U.jdX;rw[a];simp,by omega,by omega,by simpa using j,?_,?_,?_⟩
  .rw[a];simp only[jHQ,jH2,jIi,jIq];rw[List.take_add_one,List.getElem?_set_self (by omega)];rw[List.take_set_of_le (by omega),<-d];rfl
  .rw[show i+(k+1)-1=i+k by omega];simp only[jHQ];rw[List.drop_set_of_lt (by omega)];exact m
  .rw[a];simp;omega
 .rw[if_pos f,jIc] at a;refine⟨by unfold U.jdX;rw[a],by omega,by omega,j,?_,?_,?_⟩
  .rw[a];exact d
  .rw[show i+(k+1)-1=i+k by omega];exact m
  .rw[a];omega
theorem compT_sub {α:Type} {eq:α->α->Bool}:∀(r:List α) (p x:α),x∈U.jaw eq p r->x∈r
 |[],_,_,h=>by simp[U.jaw] at h
 |y::r,p,x,h=>by
  unfold U.jaw at h
  split at h
  .exact jHS _ (compT_sub r y x h)
  .rcases jHL.1 h with rfl|h
   .simp
   .exact jHS _ (compT_sub r y x h)
theorem comp_sub {α:Type} {eq:α->α->Bool} {l:List α} {x:α} (h:x∈U.vM eq l):x∈l:=by
 cases l with
 |nil=>simp[U.vM] at h
 |cons y r=>
  unfold U.vM at h;rcases jHL.1 h with rfl|h
  .simp
  .exact jHS _ (compT_sub r y x h)
theorem compT_mem {α:Type} [DecidableEq α]:∀(r:List α) (p x:α),x∈r->x=p\/x∈U.jaw (fun a b=>decide (a=b)) p r
 |y::r,p,x,h=>by
  unfold U.jaw
  rcases jHL.1 h with rfl|h
  .by_cases e:x=p
   .exact .inl e
   .rw[if_neg (by simpa using e)];right;simp
  .rcases compT_mem r y x h with rfl|c
   .by_cases e:x=p
    .exact .inl e
    .rw[if_neg (by simpa using e)];right;simp
   .right
    split
    .exact c
    .exact jHS _ c
theorem comp_mem {α:Type} [DecidableEq α] {l:List α} {x:α}:x∈U.vM (fun a b=>decide (a=b)) l↔x∈l:=by
 refine⟨comp_sub,fun h=> ?_⟩;cases l with
 |nil=>simp at h
 |cons y r=>
  unfold U.vM;rcases jHL.1 h with rfl|h
  .simp
  .rcases compT_mem r y x h with rfl|c
   .simp
   .exact jHS _ c
theorem comp_asc {α:Type} [DecidableEq α] {lt:α->α->Bool}:∀{l:List α},wc lt l->jyi lt l->(U.vM (fun a b=>decide (a=b)) l).Pairwise (fun a b=>lt a b=true):=by
 have i:∀(r:List α) (p:α),wc lt (p::r)->jyi lt (p::r)->(p::U.jaw (fun a b=>decide (a=b)) p r).Pairwise (fun a b=>lt a b=true):=by
  intro r
  induction r with
  |nil=>intro p _ _;exact List.pairwise_singleton _ _
  |cons y r n=>
   intro p f j;have d:=jIB.1 j;have k:wc lt (y::r):=f.sub (fun z c=>jHS _ c);have hi:=n y k d.2;unfold U.jaw;by_cases e:y=p
   .rw[if_pos (by simpa using e)];subst e;exact hi
   .rw[if_neg (by simpa using e)];refine jIB.2 ⟨fun z c=> ?_,hi⟩;have g:lt p y=true:=by
     cases h:lt p y with
     |true=>rfl
     |false=>exact absurd (f.total p y (by simp) (by simp) h (d.1 y (by simp))).symm e
    rcases jHL.1 c with rfl|c
    .exact g
    .have m:=compT_sub r y z c;exact f.trans p y z (by simp) (by simp) (by simp[m]) g ((jIB.1 hi).1 z c)
 intro l f j;cases l with
 |nil=>exact List.Pairwise.nil
 |cons p r=>exact i r p f j
theorem asc_nodup {α:Type} {lt:α->α->Bool} {l:List α} (hi:∀x,lt x x=false) (h:l.Pairwise (fun a b=>lt a b=true)):l.Nodup:=
 h.imp (fun{a b} h e=>by subst e;rw[hi] at h;cases h)
theorem filter_take {α:Type} [Inhabited α] {p:α->Bool} {l:List α} {i:Nat} (h:i<l.length):(l.take (i+1)).filter p=(l.take i).filter p++(if p (nth l i)=true then[nth l i] else[]):=by
 rw[take_succ h,List.filter_append];congr 1;by_cases e:p (nth l i)=true<;>simp[e]
theorem range_filter_succ {p:Nat->Bool} {n:Nat}:(List.range (n+1)).filter p=(List.range n).filter p++(if p n=true then[n] else[]):=by
 rw[jIe,List.filter_append];congr 1;by_cases e:p n=true<;>simp[e]
end L
end Go.X
namespace Go.X
abbrev tSp:Ty:= .st [.int,.int]
abbrev tPe:Ty:= .st [.slice .int,.int,.int,.slice .int,.bool,.int]
abbrev tLw:Ty:= .st [.int,.int,.bool]
abbrev tCr:Ty:= .st [.int,.slice tPe,.slice tLw]
abbrev tJb:Ty:= .st [.int,.int,.int,.int,.int,.int]
abbrev tBk:Ty:= .st [tJb,.int,.int,.int]
abbrev tSh:Ty:= .st [.int,.int,.int,.int,.int]
abbrev tDy:Ty:= .st [tCr,.slice (.slice tSp),.slice tBk,.int,.int,.slice tSh]
abbrev SpD:Type:=Int×Int×Unit
abbrev PeD:Type:=List Int×Int×Int×List Int×Bool×Int×Unit
abbrev LwD:Type:=Int×Int×Bool×Unit
abbrev CrD:Type:=Int×List PeD×List LwD×Unit
abbrev JbD:Type:=Int×Int×Int×Int×Int×Int×Unit
abbrev BkD:Type:=JbD×Int×Int×Int×Unit
abbrev ShD:Type:=Int×Int×Int×Int×Int×Unit
abbrev DyD:Type:=CrD×List (List SpD)×List BkD×Int×Int×List ShD×Unit
namespace U
def lo (s:SpD):Int:=s.1
def hi (s:SpD):Int:=s.2.1
def ja (n a b:Int):Bool:=decide (a<=n)&&decide (n<=b)
def lv (p:PeD):List Int:=p.1
def fd (p:PeD):Int:=p.2.1
def cl (p:PeD):Int:=p.2.2.1
def zS (p:PeD):List Int:=p.2.2.2.1
def jFi (p:PeD):Bool:=p.2.2.2.2.1
def fe (p:PeD):Int:=p.2.2.2.2.2.1
def jyk (l:LwD):Int:=l.1
def jEV (l:LwD):Int:=l.2.1
def jGU (l:LwD):Bool:=l.2.2.1
def la (c:CrD):Int:=c.1
def jh (c:CrD):List PeD:=c.2.1
def wu (c:CrD):List LwD:=c.2.2.1
def jrR (j:JbD):Int:=j.1
def jmW (j:JbD):Int:=j.2.1
def jBT (j:JbD):Int:=j.2.2.1
def jtB (j:JbD):Int:=j.2.2.2.1
def jrQ (j:JbD):Int:=j.2.2.2.2.1
def jCE (j:JbD):Int:=j.2.2.2.2.2.1
def yG (b:BkD):JbD:=b.1
def jrT (b:BkD):Int:=b.2.1
def ve (b:BkD):Int:=b.2.2.1
def jnm (b:BkD):Int:=b.2.2.2.1
def wI (s:ShD):Int:=s.1
def jly (s:ShD):Int:=s.2.1
def jy6 (s:ShD):Int:=s.2.2.1
def jbU (s:ShD):Int:=s.2.2.2.1
def qo (s:ShD):Int:=s.2.2.2.2.1
def jc (d:DyD):CrD:=d.1
def jZ (d:DyD):List (List SpD):=d.2.1
def ju (d:DyD):List BkD:=d.2.2.1
def jcj (d:DyD):Int:=d.2.2.2.1
def jCB (d:DyD):Int:=d.2.2.2.2.1
def zc (d:DyD):List ShD:=d.2.2.2.2.2.1
def gw (L:Int) (p:PeD):Bool:=decide (((lv p).length:Int)=L/\0<=fd p/\fd p<=255/\0<=cl p/\cl p<=255/\(zS p).length<=10/\0<=fe p/\fe p<=1000)&&((lv p).all (fun n=>ja n 0 5)&&(zS p).all (fun n=>ja n 0 99))
def jaf (l:LwD):Bool:=ja (jyk l) 1 5&&ja (jEV l) 1 8
def js (c:CrD):Bool:=decide (2<=la c/\la c<=5/\(jh c).length<=8/\(wu c).length=4)&&((jh c).all (gw (la c))&&(wu c).all jaf)
def za (c:CrD) (j:JbD):Bool:=decide (0<=jrR j/\jrR j<=la c-1/\0<=jmW j/\jmW j<=la c-1/\jrR j≠jmW j/\0<=jBT j/\jBT j<=99/\0<=jtB j/\jtB j<=7/\0<=jrQ j/\jrQ j<=3/\1<=jCE j/\jCE j<=8)
def kl (c:CrD) (j:JbD):Int:=if js c=false then 30 else if za c j=false then 31 else 0
def jf6 (s:SpD):Bool:=decide (0<=lo s/\lo s<=hi s/\hi s<=300)
def yu (n:Nat) (r:List SpD):Bool:=decide (r.length=n)&&r.all jf6
def jdN (n:Nat) (b:BkD):Bool:=decide (0<=jrT b/\jrT b<=(n:Int)-1/\0<=ve b/\ve b<jnm b/\jnm b<=1440)
def jcv (nb a:Nat) (s:ShD):Bool:=decide (0<=wI s/\wI s<=99/\0<=jly s/\jly s<=9999/\1<=jy6 s/\jy6 s<=2/\0<=jbU s/\jbU s<=(nb:Int)-1/\0<=qo s/\qo s<=(a:Int)-1)
def zK (d:DyD):Bool:=decide ((ju d).length<=4/\1<=(jZ d).length/\(jZ d).length<=5/\0<=jcj d/\jcj d<=300/\0<=jCB d/\jCB d<=1440/\(zc d).length<=30)&&
 ((jZ d).all (yu (jZ d).length)&&((ju d).all (jdN (jZ d).length)&&(zc d).all (jcv (ju d).length (jh (jc d)).length)))
def jlh (a b:ShD):Bool:=decide (wI a=wI b)&& !decide (a=b)
def jjd (l:List ShD) (i:Nat):Bool:=(l.take i).any (jlh (nth l i))
def qy (l:List ShD) (n:Nat):Bool:=(List.range n).any (jjd l)
def vU (l:List ShD):Bool:=qy l l.length
def jxe (d:DyD):Bool:=(ju d).all (fun b=>za (jc d) (yG b))
def wt (d:DyD):Int:=if js (jc d)=false then 30 else if jxe d=false then 31 else if zK d=false then 50 else if vU (zc d)=true then 51 else 0
def jcR (l:List ShD) (i:Nat):Bool:= !((l.take i).any (fun x=>decide (x=nth l i)))
def yF (l:List ShD) (n m:Nat):List ShD:=((List.range n).filter (fun i=>decide (wI (nth l i)=(m:Int))&&jcR l i)).map (nth l)
def kB (l:List ShD) (n:Nat):List ShD:=(List.range n).flatMap (yF l l.length)
def jk (l:List ShD):List ShD:=kB l 100
def yf (p:PeD) (a:Int):Bool:=(zS p).any (fun t=>decide (t=a))
def jR (s n:Int):Bool:=decide (qL (s/2^n.toNat) 1=1)
def zy (c:CrD) (j:JbD) (p:Int):Bool:= !(yf (nth (jh c) p.toNat) (jBT j))&&jR (fd (nth (jh c) p.toNat)) (jtB j)&&jR (cl (nth (jh c) p.toNat)) (jrQ j)
def bk (d:DyD) (b:Int):BkD:=nth (ju d) b.toNat
def jrc (d:DyD) (a b:Int):Int:=hi (nth (nth (jZ d) (jrT (bk d a)).toNat) (jrT (bk d b)).toNat)
def wQ (d:DyD) (a b:Int):Bool:=decide (ve (bk d a)<ve (bk d b)\/(ve (bk d a)=ve (bk d b)/\a<b))
def qj (d:DyD) (a b:Int):Int:=ve (bk d b)-jnm (bk d a)-jcj d-jrc d a b
def j0 (d:DyD) (a b:Int):Bool:=if wQ d b a=true then decide (0<=qj d b a) else decide (0<=qj d a b)
def jon (d:DyD) (l:List Int):Int:=(l.map (fun b=>jnm (bk d b)-ve (bk d b))).foldl (·+·) 0
def jDJ (d:DyD) (l:List Int):Bool:=(List.range l.length).all (fun i=>(l.take i).all (fun b=>j0 d (nth l i) b))
def kG (d:DyD) (p:Int) (l:List Int):Bool:=l.all (fun b=>zy (jc d) (yG (bk d b)) p)&&(jDJ d l&&decide (jon d l<=jCB d))
def zP (a b:ShD):Bool:=decide (jly b<jly a\/(jly a=jly b/\wI b<wI a))
def jjb (l:List ShD) (s:ShD):Bool:=decide (jy6 s=1)&& !(l.any (fun t=>decide (jbU t=jbU s)&&decide (qo t=qo s)&&zP t s))
def jFA (a b:ShD):Bool:=zP b a
def vp (t:List Int) (p:Int) (n:Nat):List Int:=((List.range n).filter (fun b=>jR (nth t b) p)).map (fun(b:Nat)=>(b:Int))
def on (t:List Int) (p:Int):List Int:=vp t p t.length
def qW (d:DyD) (x:List Int×List Int) (s:ShD):List Int×List Int:=
 if kG d (qo s) (on x.1 (qo s)++[jbU s])=true then(x.1.set (jbU s).toNat (nth x.1 (jbU s).toNat+2^(qo s).toNat),x.2) else(x.1,x.2++[wI s])
def jbz (c:CrD) (t:Int) (d a b:Int):Bool:=(List.range (jh c).length).any (fun i=>jR t (i:Int)&&decide (d<=nth (lv (nth (jh c) i)) a.toNat)&&decide (d<=nth (lv (nth (jh c) i)) b.toNat))
def yM (c:CrD) (j:JbD):LwD:=nth (wu c) (jrQ j).toNat
end U
end Go.X
namespace Go.X
inductive Rch (J:Nat->Nat->Bool) (n s:Nat):Nat->Prop where
 |base:Rch J n s s
 |step {a b:Nat}:Rch J n s a->b<n->J a b=true->Rch J n s b
theorem Rch.lt {J:Nat->Nat->Bool} {n s t:Nat} (a:s<n) (h:Rch J n s t):t<n:=by
 cases h with
 |base=>exact a
 |step _ h _=>exact h
theorem Rch.trans {J:Nat->Nat->Bool} {n s t u:Nat} (a:Rch J n s t) (b:Rch J n t u):Rch J n s u:=by
 induction b with
 |base=>exact a
 |step _ c d e=>exact .step e c d
theorem Rch.symm {J:Nat->Nat->Bool} {n s t:Nat} (c:∀a b,J a b=J b a) (f:s<n) (h:Rch J n s t):Rch J n t s:=by
 induction h with
 |base=>exact .base
 |step d i e g=>
  rename_i a b;have:Rch J n b a:= .step .base (d.lt f) (by rw[c];exact e);exact this.trans g
theorem Rch.closed {J:Nat->Nat->Bool} {n s t:Nat} {S:Nat->Prop} (i:s<n) (c:S s) (f:∀a b,a<n->S a->b<n->J a b=true->S b) (h:Rch J n s t):S t:=by
 induction h with
 |base=>exact c
 |step d e g j=>exact f _ _ (d.lt i) j e g
namespace U
def jdo (J:Nat->Nat->Bool) (r a:Nat) (out:List Int) (b:Nat):List Int:=if nth out a=(r:Int)/\nth out b<0/\J a b=true then out.set b ((r:Int)+1) else out
def wa (J:Nat->Nat->Bool) (r a:Nat) (out:List Int) (k:Nat):List Int:=(List.range k).foldl (jdo J r a) out
def kJ (J:Nat->Nat->Bool) (n r:Nat) (out:List Int) (k:Nat):List Int:=(List.range k).foldl (fun o a=>wa J r a o n) out
def wF (n s:Nat):List Int:=(List.replicate n (-1:Int)).set s 0
def zz (J:Nat->Nat->Bool) (n s k:Nat):List Int:=(List.range k).foldl (fun o r=>kJ J n r o n) (wF n s)
def jgD (J:Nat->Nat->Bool) (q:Nat) (x:List Int×List Int) (b:Nat):List Int×List Int:=if nth x.1 b<0/\J q b=true then(x.1.set b (nth x.1 q+1),x.2++[(b:Int)]) else x
def jgE (J:Nat->Nat->Bool) (q:Nat) (x:List Int×List Int) (k:Nat):List Int×List Int:=(List.range k).foldl (jgD J q) x
def qC (J:Nat->Nat->Bool) (n:Nat) (x:List Int×List Int):List Int×List Int:=match x.2 with
 |[]=>x
 |q::_=>((jgE J q.toNat x n).1,(jgE J q.toNat x n).2.drop 1)
def qR (J:Nat->Nat->Bool) (n s:Nat):Nat->List Int×List Int
 |0=>(wF n s,[(s:Int)])
 |k+1=>qC J n (qR J n s k)
def jGJ (J:Nat->Nat->Bool) (n s:Nat):List Int:=(qR J n s (n+1)).1
end U
theorem jeX (n s:Nat):(U.wF n s).length=n:=by unfold U.wF;simp
theorem jk6 {n s x:Nat} (a:s<n) (b:x<n):nth (U.wF n s) x=if s=x then 0 else-1:=by
 unfold U.wF;rw[L.nth_set (by simpa using a),L.nth_rep b]
structure jyn (J:Nat->Nat->Bool) (n s r a b:Nat) (out:List Int):Prop where
 len:out.length=n
 val:∀x,x<n->nth out x= -1\/(0<=nth out x/\nth out x<=(r:Int)+1)
 top:(a=0/\b=0)->∀x,x<n->nth out x<=(r:Int)
 zero:0<=nth out s
 rch:∀x,x<n->0<=nth out x->Rch J n s x
 lev:∀x,x<n->0<nth out x->∃y,y<n/\nth out y=nth out x-1
 cls:∀x y,x<n->y<n->0<=nth out x->(nth out x<(r:Int)\/(nth out x=(r:Int)/\(x<a\/(x=a/\y<b))))->J x y=true->0<=nth out y
theorem jA3 {J:Nat->Nat->Bool} {n s r a b:Nat} {out:List Int} (B:s<n) (t:a<n) (u:b<n) (h:jyn J n s r a b out):jyn J n s r a (b+1) (U.jdo J r a out b):=by
 unfold U.jdo
 split
 .rename_i q;obtain⟨c1,c2,v⟩:=q;have p:b<out.length:=(by rw[h.len];exact u);have c:∀j,nth (out.set b ((r:Int)+1)) j=if b=j then(r:Int)+1 else nth out j:=fun j=>L.nth_set p
  have o:b≠a:=fun e=>by subst e;omega
  refine⟨by simpa using h.len,fun x g=> ?_,fun e=>by omega,?_,fun x g f=> ?_,fun x g f=> ?_,fun x y g k f d l=> ?_⟩
  .rw[c];split
   .right;omega
   .exact h.val x g
  .rw[c];split
   .omega
   .exact h.zero
  .rw[c] at f
   split at f
   .rename_i e;subst e;exact .step (h.rch a t (by omega)) u v
   .exact h.rch x g f
  .rw[c] at f⊢
   split at f
   .rename_i e;subst e;rw[if_pos rfl];exact⟨a,t,by rw[c,if_neg o];omega⟩
   .rename_i e;rw[if_neg e];obtain⟨y,k,w⟩:=h.lev x g f;refine⟨y,k,?_⟩;rw[c,if_neg (fun e=>by subst e;omega)];exact w
  .rw[c] at f d⊢
   split
   .omega
   .rename_i A
    split at f
    .rename_i e;rw[if_pos e] at d;omega
    .rename_i e;rw[if_neg e] at d;refine h.cls x y g k f ?_ l;rcases d with d|⟨d,i|⟨i,z⟩⟩
     .exact .inl d
     .exact .inr ⟨d,.inl i⟩
     .exact .inr ⟨d,.inr ⟨i,by omega⟩⟩
 .rename_i q;refine⟨h.len,h.val,fun e=>by omega,h.zero,h.rch,h.lev,fun x y g k f d l=> ?_⟩;rcases d with d|⟨d,i|⟨i,z⟩⟩
  .exact h.cls x y g k f (.inl d) l
  .exact h.cls x y g k f (.inr ⟨d,.inl i⟩) l
  .by_cases e:y=b
   .subst e;subst i;rcases Int.lt_or_le (nth out y) 0 with m|m
    .exact absurd ⟨d,m,l⟩ q
    .exact m
   .exact h.cls x y g k f (.inr ⟨d,.inr ⟨i,by omega⟩⟩) l
theorem jDT {J:Nat->Nat->Bool} {n s r a:Nat} {out:List Int} (c:s<n) (b:a<n) (h:jyn J n s r a 0 out):∀k,k<=n->jyn J n s r a k (U.wa J r a out k)
 |0,_=>h
 |k+1,hk=>by
  have:=jA3 c b (show k<n by omega) (jDT c b h k (by omega))
  unfold U.wa at this⊢
  rw[jIe,jH8];exact this
theorem jFc {J:Nat->Nat->Bool} {n s r a:Nat} {out:List Int} (k:0<n) (h:jyn J n s r a n out):jyn J n s r (a+1) 0 out:=by
 refine⟨h.len,h.val,fun e=>by omega,h.zero,h.rch,h.lev,fun x y i c d b g=>h.cls x y i c d ?_ g⟩;rcases b with b|⟨b,f|⟨f,j⟩⟩
 .exact .inl b
 .by_cases e:x=a
  .exact .inr ⟨b,.inr ⟨e,c⟩⟩
  .exact .inr ⟨b,.inl (by omega)⟩
 .omega
theorem jDU {J:Nat->Nat->Bool} {n s r:Nat} {out:List Int} (a:s<n) (h:jyn J n s r 0 0 out):∀k,k<=n->jyn J n s r k 0 (U.kJ J n r out k)
 |0,_=>h
 |k+1,hk=>by
  have:=jFc (by omega) (jDT a (show k<n by omega) (jDU a h k (by omega)) n (jHM _))
  unfold U.kJ at this⊢
  rw[jIe,jH8];exact this
theorem jFb {J:Nat->Nat->Bool} {n s r:Nat} {out:List Int} (h:jyn J n s r n 0 out):jyn J n s (r+1) 0 0 out:=by
 refine⟨h.len,fun x a=> ?_,fun _ x a=> ?_,h.zero,h.rch,h.lev,fun x y a j f b i=>h.cls x y a j f ?_ i⟩
 .rcases h.val x a with e|⟨c,d⟩
  .exact .inl e
  .exact .inr ⟨c,by omega⟩
 .rcases h.val x a with e|⟨c,d⟩<;>omega
 .rcases b with b|⟨b,g|⟨g,k⟩⟩
  .by_cases e:nth out x=(r:Int)
   .exact .inr ⟨e,.inl a⟩
   .exact .inl (by omega)
  .omega
  .omega
theorem jDS {J:Nat->Nat->Bool} {n s:Nat} (c:s<n):∀k,jyn J n s k 0 0 (U.zz J n s k)
 |0=>by
  have hi:∀x,x<n->nth (U.zz J n s 0) x=if s=x then 0 else-1:=fun x a=>jk6 c a
  refine⟨jeX n s,fun x a=> ?_,fun _ x a=> ?_,by rw[hi s c,if_pos rfl];omega,fun x a b=> ?_,fun x a b=> ?_,fun x y a g b f d=> ?_⟩
  .rw[hi x a];split<;>simp
  .rw[hi x a];split<;>simp
  .rw[hi x a] at b
   split at b
   .rename_i e;subst e;exact .base
   .omega
  .rw[hi x a] at b;split at b<;>omega
  .omega
 |k+1=>by
  have:=jFb (jDU c (jDS (J:=J) c k) n (jHM _))
  unfold U.zz at this⊢
  rw[jIe,jH8];exact this
theorem jAj {J:Nat->Nat->Bool} {n s r a b:Nat} {out:List Int} (h:jyn J n s r a b out):∀(k:Nat) x,x<n->nth out x=(k:Int)->∀j,j<=k->∃y,y<n/\nth out y=(j:Int)
 |0,x,c,e,j,f=>⟨x,c,by rw[e];omega⟩
 |k+1,x,c,e,j,f=>by
  by_cases g:j=k+1
  .exact⟨x,c,by rw[e];omega⟩
  .obtain⟨y,i,d⟩:=h.lev x c (by omega)
   exact jAj h k y i (by rw[d];omega) j (by omega)
theorem jGw {J:Nat->Nat->Bool} {n s x:Nat} (o:s<n) (u:x<n):nth (U.zz J n s n) x<0↔¬Rch J n s x:=by
 have h:=jDS (J:=J) o n;have i:∀y,y<n->nth (U.zz J n s n) y<(n:Int):=by
  intro y p;have c:=h.top ⟨rfl,rfl⟩ y p;rcases Int.lt_or_le (nth (U.zz J n s n) y) (n:Int) with l|l
  .exact l
  .exfalso;have e:nth (U.zz J n s n) y=(n:Int):=(by omega);have d:=jAj h n y p e;have:=L.nodup_len ((List.range (n+1)).map (fun(j:Nat)=>(j:Int))) (U.zz J n s n) (List.Pairwise.map _ (fun a b f=>by intro A;exact f (by omega)) List.nodup_range) (fun z v=>by
    obtain⟨j,g,rfl⟩:=jIk.1 v;obtain⟨w,t,q⟩:=d j (by have:=jHZ.1 g;omega);rw[<-q];exact L.mem_nth (by rw[h.len];exact t))
   rw[h.len] at this;simp at this;omega
 constructor
 .intro B k;have:=k.closed (S:=fun y=>0<=nth (U.zz J n s n) y) o h.zero (fun a b m c r g=>h.cls a b m r c (.inl (i a m)) g);have this:0<=nth (U.zz J n s n) x:=this;omega
 .intro k;rcases Int.lt_or_le (nth (U.zz J n s n) x) 0 with c|c
  .exact c
  .exact absurd (h.rch x u c) k
def jqF (out:List Int):Nat:=out.countP (fun z=>decide (z<0))
theorem jol:∀{out:List Int} {b:Nat} {v:Int},b<out.length->nth out b<0->0<=v->jqF (out.set b v)+1=jqF out
 |[],b,v,h,_,_=>by simp at h
 |z::r,0,v,_,a,h2=>by
  have a:z<0:=a
  unfold jqF
  rw[List.set_cons_zero,jJb,jJb,if_neg (by simpa using h2),if_pos (by simpa using a)]
 |z::r,b+1,v,h,a,h2=>by
  have:=jol (out:=r) (b:=b) (v:=v) (by simpa using h) a h2
  unfold jqF at this⊢
  rw[List.set_cons_succ,jJb,jJb]
  omega
structure jHo (J:Nat->Nat->Bool) (n s:Nat) (ex:Nat->Nat->Prop) (x:List Int×List Int):Prop where
 len:x.1.length=n
 low:∀y,y<n->-1<=nth x.1 y/\nth x.1 y<=(n:Int)*2
 zero:0<=nth x.1 s
 rch:∀y,y<n->0<=nth x.1 y->Rch J n s y
 que:∀q,q∈x.2->0<=q/\q<(n:Int)/\0<=nth x.1 q.toNat
 cls:∀y z,y<n->z<n->0<=nth x.1 y->(y:Int)∉x.2\/ex y z->J y z=true->0<=nth x.1 z
def jso (n:Nat) (x:List Int×List Int):Prop:=∀y,y<n->nth x.1 y+(jqF x.1:Int)<=(n:Int)-1
theorem jnl (J:Nat->Nat->Bool) (q:Nat) (x:List Int×List Int) (k:Nat):U.jgE J q x (k+1)=U.jgD J q (U.jgE J q x k) k:=by
 unfold U.jgE;rw[jIe,jH8];rfl
structure InI (J:Nat->Nat->Bool) (n s q k:Nat) (x0 x:List Int×List Int):Prop where
 i:jHo J n s (fun y z=>y=q/\z<k) x
 le:jso n x
 mu:jqF x.1+x.2.length=jqF x0.1+x0.2.length
 pre:∃l,x.2=x0.2++l
 keep:∀y,y<n->0<=nth x0.1 y->nth x.1 y=nth x0.1 y
theorem jE1 {J:Nat->Nat->Bool} {n s q k:Nat} {x0 x:List Int×List Int} (M:s<n) (p:q<n) (w:0<=nth x0.1 q) (hk:k<n) (h:InI J n s q k x0 x):InI J n s q (k+1) x0 (U.jgD J q x k):=by
 have G:nth x.1 q=nth x0.1 q:=h.keep q p w;unfold U.jgD
 split
 .rename_i t;obtain⟨c1,c2⟩:=t;have m:k<x.1.length:=(by rw[h.i.len];exact hk);have b:∀j,nth (x.1.set k (nth x.1 q+1)) j=if k=j then nth x.1 q+1 else nth x.1 j:=fun j=>L.nth_set m
  have E:=jol (v:=nth x.1 q+1) m c1 (by omega);have F:=h.le q p;have u:k≠q:=fun e=>by subst e;omega
  obtain⟨l,C⟩:=h.pre;refine⟨⟨by simpa using h.i.len,fun y d=> ?_,?_,fun y d c=> ?_,fun z f=> ?_,fun y z d f c a g=> ?_⟩,fun y d=> ?_,?_,⟨l++[(k:Int)],by simp only[C,jH3]⟩,fun y d c=> ?_⟩
  .simp only;rw[b];split
   .have:=h.i.low q p;omega
   .exact h.i.low y d
  .simp only;rw[b];split
   .omega
   .exact h.i.zero
  .simp only at c⊢;rw[b] at c
   split at c
   .rename_i e;subst e;exact .step (h.i.rch q p (by omega)) hk c2
   .exact h.i.rch y d c
  .simp only at f⊢;rcases jHT.1 f with f|f
   .obtain⟨H,I,K⟩:=h.i.que z f;refine⟨H,I,?_⟩;rw[b];split
    .omega
    .exact K
   .simp at f;subst f;refine⟨by omega,by omega,?_⟩;rw[jHQ,b,if_pos rfl];omega
  .simp only at c a⊢;rw[b] at c⊢
   split
   .omega
   .rename_i B;by_cases e:k=y
    .subst e;rcases a with a|⟨a,_⟩
     .exact absurd (jHI _ (by simp)) a
     .exact absurd a u
    .rw[if_neg e] at c;refine h.i.cls y z d f c ?_ g;rcases a with a|⟨o,A⟩
     .exact .inl (fun D=>a (jHJ _ D))
     .exact .inr ⟨o,by omega⟩
  .simp only;rw[b];split
   .omega
   .have:=h.le y d;omega
  .have:=h.mu;simp only[jH2,jIi,jIq];omega
  .have:=h.keep y d c;simp only;rw[b,if_neg (fun e=>by subst e;omega)];exact this
 .rename_i t;refine⟨⟨h.i.len,h.i.low,h.i.zero,h.i.rch,h.i.que,fun y z d f c a g=> ?_⟩,h.le,h.mu,h.pre,h.keep⟩;rcases a with a|⟨o,A⟩
  .exact h.i.cls y z d f c (.inl a) g
  .by_cases e:z=k
   .subst e;subst o;rcases Int.lt_or_le (nth x.1 z) 0 with r|r
    .exact absurd ⟨r,g⟩ t
    .exact r
   .exact h.i.cls y z d f c (.inr ⟨o,by omega⟩) g
theorem jAw {J:Nat->Nat->Bool} {n s q:Nat} {x:List Int×List Int} (e:s<n) (d:q<n) (b:0<=nth x.1 q) (hi:jHo J n s (fun _ _=>False) x) (a:jso n x):∀k,k<=n->InI J n s q k x (U.jgE J q x k)
 |0,_=>⟨⟨hi.len,hi.low,hi.zero,hi.rch,hi.que,fun y z i j f c g=>hi.cls y z i j f (by rcases c with h|⟨_,h⟩;exact .inl h;omega) g⟩,a,rfl,⟨[],by simp[U.jgE]⟩,fun _ _ _=>rfl⟩
 |k+1,hk=>by rw[jnl];exact jE1 e d b (by omega) (jAw e d b hi a k (by omega))
structure jFW (J:Nat->Nat->Bool) (n s:Nat) (x:List Int×List Int):Prop where
 i:jHo J n s (fun _ _=>False) x
 le:jso n x
theorem jCd {J:Nat->Nat->Bool} {n s:Nat} {x:List Int×List Int} (m:s<n) (h:jFW J n s x):jFW J n s (U.qC J n x)/\(x.2≠[]->jqF (U.qC J n x).1+(U.qC J n x).2.length+1=jqF x.1+x.2.length):=by
 obtain⟨st,p⟩:=x;cases p with
 |nil=>exact⟨h,fun h=>absurd rfl h⟩
 |cons q r=>
  obtain⟨t,u,o⟩:=h.i.que q (by simp);have hi:=jAw m (q:=q.toNat) (by omega) o h.i h.le n (jHM _);obtain⟨l,d⟩:=hi.pre;have f:(U.qC J n (st,q::r))=((U.jgE J q.toNat (st,q::r) n).1,r++l):=by
   show((U.jgE J q.toNat (st,q::r) n).1,(U.jgE J q.toNat (st,q::r) n).2.drop 1)=_;rw[d];rfl
  rw[f];have b:=hi.mu;rw[d] at b;refine⟨⟨⟨hi.i.len,hi.i.low,hi.i.zero,hi.i.rch,fun z c=>hi.i.que z (by rw[d];simp only at c⊢;exact jHS _ c),fun y z k c g a j=> ?_⟩,hi.le⟩,fun _=> ?_⟩
  .rcases a with a|a
   .by_cases e:y=q.toNat
    .exact hi.i.cls y z k c g (.inr ⟨e,c⟩) j
    .refine hi.i.cls y z k c g (.inl ?_) j;rw[d];intro b;rcases jHL.1 b with f|b
     .omega
     .exact a b
   .exact a.elim
  .simp only[jIf,jIi] at b⊢;omega
theorem ju1 {J:Nat->Nat->Bool} {n s:Nat} (f:s<n):jFW J n s (U.qR J n s 0)/\jqF (U.qR J n s 0).1+(U.qR J n s 0).2.length=n:=by
 have hi:∀x,x<n->nth (U.wF n s) x=if s=x then 0 else-1:=fun x i=>jk6 f i
 have h:jqF (U.wF n s)+1=n:=by
  have:=jol (out:=List.replicate n (-1:Int)) (b:=s) (v:=0) (by simpa using f) (by rw[L.nth_rep f];decide) (by decide);unfold U.wF;rw[this];unfold jqF;rw[List.countP_replicate];simp
 refine⟨⟨⟨jeX n s,fun y d=> ?_,?_,fun y d c=> ?_,fun q g=> ?_,fun y z d k c a j=> ?_⟩,fun y d=> ?_⟩,?_⟩
 .show-1<=nth (U.wF n s) y/\_;rw[show nth (U.qR J n s 0).1 y=_ from hi y d,hi y d];split<;>omega
 .show 0<=nth (U.wF n s) s;rw[hi s f,if_pos rfl];omega
 .have c:0<=nth (U.wF n s) y:=c;rw[hi y d] at c
  split at c
  .rename_i e;subst e;exact .base
  .omega
 .have g:q∈[(s:Int)]:=g;simp at g;subst g;refine⟨by omega,by omega,?_⟩;show 0<=nth (U.wF n s) (s:Int).toNat;rw[jHQ,hi s f,if_pos rfl];omega
 .have c:0<=nth (U.wF n s) y:=c;rw[hi y d] at c
  split at c
  .rename_i e;subst e;rcases a with a|a
   .exact absurd (show(s:Int)∈[(s:Int)] by simp) a
   .exact a.elim
  .omega
 .show nth (U.wF n s) y+(jqF (U.wF n s):Int)<=(n:Int)-1;rw[hi y d];split<;>omega
 .show jqF (U.wF n s)+1=n;exact h
theorem jjU {J:Nat->Nat->Bool} {n s:Nat} (b:s<n):∀k,jFW J n s (U.qR J n s k)/\((U.qR J n s k).2=[]\/jqF (U.qR J n s k).1+(U.qR J n s k).2.length+k=n)
 |0=>⟨(ju1 b).1,.inr (ju1 b).2⟩
 |k+1=>by
  obtain⟨d,a⟩:=jjU b k
  obtain⟨f,g⟩:=jCd b d
  refine⟨f,?_⟩
  by_cases e:(U.qR J n s k).2=[]
  .left
   show(U.qC J n (U.qR J n s k)).2=[]
   unfold U.qC
   split
   .exact e
   .rename_i c;rw[e] at c;cases c
  .right
   have:=g e
   rcases a with a|a
   .exact absurd a e
   .show jqF (U.qC J n (U.qR J n s k)).1+(U.qC J n (U.qR J n s k)).2.length+(k+1)=n
    omega
theorem jFz {J:Nat->Nat->Bool} {n s:Nat} (a:s<n):(U.qR J n s (n+1)).2=[]:=by
 rcases(jjU (J:=J) a (n+1)).2 with h|h
 .exact h
 .omega
theorem jDm {J:Nat->Nat->Bool} {n s k:Nat} (h:(U.qR J n s k).2=[]):∀m,k<=m->U.qR J n s m=U.qR J n s k:=by
 intro m d
 induction m with
 |zero=>have:k=0:=by omega
        subst this;rfl
 |succ m c=>
  by_cases e:k=m+1
  .rw[e]
  .have b:=c (by omega);show U.qC J n (U.qR J n s m)=_;rw[b];unfold U.qC
   split
   .rfl
   .rename_i a;rw[h] at a;cases a
theorem jGI {J:Nat->Nat->Bool} {n s x:Nat} (e:s<n) (l:x<n):nth (U.jGJ J n s) x<0↔¬Rch J n s x:=by
 have h:=(jjU (J:=J) e (n+1)).1;have j:=jFz (J:=J) e;constructor
 .intro m d;have:=d.closed (S:=fun y=>0<=nth (U.jGJ J n s) y) e h.i.zero (fun a b f c g k=>h.i.cls a b f g c (.inl (by rw[j];simp)) k);have this:0<=nth (U.jGJ J n s) x:=this;omega
 .intro d;rcases Int.lt_or_le (nth (U.jGJ J n s) x) 0 with c|c
  .exact c
  .exact absurd (h.i.rch x l c) d
theorem jFa {J:Nat->Nat->Bool} {n a b:Nat} (e:∀x y,J x y=J y x) (c:a<n) (d:b<n):nth (U.zz J n a n) b<0↔nth (U.jGJ J n b) a<0:=by
 rw[jGw c d,jGI d c];exact not_congr ⟨fun h=>h.symm e c,fun h=>h.symm e d⟩
end Go.X
namespace Go.X
namespace U
def jaF {α:Type} (p:α->Bool) (l:List α):Int:=match l.findIdx? p with|some i=>(i:Int)|none=> -1
def jd {α:Type} (F:α×Unit->Bool×Unit) (g:α):Bool:=(F (g,())).1
end U
def gfb (t:Ty) (σ:St) (s:Nat):(Ty.st [t]).Data->(Ty.st [.bool]).Data:=gfn [t] [.bool] σ s
theorem w7:∀(l:List Prop) {k:Prop},U.jL l->k->asks l k
 |[],_,_,hk=>hk
 |_::r,_,h,hk=>⟨h.1,w7 r h.2 hk⟩
theorem qm {α:Type} [Inhabited α] {l:List α} {p:α->Bool} {i:Nat} (h:i<l.length) (a:∀b:Nat,b<i->p (nth l b)=false) (c:p (nth l i)=true):U.jaF p l=i:=by
 have:l.findIdx? p=some i:=by
  rw[List.findIdx?_eq_some_iff_getElem];refine⟨h,by rw[<-L.nth_lt h];exact c,fun j d=> ?_⟩;have:=a j d;rw[L.nth_lt (by omega)] at this;simp[this]
 unfold U.jaF;rw[this]
theorem wg {α:Type} [Inhabited α] {l:List α} {p:α->Bool} {i:Nat} (h:l.length<=i) (a:∀b:Nat,b<i->p (nth l b)=false):U.jaF p l= -1:=by
 have:l.findIdx? p=none:=by
  rw[List.findIdx?_eq_none_iff];intro x c;obtain⟨k,hk,rfl⟩:=L.mem_iff.1 c;exact a k (by omega)
 unfold U.jaF;rw[this]
theorem jcJ {α:Type} (p:α->Bool) (l:List α):decide (0<=U.jaF p l)=l.any p:=by
 rw[jId];unfold U.jaF;simp only[decide_eq_true_eq]
 split
 .rename_i i e;rw[List.findIdx?_eq_some_iff_getElem] at e;obtain⟨h,a,_⟩:=e;exact⟨fun _=>jIn.2 ⟨_,List.getElem_mem h,a⟩,fun _=>by omega⟩
 .rename_i e;rw[List.findIdx?_eq_none_iff] at e;refine⟨fun h=>by omega,fun h=> ?_⟩;obtain⟨x,b,a⟩:=jIn.1 h;have:=e x b;exact absurd (a.symm.trans this) (by simp)
theorem jkn {α:Type} (F:α×Unit->Bool×Unit) (l:List α):(!l.any (U.jd fun(x:α×Unit)=>(!U.jd F x.fst,())))=l.all (U.jd F):=by
 induction l with
 |nil=>rfl
 |cons a r b=>
  simp only[List.any_cons,List.all_cons,Bool.not_or,b];have:(!U.jd (fun(x:α×Unit)=>(!U.jd F x.fst,())) a)=U.jd F a:=by
   show(!(!U.jd F a))=_;rw[Bool.not_not]
  rw[this]
end Go.X
namespace Go.X
open Go.Proofs
namespace U
def jgg (s n:Int):Bool:=decide (w4 (s/2^n.toNat) 1=1)
def jFS (b:Bool):Int:=if b=true then 1 else 0
def jqD (c:CrD) (f g:Int->Bool) (p:PeD):Bool:=((((((decide (((lv p).length:Int)=la c)&&(lv p).all f)&&ja (fd p) 0 255)&&ja (cl p) 0 255)&&decide (((zS p).length:Int)<=10))&&(zS p).all g)&&ja (fe p) 0 1000)
end U
def jsv:j9:=⟨[.val .int,.val .int,.val .int],[.bool],false,fun _=>[],fun d=>(U.ja d.1 d.2.1 d.2.2.1,())⟩
def jrY:Prop:=∀(d:Int×Int×Int×Unit),(decide (d.2.1<=d.1)&&decide (d.1<=d.2.2.1),())=(U.ja d.1 d.2.1 d.2.2.1,())
def jb4:j9:=⟨[.val (.uint .u64),.val .int],[.bool],false,fun d=>[0<=d.2.1,d.2.1<=64],fun d=>(U.jgg d.1 d.2.1,())⟩
def jpb:Prop:=∀(d:Int×Int×Unit),0<=d.2.1->d.2.1<=64->0<=d.2.1/\d.2.1<=64/\(decide (w4 (d.1/(2:Int)^d.2.1.toNat) (1:Int)=1),())=(U.jgg d.1 d.2.1,())
def wU:j9:=⟨[.val (.uint .u64)],[.int],false,fun d=>[BT.Set' d.1],fun d=>(BT.size d.1,())⟩
def joZ:Ann:=fun r=>match r with
 |1=>some fun σ=>{X:=Int×Int,sl:=fun x=>[(0,.dat (.uint .u64) x.1),(2,.dat .int x.2)],ob:=fun _=>[],inv:=fun x=>BT.Set' x.1/\x.2+BT.size x.1=BT.size (gd (.uint .u64) σ 0),mu:=fun x=>x.1.toNat}
 |_=>none
def jnx:Prop:=∀(d:Int×Unit),BT.Set' d.1->(∃(x:Int×Int),((d.1=x.1/\0=x.2/\True)/\True)/\BT.Set' x.1/\x.2+BT.size x.1=BT.size d.1)/\∀(x:Int×Int),BT.Set' x.1/\x.2+BT.size x.1=BT.size d.1->(decide (x.1≠0)=true->jz (x.2+1)/\0<=x.1-1/\x.1-1<=18446744073709551615/\∃(a:Int×Int),((w4 x.1 (x.1-1)=a.1/\x.2+1=a.2/\True)/\True)/\(BT.Set' a.1/\a.2+BT.size a.1=BT.size d.1)/\a.1.toNat<x.1.toNat)/\(decide (x.1≠0)=false->(x.2,())=(BT.size d.1,()))
def jwo:j9:=⟨[.val .bool],[.int],false,fun _=>[],fun d=>(U.jFS d.1,())⟩
def jv1:Prop:=∀(d:Bool×Unit),(d.1=true->((1:Int),())=(U.jFS d.1,()))/\(d.1=false->((0:Int),())=(U.jFS d.1,()))
def jeq:j9:=⟨[.val (.slice .int),.fn [.int] [.bool]],[.int],false,fun d=>[∀g∈d.1,U.jL (d.2.1.pre (g,()))],fun d=>(U.jaF (U.jd (α:=Int) d.2.1.F) d.1,())⟩
def jfa:Ann:=fun r=>match r with
 |2=>some fun σ=>{X:=Nat,sl:=fun i=>[(8,.dat .int (i:Int))],ob:=fun _=>[],inv:=fun i=>i<=(gd (.slice .int) σ 0).length/\∀b:Nat,b<i->U.jd (gfb .int σ 1) (nth (gd (.slice .int) σ 0) b)=false,mu:=fun i=>(gd (.slice .int) σ 0).length-i}
 |_=>none
def jeg:Prop:=∀(d:List Int×FnD [Ty.int] [Ty.bool]×Unit),(∀(g:Int),g∈d.1->U.jL (d.2.1.1 (g,())))->d.1.length<4611686018427387904->(∃(x:Nat),((0=(x:Int)/\True)/\True)/\x<=d.1.length/\∀(b:Nat),b<x->U.jd d.2.1.2 (nth d.1 b)=false)/\∀(x:Nat),(x<=d.1.length/\∀(b:Nat),b<x->U.jd d.2.1.2 (nth d.1 b)=false)->(decide ((x:Int)<(d.1.length:Int))=true->0<=(x:Int)/\(x:Int)<(d.1.length:Int)/\asks (d.2.1.1 (nth d.1 (x:Int).toNat,())) (((d.2.1.2 (nth d.1 (x:Int).toNat,())).1=true->((x:Int),())=(U.jaF (U.jd d.2.1.2) d.1,()))/\((d.2.1.2 (nth d.1 (x:Int).toNat,())).1=false->jz ((x:Int)+1)/\∃(a:Nat),(((x:Int)+1=(a:Int)/\True)/\True)/\(a<=d.1.length/\∀(b:Nat),b<a->U.jd d.2.1.2 (nth d.1 b)=false)/\d.1.length-a<d.1.length-x)))/\(decide ((x:Int)<(d.1.length:Int))=false->((-1:Int),())=(U.jaF (U.jd d.2.1.2) d.1,()))
def jbK:j9:=⟨[.val (.slice .int),.fn [.int] [.bool]],[.bool],false,fun d=>[∀g∈d.1,U.jL (d.2.1.pre (g,()))],fun d=>(d.1.any (U.jd (α:=Int) d.2.1.F),())⟩
def jbG:Prop:=∀(d:List Int×FnD [Ty.int] [Ty.bool]×Unit),(∀(g:Int),g∈d.1->U.jL (d.2.1.1 (g,())))->(∀(g:Int),g∈d.1->U.jL (d.2.1.1 (g,())))/\(decide (0<=U.jaF (U.jd d.2.1.2) d.1),())=(d.1.any (U.jd d.2.1.2),())
def jer:j9:=⟨[.val (.slice tLw),.fn [tLw] [.bool]],[.int],false,fun d=>[∀g∈d.1,U.jL (d.2.1.pre (g,()))],fun d=>(U.jaF (U.jd (α:=LwD) d.2.1.F) d.1,())⟩
def jfb:Ann:=fun r=>match r with
 |2=>some fun σ=>{X:=Nat,sl:=fun i=>[(8,.dat .int (i:Int))],ob:=fun _=>[],inv:=fun i=>i<=(gd (.slice tLw) σ 0).length/\∀b:Nat,b<i->U.jd (gfb tLw σ 1) (nth (gd (.slice tLw) σ 0) b)=false,mu:=fun i=>(gd (.slice tLw) σ 0).length-i}
 |_=>none
def jeh:Prop:=∀(d:List LwD×FnD [tLw] [Ty.bool]×Unit),(∀(g:LwD),g∈d.1->U.jL (d.2.1.1 (g,())))->d.1.length<4611686018427387904->(∃(x:Nat),((0=(x:Int)/\True)/\True)/\x<=d.1.length/\∀(b:Nat),b<x->U.jd d.2.1.2 (nth d.1 b)=false)/\∀(x:Nat),(x<=d.1.length/\∀(b:Nat),b<x->U.jd d.2.1.2 (nth d.1 b)=false)->(decide ((x:Int)<(d.1.length:Int))=true->0<=(x:Int)/\(x:Int)<(d.1.length:Int)/\asks (d.2.1.1 (nth d.1 (x:Int).toNat,())) (((d.2.1.2 (nth d.1 (x:Int).toNat,())).1=true->((x:Int),())=(U.jaF (U.jd d.2.1.2) d.1,()))/\((d.2.1.2 (nth d.1 (x:Int).toNat,())).1=false->jz ((x:Int)+1)/\∃(a:Nat),(((x:Int)+1=(a:Int)/\True)/\True)/\(a<=d.1.length/\∀(b:Nat),b<a->U.jd d.2.1.2 (nth d.1 b)=false)/\d.1.length-a<d.1.length-x)))/\(decide ((x:Int)<(d.1.length:Int))=false->((-1:Int),())=(U.jaF (U.jd d.2.1.2) d.1,()))
def jbL:j9:=⟨[.val (.slice tLw),.fn [tLw] [.bool]],[.bool],false,fun d=>[∀g∈d.1,U.jL (d.2.1.pre (g,()))],fun d=>(d.1.any (U.jd (α:=LwD) d.2.1.F),())⟩
def jbH:Prop:=∀(d:List LwD×FnD [tLw] [Ty.bool]×Unit),(∀(g:LwD),g∈d.1->U.jL (d.2.1.1 (g,())))->(∀(g:LwD),g∈d.1->U.jL (d.2.1.1 (g,())))/\(decide (0<=U.jaF (U.jd d.2.1.2) d.1),())=(d.1.any (U.jd d.2.1.2),())
def jbJ:j9:=⟨[.val (.slice tPe),.fn [tPe] [.bool]],[.int],false,fun d=>[∀g∈d.1,U.jL (d.2.1.pre (g,()))],fun d=>(U.jaF (U.jd (α:=PeD) d.2.1.F) d.1,())⟩
def jbR:Ann:=fun r=>match r with
 |2=>some fun σ=>{X:=Nat,sl:=fun i=>[(8,.dat .int (i:Int))],ob:=fun _=>[],inv:=fun i=>i<=(gd (.slice tPe) σ 0).length/\∀b:Nat,b<i->U.jd (gfb tPe σ 1) (nth (gd (.slice tPe) σ 0) b)=false,mu:=fun i=>(gd (.slice tPe) σ 0).length-i}
 |_=>none
def jbF:Prop:=∀(d:List PeD×FnD [tPe] [Ty.bool]×Unit),(∀(g:PeD),g∈d.1->U.jL (d.2.1.1 (g,())))->d.1.length<4611686018427387904->(∃(x:Nat),((0=(x:Int)/\True)/\True)/\x<=d.1.length/\∀(b:Nat),b<x->U.jd d.2.1.2 (nth d.1 b)=false)/\∀(x:Nat),(x<=d.1.length/\∀(b:Nat),b<x->U.jd d.2.1.2 (nth d.1 b)=false)->(decide ((x:Int)<(d.1.length:Int))=true->0<=(x:Int)/\(x:Int)<(d.1.length:Int)/\asks (d.2.1.1 (nth d.1 (x:Int).toNat,())) (((d.2.1.2 (nth d.1 (x:Int).toNat,())).1=true->((x:Int),())=(U.jaF (U.jd d.2.1.2) d.1,()))/\((d.2.1.2 (nth d.1 (x:Int).toNat,())).1=false->jz ((x:Int)+1)/\∃(a:Nat),(((x:Int)+1=(a:Int)/\True)/\True)/\(a<=d.1.length/\∀(b:Nat),b<a->U.jd d.2.1.2 (nth d.1 b)=false)/\d.1.length-a<d.1.length-x)))/\(decide ((x:Int)<(d.1.length:Int))=false->((-1:Int),())=(U.jaF (U.jd d.2.1.2) d.1,()))
def gj:j9:=⟨[.val (.slice tPe),.fn [tPe] [.bool]],[.bool],false,fun d=>[∀g∈d.1,U.jL (d.2.1.pre (g,()))],fun d=>(d.1.any (U.jd (α:=PeD) d.2.1.F),())⟩
def gg:Prop:=∀(d:List PeD×FnD [tPe] [Ty.bool]×Unit),(∀(g:PeD),g∈d.1->U.jL (d.2.1.1 (g,())))->(∀(g:PeD),g∈d.1->U.jL (d.2.1.1 (g,())))/\(decide (0<=U.jaF (U.jd d.2.1.2) d.1),())=(d.1.any (U.jd d.2.1.2),())
def jir:j9:=⟨[.val .int,.rfn [.int] [.bool]],[.bool],false,fun d=>[U.jL (d.2.1.pre (d.1,()))],fun d=>(!(U.jd (α:=Int) d.2.1.F d.1),())⟩
def jig:Prop:=∀(d:Int×FnD [Ty.int] [Ty.bool]×Unit),U.jL (d.2.1.1 (d.1,()))->asks (d.2.1.1 (d.1,())) ((!(d.2.1.2 (d.1,())).1,())=(!U.jd d.2.1.2 d.1,()))
def jlL:j9:=⟨[.val (.slice .int),.fn [.int] [.bool]],[.bool],false,fun d=>[∀g∈d.1,U.jL (d.2.1.pre (g,()))],fun d=>(d.1.all (U.jd (α:=Int) d.2.1.F),())⟩
def jlC:Prop:=∀(d:List Int×FnD [Ty.int] [Ty.bool]×Unit),(∀(g:Int),g∈d.1->U.jL (d.2.1.1 (g,())))->(∀(g:Int),g∈d.1->U.jL [U.jL (d.2.1.1 (g,()))])/\(!d.1.any (U.jd fun(a:Int×Unit)=>(!U.jd d.2.1.2 a.1,())),())=(d.1.all (U.jd d.2.1.2),())
def jis:j9:=⟨[.val tLw,.rfn [tLw] [.bool]],[.bool],false,fun d=>[U.jL (d.2.1.pre (d.1,()))],fun d=>(!(U.jd (α:=LwD) d.2.1.F d.1),())⟩
def jih:Prop:=∀(d:LwD×FnD [tLw] [Ty.bool]×Unit),U.jL (d.2.1.1 (d.1,()))->asks (d.2.1.1 (d.1,())) ((!(d.2.1.2 (d.1,())).1,())=(!U.jd d.2.1.2 d.1,()))
def jlM:j9:=⟨[.val (.slice tLw),.fn [tLw] [.bool]],[.bool],false,fun d=>[∀g∈d.1,U.jL (d.2.1.pre (g,()))],fun d=>(d.1.all (U.jd (α:=LwD) d.2.1.F),())⟩
def jlD:Prop:=∀(d:List LwD×FnD [tLw] [Ty.bool]×Unit),(∀(g:LwD),g∈d.1->U.jL (d.2.1.1 (g,())))->(∀(g:LwD),g∈d.1->U.jL [U.jL (d.2.1.1 (g,()))])/\(!d.1.any (U.jd fun(a:LwD×Unit)=>(!U.jd d.2.1.2 a.1,())),())=(d.1.all (U.jd d.2.1.2),())
def jep:j9:=⟨[.val tPe,.rfn [tPe] [.bool]],[.bool],false,fun d=>[U.jL (d.2.1.pre (d.1,()))],fun d=>(!(U.jd (α:=PeD) d.2.1.F d.1),())⟩
def jee:Prop:=∀(d:PeD×FnD [tPe] [Ty.bool]×Unit),U.jL (d.2.1.1 (d.1,()))->asks (d.2.1.1 (d.1,())) ((!(d.2.1.2 (d.1,())).1,())=(!U.jd d.2.1.2 d.1,()))
def jgW:j9:=⟨[.val (.slice tPe),.fn [tPe] [.bool]],[.bool],false,fun d=>[∀g∈d.1,U.jL (d.2.1.pre (g,()))],fun d=>(d.1.all (U.jd (α:=PeD) d.2.1.F),())⟩
def jgP:Prop:=∀(d:List PeD×FnD [tPe] [Ty.bool]×Unit),(∀(g:PeD),g∈d.1->U.jL (d.2.1.1 (g,())))->(∀(g:PeD),g∈d.1->U.jL [U.jL (d.2.1.1 (g,()))])/\(!d.1.any (U.jd fun(a:PeD×Unit)=>(!U.jd d.2.1.2 a.1,())),())=(d.1.all (U.jd d.2.1.2),())
def jpG:j9:=⟨[.val .int],[.bool],false,fun _=>[],fun d=>(U.ja d.1 0 5,())⟩
def jpg:Prop:=∀(d:Int×Unit),(U.ja d.1 (0:Int) (5:Int),())=(U.ja d.1 (0:Int) (5:Int),())
def jpF:j9:=⟨[.val .int],[.bool],false,fun _=>[],fun d=>(U.ja d.1 0 99,())⟩
def jpf:Prop:=∀(d:Int×Unit),(U.ja d.1 (0:Int) (99:Int),())=(U.ja d.1 (0:Int) (99:Int),())
def jpE:j9:=⟨[.val tPe,.ref tCr,.rfn [.int] [.bool],.rfn [.int] [.bool]],[.bool],false,fun d=>[∀g∈U.lv d.1,U.jL (d.2.2.1.pre (g,())),∀g∈U.zS d.1,U.jL (d.2.2.2.1.pre (g,()))],fun d=>(U.jqD d.2.1 (U.jd d.2.2.1.F) (U.jd d.2.2.2.1.F) d.1,())⟩
def jpe:Prop:=∀(d:PeD×CrD×FnD [Ty.int] [Ty.bool]×FnD [Ty.int] [Ty.bool]×Unit),(∀(g:Int),g∈U.lv d.1->U.jL (d.2.2.1.1 (g,())))->(∀(g:Int),g∈U.zS d.1->U.jL (d.2.2.2.1.1 (g,())))->d.1.1.length<4611686018427387904->(decide ((d.1.1.length:Int)=d.2.1.1)=true->∀(g:Int),g∈d.1.1->U.jL (d.2.2.1.1 (g,())))/\(((decide ((d.1.1.length:Int)=d.2.1.1)&&d.1.1.all (U.jd d.2.2.1.2)&&U.ja d.1.2.1 (0:Int) (255:Int)&&U.ja d.1.2.2.1 (0:Int) (255:Int))=true->d.1.2.2.2.1.length<4611686018427387904)->((decide ((d.1.1.length:Int)=d.2.1.1)&&d.1.1.all (U.jd d.2.2.1.2)&&U.ja d.1.2.1 (0:Int) (255:Int)&&U.ja d.1.2.2.1 (0:Int) (255:Int)&&decide ((d.1.2.2.2.1.length:Int)<=10))=true->∀(g:Int),g∈d.1.2.2.2.1->U.jL (d.2.2.2.1.1 (g,())))/\(decide ((d.1.1.length:Int)=d.2.1.1)&&d.1.1.all (U.jd d.2.2.1.2)&&U.ja d.1.2.1 (0:Int) (255:Int)&&U.ja d.1.2.2.1 (0:Int) (255:Int)&&decide ((d.1.2.2.2.1.length:Int)<=10)&&d.1.2.2.2.1.all (U.jd d.2.2.2.1.2)&&U.ja d.1.2.2.2.2.2.1 (0:Int) (1000:Int),())=(U.jqD d.2.1 (U.jd d.2.2.1.2) (U.jd d.2.2.2.1.2) d.1,()))
def jpD:j9:=⟨[.val tLw],[.bool],false,fun _=>[],fun d=>(U.jaf d.1,())⟩
def jpd:Prop:=∀(d:LwD×Unit),(U.ja d.1.1 (1:Int) (5:Int)&&U.ja d.1.2.1 (1:Int) (8:Int),())=(U.jaf d.1,())
def jpC:j9:=⟨[.val .int,.ref tCr],[.bool],false,fun d=>[jz (U.la d.2.1-1)],fun d=>(U.ja d.1 0 (U.la d.2.1-1),())⟩
def jpc:Prop:=∀(d:Int×CrD×Unit),jz (U.la d.2.1-1)->jz (d.2.1.1-1)/\(U.ja d.1 (0:Int) (d.2.1.1-1),())=(U.ja d.1 (0:Int) (U.la d.2.1-1),())
def jwp:j9:=⟨[.val tCr,.val tJb],[.int],false,fun _=>[],fun d=>(U.kl d.1 d.2.1,())⟩
abbrev q22_0 (d:CrD×JbD×Unit):=(!U.ja d.2.1.1 (0:Int) (U.la d.1-1)|| !U.ja d.2.1.2.1 (0:Int) (U.la d.1-1)||decide (d.2.1.1=d.2.1.2.1)|| !U.ja d.2.1.2.2.1 (0:Int) (99:Int)|| !U.ja d.2.1.2.2.2.1 (0:Int) (7:Int)|| !U.ja d.2.1.2.2.2.2.1 (0:Int) (3:Int)|| !U.ja d.2.1.2.2.2.2.2.1 (1:Int) (8:Int))
abbrev q22_1 (d:CrD×JbD×Unit):=(8<(d.1.2.1.length:Int))
def jv2:Prop:=∀(d:CrD×JbD×Unit),((!!U.ja d.1.1 (2:Int) (5:Int))=true->d.1.2.1.length<4611686018427387904)->((!(!U.ja d.1.1 (2:Int) (5:Int)||decide (q22_1 d)))=true->∀(g:PeD),g∈d.1.2.1->U.jL [∀(b:Int),b∈U.lv g->U.jL [],∀(b:Int),b∈U.zS g->U.jL []])/\(((!(!U.ja d.1.1 (2:Int) (5:Int)||decide (q22_1 d)|| !d.1.2.1.all (U.jd fun(a:PeD×Unit)=>(U.jqD d.1 (U.jd fun(a:Int×Unit)=>(U.ja a.1 (0:Int) (5:Int),())) (U.jd fun(a:Int×Unit)=>(U.ja a.1 (0:Int) (99:Int),())) a.1,()))))=true->d.1.2.2.1.length<4611686018427387904)->((!(!U.ja d.1.1 (2:Int) (5:Int)||decide (q22_1 d)|| !d.1.2.1.all (U.jd fun(c:PeD×Unit)=>(U.jqD d.1 (U.jd fun(c:Int×Unit)=>(U.ja c.1 (0:Int) (5:Int),())) (U.jd fun(c:Int×Unit)=>(U.ja c.1 (0:Int) (99:Int),())) c.1,()))||decide ((d.1.2.2.1.length:Int)≠4)))=true->∀(g:LwD),g∈d.1.2.2.1->U.jL [])/\((!U.ja d.1.1 (2:Int) (5:Int)||decide (q22_1 d)|| !d.1.2.1.all (U.jd fun(e:PeD×Unit)=>(U.jqD d.1 (U.jd fun(e:Int×Unit)=>(U.ja e.1 (0:Int) (5:Int),())) (U.jd fun(e:Int×Unit)=>(U.ja e.1 (0:Int) (99:Int),())) e.1,()))||decide ((d.1.2.2.1.length:Int)≠4)|| !d.1.2.2.1.all (U.jd fun(h:LwD×Unit)=>(U.jaf h.1,())))=true->((30:Int),())=(U.kl d.1 d.2.1,()))/\((!U.ja d.1.1 (2:Int) (5:Int)||decide (q22_1 d)|| !d.1.2.1.all (U.jd fun(f:PeD×Unit)=>(U.jqD d.1 (U.jd fun(f:Int×Unit)=>(U.ja f.1 (0:Int) (5:Int),())) (U.jd fun(f:Int×Unit)=>(U.ja f.1 (0:Int) (99:Int),())) f.1,()))||decide ((d.1.2.2.1.length:Int)≠4)|| !d.1.2.2.1.all (U.jd fun(i:LwD×Unit)=>(U.jaf i.1,())))=false->jz (U.la d.1-1)/\((!!U.ja d.2.1.1 (0:Int) (U.la d.1-1))=true->jz (U.la d.1-1))/\((q22_0 d)=true->((31:Int),())=(U.kl d.1 d.2.1,()))/\((q22_0 d)=false->((0:Int),())=(U.kl d.1 d.2.1,()))))
end Go.X
namespace Go.X
open Go.Proofs
theorem jxh:jrY:=by
 intro d;rfl
theorem qf:zm PR 126 jsv:=j8 jxh Tryz.func126 kcN koN
theorem jtE:jpb:=by
 intro d a b;exact⟨a,b,rfl⟩
theorem jqm:zm PR 190 jb4:=j8 jtE Tryz.func190 kcN koN
theorem jqS:jnx:=by
 rintro⟨s,⟨⟩⟩ e;refine⟨⟨(s,0),⟨⟨rfl,rfl,trivial⟩,trivial⟩,e,by simp⟩,?_⟩;rintro⟨x,n⟩ ⟨a,b⟩;have a:BT.Set' x:=a;have g:=BT.size_le s;have f:=BT.size_le x;refine⟨fun h=> ?_,fun h=> ?_⟩
 .have h:x≠0:=of_decide_eq_true h;obtain⟨d,i,j⟩:=BT.pred a h;have c:=a;unfold BT.Set' at c;simp only at b⊢;exact⟨L.in64 (by omega) (by omega),by omega,by omega,(w4 x (x-1),n+1),⟨⟨rfl,rfl,trivial⟩,trivial⟩,⟨d,(by omega:n+1+BT.size (w4 x (x-1))=BT.size s)⟩,(by unfold BT.Set' at d;omega:(w4 x (x-1)).toNat<x.toNat)⟩
 .have h:x=0:=(by simpa using h);subst h;simp only[BT.size_zero] at b;simp only at b⊢;rw[show n=BT.size s by omega]
theorem jod:zm PR 156 wU:=kH joZ jqS Tryz.func156 kcN koN
theorem jAA:jv1:=by
 rintro⟨b,⟨⟩⟩;exact⟨fun h=>by simp only at h;subst h;rfl,fun h=>by simp only at h;subst h;rfl⟩
theorem jwS:zm PR 153 jwo:=j8 jAA Tryz.func153 kcN koN
theorem jgj:jeg:=by
 rintro⟨l,f,⟨⟩⟩ a g;refine⟨⟨0,⟨⟨rfl,trivial⟩,trivial⟩,jHR _,fun b c=>by omega⟩,fun i hi=>⟨fun h=> ?_,fun h=> ?_⟩⟩
 .have h:i<l.length:=(by simpa using h);simp only[jHQ] at*;refine⟨by omega,by omega,w7 _ (a _ (L.mem_nth h)) ⟨fun c=> ?_,fun c=>⟨L.in64 (by omega) (by omega),i+1,⟨⟨by simp,trivial⟩,trivial⟩,⟨by omega,fun b d=> ?_⟩,by omega⟩⟩⟩
  .rw[qm (p:=U.jd (α:=Int) f.F) h hi.2 c]
  .by_cases e:b=i
   .subst e;exact c
   .exact hi.2 b (by omega)
 .have h:l.length<=i:=(by simpa using h);rw[wg (p:=U.jd (α:=Int) f.F) h hi.2]
theorem jeF:zm PR 158 jeq:=kH jfa jgj Tryz.func158 kcN koN
theorem jcL:jbG:=by
 rintro⟨l,f,⟨⟩⟩ a;refine⟨a,?_⟩;exact congrArg (·,()) (jcJ (U.jd (α:=Int) f.F) l)
theorem qO:zm PR 124 jbK:=j8 jcL Tryz.func124 (kcC jeF kcN) koN
theorem jgk:jeh:=by
 rintro⟨l,f,⟨⟩⟩ a g;refine⟨⟨0,⟨⟨rfl,trivial⟩,trivial⟩,jHR _,fun b c=>by omega⟩,fun i hi=>⟨fun h=> ?_,fun h=> ?_⟩⟩
 .have h:i<l.length:=(by simpa using h);simp only[jHQ] at*;refine⟨by omega,by omega,w7 _ (a _ (L.mem_nth h)) ⟨fun c=> ?_,fun c=>⟨L.in64 (by omega) (by omega),i+1,⟨⟨by simp,trivial⟩,trivial⟩,⟨by omega,fun b d=> ?_⟩,by omega⟩⟩⟩
  .rw[qm (p:=U.jd (α:=LwD) f.F) h hi.2 c]
  .by_cases e:b=i
   .subst e;exact c
   .exact hi.2 b (by omega)
 .have h:l.length<=i:=(by simpa using h);rw[wg (p:=U.jd (α:=LwD) f.F) h hi.2]
theorem jeG:zm PR 194 jer:=kH jfb jgk Tryz.func194 kcN koN
theorem jcM:jbH:=by
 rintro⟨l,f,⟨⟩⟩ a;refine⟨a,?_⟩;exact congrArg (·,()) (jcJ (U.jd (α:=LwD) f.F) l)
theorem jbN:zm PR 162 jbL:=j8 jcM Tryz.func162 (kcC jeG kcN) koN
theorem jcK:jbF:=by
 rintro⟨l,f,⟨⟩⟩ a g;refine⟨⟨0,⟨⟨rfl,trivial⟩,trivial⟩,jHR _,fun b c=>by omega⟩,fun i hi=>⟨fun h=> ?_,fun h=> ?_⟩⟩
 .have h:i<l.length:=(by simpa using h);simp only[jHQ] at*;refine⟨by omega,by omega,w7 _ (a _ (L.mem_nth h)) ⟨fun c=> ?_,fun c=>⟨L.in64 (by omega) (by omega),i+1,⟨⟨by simp,trivial⟩,trivial⟩,⟨by omega,fun b d=> ?_⟩,by omega⟩⟩⟩
  .rw[qm (p:=U.jd (α:=PeD) f.F) h hi.2 c]
  .by_cases e:b=i
   .subst e;exact c
   .exact hi.2 b (by omega)
 .have h:l.length<=i:=(by simpa using h);rw[wg (p:=U.jd (α:=PeD) f.F) h hi.2]
theorem jbM:zm PR 193 jbJ:=kH jbR jcK Tryz.func193 kcN koN
theorem jao:gg:=by
 rintro⟨l,f,⟨⟩⟩ a;refine⟨a,?_⟩;exact congrArg (·,()) (jcJ (U.jd (α:=PeD) f.F) l)
theorem gu:zm PR 160 gj:=j8 jao Tryz.func160 (kcC jbM kcN) koN
theorem jkL:jig:=by
 intro d h;exact w7 _ h rfl
theorem jiF:zm PR 159 jir:=j8 jkL Tryz.func159 kcN koN
theorem jox:jlC:=by
 intro d h;exact⟨fun g a=>⟨h g a,trivial⟩,congrArg (·,()) (jkn d.snd.fst.2 d.fst)⟩
theorem jlW:zm PR 129 jlL:=j8 jox Tryz.func129 (kcC qO (kcC jiF kcN)) koN
theorem jkM:jih:=by
 intro d h;exact w7 _ h rfl
theorem jiG:zm PR 163 jis:=j8 jkM Tryz.func163 kcN koN
theorem joy:jlD:=by
 intro d h;exact⟨fun g a=>⟨h g a,trivial⟩,congrArg (·,()) (jkn d.snd.fst.2 d.fst)⟩
theorem jlX:zm PR 133 jlM:=j8 joy Tryz.func133 (kcC jbN (kcC jiG kcN)) koN
theorem jgi:jee:=by
 intro d h;exact w7 _ h rfl
theorem jeE:zm PR 161 jep:=j8 jgi Tryz.func161 kcN koN
theorem jiN:jgP:=by
 intro d h;exact⟨fun g a=>⟨h g a,trivial⟩,congrArg (·,()) (jkn d.snd.fst.2 d.fst)⟩
theorem jhb:zm PR 132 jgW:=j8 jiN Tryz.func132 (kcC gu (kcC jeE kcN)) koN
theorem jtJ:jpg:=fun _=>rfl
theorem jqs:zm PR 125 jpG:=j8 jtJ Tryz.func125 (kcC qf kcN) koN
theorem jtI:jpf:=fun _=>rfl
theorem jqr:zm PR 127 jpF:=j8 jtI Tryz.func127 (kcC qf kcN) koN
theorem jtH:jpe:=by
 rintro⟨p,c,f,g,⟨⟩⟩ a b _;exact⟨fun _=>a,fun _=>⟨fun _=>b,rfl⟩⟩
theorem jqq:zm PR 128 jpE:=j8 jtH Tryz.func128 (kcC qf (kcC jlW kcN)) koN
theorem jtG:jpd:=fun _=>rfl
theorem jqp:zm PR 130 jpD:=j8 jtG Tryz.func130 (kcC qf kcN) koN
theorem jtF:jpc:=fun _ h=>⟨h,rfl⟩
theorem jqo:zm PR 131 jpC:=j8 jtF Tryz.func131 (kcC qf kcN) koN
theorem jEM (c:CrD) (p:PeD):U.jqD c (fun x=>U.ja x 0 5) (fun x=>U.ja x 0 99) p=U.gw (U.la c) p:=by
 rw[jId];simp only[U.jqD,U.gw,U.ja,jHK,decide_eq_true_eq];constructor
 .rintro⟨⟨⟨⟨⟨⟨e,f⟩,a⟩,b⟩,k⟩,i⟩,d⟩;exact⟨⟨e,a.1,a.2,b.1,b.2,by omega,d.1,d.2⟩,f,i⟩
 .rintro⟨⟨e,a,g,b,h,k,d,j⟩,f,i⟩;exact⟨⟨⟨⟨⟨⟨e,f⟩,a,g⟩,b,h⟩,by omega⟩,i⟩,d,j⟩
theorem jFj (c:CrD):(((((!U.ja c.1 2 5||decide (8<((c.2.1.length:Nat):Int)))|| !c.2.1.all (U.gw (U.la c)))||decide (((c.2.2.1.length:Nat):Int)≠4))|| !c.2.2.1.all U.jaf))= !U.js c:=by
 unfold U.js;show _= !(decide (2<=c.1/\c.1<=5/\c.2.1.length<=8/\c.2.2.1.length=4)&&(c.2.1.all (U.gw (U.la c))&&c.2.2.1.all U.jaf));cases c.2.1.all (U.gw (U.la c))<;>cases c.2.2.1.all U.jaf<;>simp only[U.ja,Bool.not_true,Bool.not_false,Bool.or_true,Bool.or_false,Bool.and_true,Bool.and_false,Bool.true_or]
 rw[jId];simp only[jIK,jIj,Bool.and_eq_false_iff,decide_eq_true_eq,decide_eq_false_iff_not];omega
theorem jGk (c:CrD) (j:JbD):((((((!U.ja j.1 0 (U.la c-1)|| !U.ja j.2.1 0 (U.la c-1))||decide (j.1=j.2.1))|| !U.ja j.2.2.1 0 99)|| !U.ja j.2.2.2.1 0 7)|| !U.ja j.2.2.2.2.1 0 3)|| !U.ja j.2.2.2.2.2.1 1 8)= !U.za c j:=by
 have key:(U.za c j=false)↔¬(0<=j.1/\j.1<=U.la c-1/\0<=j.2.1/\j.2.1<=U.la c-1/\j.1≠j.2.1/\0<=j.2.2.1/\j.2.2.1<=99/\0<=j.2.2.2.1/\j.2.2.2.1<=7/\0<=j.2.2.2.2.1/\j.2.2.2.2.1<=3/\1<=j.2.2.2.2.2.1/\j.2.2.2.2.2.1<=8):=by
  unfold U.za;exact decide_eq_false_iff_not
 rw[jId,jIj,key];simp only[U.ja,jIK,jIj,Bool.and_eq_false_iff,decide_eq_true_eq,decide_eq_false_iff_not];omega
theorem jAB:jv2:=by
 unfold jv2 q22_1 q22_0;rintro⟨c,j,⟨⟩⟩;have f:∀p,U.jd (fun(x:PeD×Unit)=>(U.jqD c (U.jd fun(x:Int×Unit)=>(U.ja x.fst 0 5,())) (U.jd fun(x:Int×Unit)=>(U.ja x.fst 0 99,())) x.fst,())) p=U.gw (U.la c) p:=fun p=>jEM c p
 have i:(U.jd fun(x:LwD×Unit)=>(U.jaf x.fst,()))=U.jaf:=rfl;have d:=jFj c;have e:=jGk c j;intro _;refine⟨fun _ g _=>⟨fun _ _=>trivial,fun _ _=>trivial,trivial⟩,fun _=> ?_⟩;simp only at d e⊢;rw[funext f,i,d,e];refine⟨fun _ _ _=>trivial,fun h=> ?_,fun h=> ?_⟩
 .have h:U.js c=false:=(by simpa using h);unfold U.kl;rw[if_pos h]
 .have h:U.js c=true:=(by simpa using h);have k:2<=U.la c/\U.la c<=5:=by
   unfold U.js at h;simp only[jHK,decide_eq_true_eq] at h;exact⟨h.1.1,h.1.2.1⟩
  have b:jz (U.la c-1):=L.in64 (by omega) (by omega);refine⟨b,fun _=>b,fun a=> ?_,fun a=> ?_⟩
  .have a:U.za c j=false:=(by simpa using a);unfold U.kl;rw[if_neg (by rw[h];simp),if_pos a]
  .have a:U.za c j=true:=(by simpa using a);unfold U.kl;rw[if_neg (by rw[h];simp),if_neg (by rw[a];simp)]
theorem jmI:zm PR 85 jwp:=j8 jAB Tryz.func85 (kcC qf (kcC jhb (kcC jlX (kcC jqs (kcC jqr (kcC jqq (kcC jqp (kcC jqo kcN)))))))) koN
end Go.X
namespace Go.X
open Go.Proofs
abbrev tTk:Ty:= .st [tCr,tJb,tLw]
abbrev TkD:Type:=CrD×JbD×LwD×Unit
namespace U
def tk (o:Option TkD):TkD:=jQ (Ty.dflt tTk) o
def tc (t:TkD):CrD:=t.1
def tj (t:TkD):JbD:=t.2.1
def tl (t:TkD):LwD:=t.2.2.1
def jmH (c:CrD) (j:JbD):Option TkD:=if kl c j=0 then some (c,j,yM c j,()) else none
def yt (t:TkD):Prop:=js (tc t)=true/\za (tc t) (tj t)=true/\tl t=yM (tc t) (tj t)
def jwk (a b c:Bool):Int:=jFS a+2*jFS b+4*jFS c
def kY (t:TkD) (p:PeD):Int:=jwk (yf p (jBT (tj t))) (!jR (fd p) (jtB (tj t))) (!jR (cl p) (jrQ (tj t)))
def jgc (t:TkD) (p:PeD):List (Int×Int):=[(0,jFS (!yf p (jBT (tj t)))),(1,qL (fd p/2^(jtB (tj t)).toNat) 1),(2,qL (cl p/2^(jrQ (tj t)).toNat) 1)]
def vH (all left:List (Int×Int)) (out:Int):Prop:=BT.Set' out/\left.Nodup/\(∀e∈left,e∈all)/\∀p:Nat,BT.has out p=true↔∃e∈all,e∉left/\e.2=0/\e.1.toNat=p
def wL (t:TkD) (s:Int) (n:Nat):List (Int×PeD×Unit):=((List.range n).filter (fun(i:Nat)=>jgg s (i:Int))).map (fun(i:Nat)=>((i:Int),nth (jh (tc t)) i,()))
def jh2 (t:TkD) (s:Int):List (Int×PeD×Unit):=wL t s (jh (tc t)).length
def jn (t:TkD) (a b:Int) (x:Int×PeD×Unit):Bool:=decide (jyk (tl t)<=min (nth (lv x.2.1) a.toNat) (nth (lv x.2.1) b.toNat))
def jcF (t:TkD) (s a b:Int):Bool:=(jh2 t s).any (jn t a b)
def qw (t:TkD) (a b:Int) (q:List (Int×PeD×Unit)):Bool:=match q.getLast? with|some x=>jn t a b x|none=>false
end U
def jjD:j9:=⟨[.val (.slice .int),.val .int],[.int],false,fun _=>[],fun d=>(U.jaF (fun x=>decide (x=d.2.1)) d.1,())⟩
def jls:Ann:=fun r=>match r with
 |2=>some fun σ=>{X:=Nat,sl:=fun i=>[(8,.dat .int (i:Int))],ob:=fun _=>[],inv:=fun i=>i<=(gd (.slice .int) σ 0).length/\∀b:Nat,b<i->decide (nth (gd (.slice .int) σ 0) b=gd .int σ 1)=false,mu:=fun i=>(gd (.slice .int) σ 0).length-i}
 |_=>none
def jjo:Prop:=∀(d:List Int×Int×Unit),d.1.length<4611686018427387904->(∃(x:Nat),((0=(x:Int)/\True)/\True)/\x<=d.1.length/\∀(b:Nat),b<x->decide (nth d.1 b=d.2.1)=false)/\∀(x:Nat),(x<=d.1.length/\∀(b:Nat),b<x->decide (nth d.1 b=d.2.1)=false)->(decide ((x:Int)<(d.1.length:Int))=true->0<=(x:Int)/\(x:Int)<(d.1.length:Int)/\(decide (d.2.1=nth d.1 (x:Int).toNat)=true->((x:Int),())=(U.jaF (fun(c:Int)=>decide (c=d.2.1)) d.1,()))/\(decide (d.2.1=nth d.1 (x:Int).toNat)=false->jz ((x:Int)+1)/\∃(a:Nat),(((x:Int)+1=(a:Int)/\True)/\True)/\(a<=d.1.length/\∀(b:Nat),b<a->decide (nth d.1 b=d.2.1)=false)/\d.1.length-a<d.1.length-x))/\(decide ((x:Int)<(d.1.length:Int))=false->((-1:Int),())=(U.jaF (fun(e:Int)=>decide (e=d.2.1)) d.1,()))
def jfE:j9:=⟨[.val (.slice .int),.val .int],[.bool],false,fun _=>[],fun d=>(d.1.any (fun x=>decide (x=d.2.1)),())⟩
def jfp:Prop:=∀(d:List Int×Int×Unit),(decide (0<=U.jaF (fun(a:Int)=>decide (a=d.2.1)) d.1),())=(d.1.any fun(b:Int)=>decide (b=d.2.1),())
def jyV:j9:=⟨[.val tCr,.val tJb],[.ptr tTk,.int],false,fun _=>[],fun d=>(U.jmH d.1 d.2.1,U.kl d.1 d.2.1,())⟩
def jyt:Prop:=∀(d:CrD×JbD×Unit),(decide (U.kl d.1 d.2.1≠0)=true->(none,U.kl d.1 d.2.1,())=(U.jmH d.1 d.2.1,U.kl d.1 d.2.1,()))/\(decide (U.kl d.1 d.2.1≠0)=false->0<=d.2.1.2.2.2.2.1/\d.2.1.2.2.2.2.1<(d.1.2.2.1.length:Int)/\(some (d.1,d.2.1,nth d.1.2.2.1 d.2.1.2.2.2.2.1.toNat,()),(0:Int),())=(U.jmH d.1 d.2.1,U.kl d.1 d.2.1,()))
def LM (d:PD [.ref (.ptr tTk),.ref (.uint .u64)]) (xs:List (Ty.st [.int,tPe]).Data):Prop:=xs=U.jh2 (U.tk d.1) d.2.1
def jyd (d:PD [.ref (.ptr tTk),.ref (.uint .u64)]):jjg (YS [.int,tPe]):=fun r=>match r with
 |1=>some fun σ ys=>{X:=Nat,sl:=fun i=>[(12,.dat .int (i:Int))],ob:=fun _=>[],ys:=fun i=>(U.wL (U.tk d.1) d.2.1 i,true),inv:=fun i=>i<=(U.jh (U.tc (U.tk d.1))).length,mu:=fun i=>(U.jh (U.tc (U.tk d.1))).length-i}
 |_=>none
abbrev q26_0 (d:Option (CrD×JbD×LwD×Unit)×Int×Unit):=(jQ (((0:Int),[],[],()),((0:Int),(0:Int),(0:Int),(0:Int),(0:Int),(0:Int),()),((0:Int),(0:Int),false,()),()) d.1)
abbrev q26_1 (d:Option (CrD×JbD×LwD×Unit)×Int×Unit):=(U.jh (U.tc (U.tk d.1)))
abbrev q26_2 (x:Nat)(d:Option (CrD×JbD×LwD×Unit)×Int×Unit):=((x:Int),nth (q26_0 d).1.2.1 (x:Int).toNat,())
abbrev q26_3 (x:Nat)(a:Nat):=(((x:Int)+1=(a:Int)/\True)/\True)
def yb:Prop:=∀(d:Option (CrD×JbD×LwD×Unit)×Int×Unit) (l:Nat),d.1.isSome=true->(q26_1 d).length<=60->d.1.isSome=true/\((q26_0 d).1.2.1.length<4611686018427387904->(∃(x:Nat),((0=(x:Int)/\True)/\True)/\([],true)=(U.wL (U.tk d.1) d.2.1 x,true)/\x<=(q26_1 d).length)/\∀(x:Nat),x<=(q26_1 d).length->(decide ((x:Int)<(↑(q26_0 d).1.2.1.length:Int))=true->0<=(x:Int)/\(x:Int)<(↑(q26_0 d).1.2.1.length:Int)/\0<=(x:Int)/\(x:Int)<=64/\(U.jgg d.2.1 (x:Int)=true->l=l/\(∃(rest:List (Int×PeD×Unit)),U.wL (U.tk d.1) d.2.1 x++[(q26_2 x d)]++rest=U.jh2 (U.tk d.1) d.2.1)/\(((U.jgg d.2.1 (x:Int)&& !true)=true->true=true->U.wL (U.tk d.1) d.2.1 x++[(q26_2 x d)]=U.jh2 (U.tk d.1) d.2.1)/\((U.jgg d.2.1 (x:Int)&& !true)=false->jz ((x:Int)+1)/\∃(a:Nat),(q26_3 x a)/\(U.wL (U.tk d.1) d.2.1 x++[(q26_2 x d)],true)=(U.wL (U.tk d.1) d.2.1 a,true)/\a<=(q26_1 d).length/\(q26_1 d).length-a<(q26_1 d).length-x))/\((U.jgg d.2.1 (x:Int)&& !false)=true->false=true->U.wL (U.tk d.1) d.2.1 x++[(q26_2 x d)]=U.jh2 (U.tk d.1) d.2.1)/\((U.jgg d.2.1 (x:Int)&& !false)=false->jz ((x:Int)+1)/\∃(a:Nat),(q26_3 x a)/\(U.wL (U.tk d.1) d.2.1 x++[(q26_2 x d)],false)=(U.wL (U.tk d.1) d.2.1 a,true)/\a<=(q26_1 d).length/\(q26_1 d).length-a<(q26_1 d).length-x))/\(U.jgg d.2.1 (x:Int)=false->((U.jgg d.2.1 (x:Int)&& !false)=true->true=true->U.wL (U.tk d.1) d.2.1 x=U.jh2 (U.tk d.1) d.2.1)/\((U.jgg d.2.1 (x:Int)&& !false)=false->jz ((x:Int)+1)/\∃(a:Nat),(q26_3 x a)/\(U.wL (U.tk d.1) d.2.1 x,true)=(U.wL (U.tk d.1) d.2.1 a,true)/\a<=(q26_1 d).length/\(q26_1 d).length-a<(q26_1 d).length-x)))/\(decide ((x:Int)<(↑(q26_0 d).1.2.1.length:Int))=false->true=true->U.wL (U.tk d.1) d.2.1 x=U.jh2 (U.tk d.1) d.2.1))
theorem jbE:(jB9 (ctx 28 [(190,jb4)] []) (z8 Tryz.f189) [.int,tPe] [.ref (.ptr tTk),.ref (.uint .u64)] LM (fun d=>[d.1.isSome=true,(U.jh (U.tc (U.tk d.1))).length<=60]) (fun d _=>jyd d) (fun d l=>hkY [.int,tPe] l [24] (fun q=>∃rest,LM d (q++rest)) (fun _=>none)))=yb:=by kernel_rfl
def jV:jfi:=⟨[.val (.ptr tTk),.val (.uint .u64)],fun _=>[],189,[.ptr tTk,.uint .u64],fun d=>(d.1,d.2.1,())⟩
def gD:Prop:=∀(d:Option (CrD×JbD×LwD×Unit)×Int×Unit),d=d
theorem jdx:(jBw (ctx 6 [] []) (fun _=>none) Tryz.f155 (z8 Tryz.f155) jV)=gD:=by kernel_rfl
def jvh (sv:SV):Option (Prop×(List (Ty.st [.int,tPe]).Data->Prop)):=match sv with
 | .clo 189 [.ep b t,.ep c s]=>(match zA b (.ptr tTk) t,zA c (.uint .u64) s with
  |some a,some d=>some ((a.isSome=true/\(U.jh (U.tc (U.tk a))).length<=60),fun xs=>xs=U.jh2 (U.tk a) d)
  |_,_=>none)
 |_=>none
def jzk:jrH [.int,tPe]:={ps:=[.ref (.ptr tTk),.ref .int,.ref .int,.own (.box 4 [.dat .bool]) true],slots:=[4,6,7,8],dst:=34,pre:=fun _=>[],G:=fun d q=>((d.2.2.2.1.1||U.qw (U.tk d.1) d.2.1 d.2.2.1 q,()),()),stop:=fun d q=>U.qw (U.tk d.1) d.2.1 d.2.2.1 q,seq:=jvh}
def jjx:Nat->Option ((ts:List Ty)×jrH ts):=fun r=>match r with
 |3=>some ⟨[.int,tPe],jzk⟩
 |_=>none
def jbq:j9:=⟨[.val (.ptr tTk),.val (.uint .u64),.val .int,.val .int],[.bool],false,
 fun d=>[d.1.isSome=true,U.yt (U.tk d.1),0<=d.2.2.1,d.2.2.1<U.la (U.tc (U.tk d.1)),0<=d.2.2.2.1,d.2.2.2.1<U.la (U.tc (U.tk d.1))],fun d=>(U.jcF (U.tk d.1) d.2.1 d.2.2.1 d.2.2.2.1,())⟩
abbrev q28_0 (d:Option (CrD×JbD×LwD×Unit)×Int×Int×Int×Unit)(x:Int×PeD×Unit):=((jQ (((0:Int),[],[],()),((0:Int),(0:Int),(0:Int),(0:Int),(0:Int),(0:Int),()),((0:Int),(0:Int),false,()),()) d.1).2.2.1.1<=min (nth x.2.1.1 d.2.2.1.toNat) (nth x.2.1.1 d.2.2.2.1.toNat))
def jbm:Prop:=∀(d:Option (CrD×JbD×LwD×Unit)×Int×Int×Int×Unit),d.1.isSome=true->U.yt (U.tk d.1)->0<=d.2.2.1->d.2.2.1<U.la (U.tc (U.tk d.1))->0<=d.2.2.2.1->d.2.2.2.1<U.la (U.tc (U.tk d.1))->(d.1.isSome=true/\(U.jh (U.tc (U.tk d.1))).length<=60)/\True/\(d.1,d.2.2.1,d.2.2.2.1,(false||U.qw (U.tk d.1) d.2.2.1 d.2.2.2.1 [],()),())=(d.1,d.2.2.1,d.2.2.2.1,(false,()),())/\(∀(q:List (Int×PeD×Unit)) (x:Int×PeD×Unit) (rest:List (Int×PeD×Unit)),q++x::rest=U.jh2 (U.tk d.1) d.2.1->wB (fun(a:List (Int×PeD×Unit))=>U.qw (U.tk d.1) d.2.2.1 d.2.2.2.1 a) q->0<=d.2.2.1/\d.2.2.1<(x.2.1.1.length:Int)/\0<=d.2.2.2.1/\d.2.2.2.1<(x.2.1.1.length:Int)/\d.1.isSome=true/\(decide (q28_0 d x)=true->U.qw (U.tk d.1) d.2.2.1 d.2.2.2.1 (q++[x])=true/\((true,()),())=((false||U.qw (U.tk d.1) d.2.2.1 d.2.2.2.1 (q++[x]),()),()))/\(decide (q28_0 d x)=false->U.qw (U.tk d.1) d.2.2.1 d.2.2.2.1 (q++[x])=false/\((false||U.qw (U.tk d.1) d.2.2.1 d.2.2.2.1 q,()),())=((false||U.qw (U.tk d.1) d.2.2.1 d.2.2.2.1 (q++[x]),()),())))/\(∀(xs:List (Int×PeD×Unit)),xs=U.jh2 (U.tk d.1) d.2.1->wB (fun(b:List (Int×PeD×Unit))=>U.qw (U.tk d.1) d.2.2.1 d.2.2.2.1 b) xs->(false,())=(U.jcF (U.tk d.1) d.2.1 d.2.2.1 d.2.2.2.1,()))/\∀(q:List (Int×PeD×Unit)) (x:Int×PeD×Unit) (rest:List (Int×PeD×Unit)),q++x::rest=U.jh2 (U.tk d.1) d.2.1->wB (fun(c:List (Int×PeD×Unit))=>U.qw (U.tk d.1) d.2.2.1 d.2.2.2.1 c) q->U.qw (U.tk d.1) d.2.2.1 d.2.2.2.1 (q++[x])=true->(false||U.qw (U.tk d.1) d.2.2.1 d.2.2.2.1 (q++[x]),())=(U.jcF (U.tk d.1) d.2.1 d.2.2.1 d.2.2.2.1,())
theorem jec:(ju3 (jrS 33 [] [] [(155,jV)] []) jbq (fun _ _=>none) (hkC (jrS 33 [] [] [(155,jV)] []) (fun _=>none) jjx [] []) Tryz.f192 (z8 Tryz.f192))=jbm:=by kernel_rfl
end Go.X
namespace Go.X
open Go.Proofs
theorem jl5:jjo:=by
 rintro⟨l,x,⟨⟩⟩ d;refine⟨⟨0,⟨⟨rfl,trivial⟩,trivial⟩,jHR _,fun b a=>by omega⟩,fun i hi=>⟨fun h=> ?_,fun h=> ?_⟩⟩
 .have h:i<l.length:=(by simpa using h);simp only[jHQ] at*;refine⟨by omega,by omega,fun a=> ?_,fun a=>⟨L.in64 (by omega) (by omega),i+1,⟨⟨by simp,trivial⟩,trivial⟩,⟨by omega,fun b c=> ?_⟩,by omega⟩⟩
  .rw[qm (p:=fun y=>decide (y=x)) h hi.2 (by have:=of_decide_eq_true a;rw[<-this];exact decide_eq_true rfl)]
  .by_cases e:b=i
   .subst e;exact decide_eq_false (fun e=>of_decide_eq_false a e.symm)
   .exact hi.2 b (by omega)
 .have h:l.length<=i:=(by simpa using h);rw[wg (p:=fun y=>decide (y=x)) h hi.2]
theorem jka:zm PR 145 jjD:=kH jls jl5 Tryz.func145 kcN koN
theorem jhr:jfp:=by
 rintro⟨l,x,⟨⟩⟩;exact congrArg (·,()) (jcJ (fun y=>decide (y=x)) l)
theorem qt:zm PR 105 jfE:=j8 jhr Tryz.func105 (kcC jka kcN) koN
theorem je2 {c:CrD} {j:JbD} (h:U.kl c j=0):U.js c=true/\U.za c j=true:=by
 unfold U.kl at h
 split at h
 .omega
 .split at h
  .omega
  .rename_i a b;exact⟨by simpa using a,by simpa using b⟩
theorem jy {c:CrD} (h:U.js c=true):2<=U.la c/\U.la c<=5/\(U.jh c).length<=8/\(U.wu c).length=4/\(∀p∈U.jh c,U.gw (U.la c) p=true)/\∀l∈U.wu c,U.jaf l=true:=by
 unfold U.js at h;simp only[jHK,decide_eq_true_eq,jIl] at h;exact⟨h.1.1,h.1.2.1,h.1.2.2.1,h.1.2.2.2,h.2.1,h.2.2⟩
theorem jcG {c:CrD} {j:JbD} (h:U.za c j=true):(0<=U.jrR j/\U.jrR j<U.la c)/\(0<=U.jmW j/\U.jmW j<U.la c)/\U.jrR j≠U.jmW j/\(0<=U.jtB j/\U.jtB j<=7)/\(0<=U.jrQ j/\U.jrQ j<=3)/\(1<=U.jCE j/\U.jCE j<=8):=by
 unfold U.za at h;have h:=of_decide_eq_true h;obtain⟨d,m,e,n,f,_,_,g,i,k,l,a,b⟩:=h;exact⟨⟨d,by omega⟩,⟨e,by omega⟩,f,⟨g,i⟩,⟨k,l⟩,a,b⟩
theorem jzC {c:CrD} {j:JbD} (h:U.kl c j=0):U.jmH c j=some (c,j,U.yM c j,())/\U.yt (c,j,U.yM c j,()):=by
 obtain⟨a,b⟩:=je2 h;exact⟨by unfold U.jmH;rw[if_pos h],a,b,rfl⟩
theorem jCO:jyt:=by
 rintro⟨c,j,⟨⟩⟩;refine⟨fun h=> ?_,fun h=> ?_⟩
 .have h:U.kl c j≠0:=of_decide_eq_true h;simp only;unfold U.jmH;rw[if_neg h]
 .have h:U.kl c j=0:=(by simpa using h);obtain⟨b,d⟩:=je2 h;obtain⟨_,_,_,a,_⟩:=jy b;obtain⟨_,_,_,_,hk,_⟩:=jcG d;have hk:0<=j.2.2.2.2.1/\j.2.2.2.2.1<=3:=hk;have a:c.2.2.1.length=4:=a;refine⟨hk.1,by simp only;omega,?_⟩;simp only;rw[(jzC h).1,h];rfl
theorem jqn:zm PR 117 jyV:=j8 jCO Tryz.func117 (kcC jmI kcN) koN
theorem jhh (t:TkD) (s:Int) (n:Nat):U.wL t s (n+1)=U.wL t s n++(if U.jgg s (n:Int)=true then[((n:Int),nth (U.jh (U.tc t)) n,())] else[]):=by
 unfold U.wL;rw[L.range_filter_succ,jIz]
 split<;>simp
theorem jAb (t:TkD) (s:Int) {n m:Nat} (h:n<=m):∃rest,U.wL t s n++rest=U.wL t s m:=by
 induction m with
 |zero=>
  have:n=0:=(by omega);subst this;exact⟨[],by simp⟩
 |succ m b=>
  by_cases e:n=m+1
  .subst e;exact⟨[],by simp⟩
  .obtain⟨r,a⟩:=b (by omega);rw[jhh,<-a];exact⟨r++_,by rw[jH3]⟩
theorem jgh:yb:=by
 unfold yb q26_3 q26_2 q26_1 q26_0;rintro⟨(_|t),s,⟨⟩⟩ l i e
 .cases i
 have e:(U.jh (U.tc t)).length<=60:=e;refine⟨rfl,fun _=>⟨⟨0,⟨⟨rfl,trivial⟩,trivial⟩,rfl,jHR _⟩,fun x g=> ?_⟩⟩;have g:x<=(U.jh (U.tc t)).length:=g;have c:U.tk (some t)=t:=rfl;refine⟨fun h=> ?_,fun h=> ?_⟩
 .have h:x<(U.jh (U.tc t)).length:=by
   have:=of_decide_eq_true h;have this:(x:Int)<((U.jh (U.tc t)).length:Int):=this;omega
  have j:(x:Int)<((U.jh (U.tc t)).length:Int):=(by omega);refine⟨by omega,j,by omega,by omega,fun b=> ?_,fun b=> ?_⟩
  .have d:U.wL t s (x+1)=U.wL t s x++[((x:Int),nth (U.jh (U.tc t)) x,())]:=(by rw[jhh,if_pos b]);obtain⟨r,f⟩:=jAb t s (show x+1<=(U.jh (U.tc t)).length by omega);refine⟨rfl,⟨r,by rw[d] at f;exact f⟩,⟨fun a=>absurd a (by rw[Bool.not_true,Bool.and_false];simp),fun _=>⟨L.in64 (by omega) (by omega),x+1,⟨⟨by omega,trivial⟩,trivial⟩,?_,(show x+1<=(U.jh (U.tc t)).length by omega),(show(U.jh (U.tc t)).length-(x+1)<(U.jh (U.tc t)).length-x by omega)⟩⟩,
    fun _ a=>(by cases a),fun a=> ?_⟩
   .rw[c,d];rfl
   .rw[Bool.not_false,Bool.and_true] at a;exact absurd b (by simp only at a⊢;rw[a];simp)
  .have d:U.wL t s (x+1)=U.wL t s x:=by
    rw[jhh,if_neg (by simp only at b⊢;rw[b];simp),jIc]
   refine⟨fun a=> ?_,fun _=>⟨L.in64 (by omega) (by omega),x+1,⟨⟨by omega,trivial⟩,trivial⟩,?_,(show x+1<=(U.jh (U.tc t)).length by omega),(show(U.jh (U.tc t)).length-(x+1)<(U.jh (U.tc t)).length-x by omega)⟩⟩
   .rw[Bool.not_false,Bool.and_true] at a;exact absurd a (by simp only at b⊢;rw[b];simp)
   .rw[c,d]
 .have h:(U.jh (U.tc t)).length<=x:=by
   have:=of_decide_eq_false h;have this:¬(x:Int)<((U.jh (U.tc t)).length:Int):=this;omega
  intro _;rw[show x=(U.jh (U.tc t)).length by omega];rfl
theorem jsV {H:Imm} {lb:Array Value} {d:PD [.ref (.ptr tTk),.ref (.uint .u64)]} (g:pvs PR H [.ref (.ptr tTk),.ref (.uint .u64)] lb.toList d) (a:d.1.isSome=true) (b:(U.jh (U.tc (U.tk d.1))).length<=60):jDt PR H [.int,tPe] (LM d) (.func (.func 189) #[] lb):=
 jDG (C:=ctx 28 [(190,jb4)] []) (jle ⟨fun _=>jqm,trivial⟩ trivial) mixed Tryz.func189 (by kernel_rfl) (by kernel_rfl) (by kernel_rfl) (by kernel_rfl) (by decide) (jbE.mpr jgh) (fun d l B0 R h c e f=>jGc c f) g ⟨a,b,trivial⟩
theorem jiM:gD:=by intro d;rfl
theorem gX:jrK PR 155 jV:=jGd (jdx.mpr jiM) Tryz.func155 (by kernel_rfl) (by kernel_rfl) (by kernel_rfl) (by kernel_rfl) trivial trivial
theorem jEO:∀(f:Nat) (p:Nat×jff),jJ ([]:List (Nat×Nat×jff)) f=some p->ROK PR f p.2:=fun _ _ h=>by cases h
theorem jqH {sv:SV} {h:Prop} {L:List (Ty.st [.int,tPe]).Data->Prop} {v:Value} {ρ:Env} (a:jvh sv=some (h,L)) (b:h) (g:SV.den PR ρ sv v):jDt PR ρ.H [.int,tPe] L v:=by
 unfold jvh at a
 split at a
 case h_2=>cases a
 rename_i o t p s
 split at a
 case h_2=>cases a
 rename_i w u n f;simp only[Option.some.injEq,Prod.mk.injEq] at a;obtain⟨rfl,rfl⟩:=a;obtain⟨e,rfl⟩:=jq n;subst e;obtain⟨i,rfl⟩:=jq f;subst i;simp only[SV.den,SV.denL] at g;obtain⟨lb,rfl,x,r,m,j,y,q,c,k,l⟩:=g;exact jsV (d:=(t,s,())) (by rw[m,c,l];exact⟨j,k,rfl⟩) b.1 b.2
theorem jga (t:TkD) (a b:Int) (q:List (Int×PeD×Unit)) (x:Int×PeD×Unit):U.qw t a b (q++[x])=U.jn t a b x:=by
 unfold U.qw;rw[List.getLast?_append];simp
theorem jsl {t:TkD} {a b:Int} {q:List (Int×PeD×Unit)} (h:wB (fun q=>U.qw t a b q) q):q.any (U.jn t a b)=false:=by
 rw[jIv];intro x c;obtain⟨u,v,rfl⟩:=List.append_of_mem c;have:=h u x v rfl;simp only[jga] at this;rw[this];simp
theorem jxa {t:TkD} {s:Int} {x:Int×PeD×Unit} (h:x∈U.jh2 t s):x.2.1∈U.jh (U.tc t):=by
 unfold U.jh2 U.wL at h;obtain⟨i,hi,rfl⟩:=jIk.1 h;have:=jHZ.1 (jH7.1 hi).1;exact L.mem_nth this
theorem jEL {n:Int} {p:PeD} (h:U.gw n p=true):((U.lv p).length:Int)=n:=by
 unfold U.gw at h;simp only[jHK,decide_eq_true_eq] at h;exact h.1.1
theorem jkJ:jbm:=by
 unfold jbm q28_0;rintro⟨(_|t),s,a,b,⟨⟩⟩ r l v f w g
 .cases r
 obtain⟨c1,c2,A⟩:=l;have c1:U.js (U.tc t)=true:=c1;obtain⟨B,C,D,E,p,F⟩:=jy c1;have k:(U.jh (U.tc t)).length<=60:=(by omega);have c:U.tk (some t)=t:=rfl;refine⟨⟨rfl,k⟩,trivial,rfl,fun q x rest i e=> ?_,fun xs j e=> ?_,fun q x rest i e d=> ?_⟩
 .have z:x∈U.jh2 t s:=(by rw[c] at i;rw[<-i];simp);have o:=jEL (p _ (jxa z));have o:((x.2.1.1.length:Nat):Int)=U.la (U.tc t):=o;have f:a<U.la (U.tc t):=f;have g:b<U.la (U.tc t):=g;have m:U.qw t a b q=false:=by
   cases n:q.getLast? with
   |none=>unfold U.qw;rw[n]
   |some y=>
    obtain⟨u,rfl⟩:=List.getLast?_eq_some_iff.1 n;have:=e u y [] rfl;exact this
  refine⟨v,by simp only;omega,w,by simp only;omega,rfl,fun h=> ?_,fun h=> ?_⟩
  .have h:U.jn t a b x=true:=h;have:U.qw t a b (q++[x])=true:=(by rw[jga];exact h);rw[c];simp only;exact⟨this,by rw[this];rfl⟩
  .have h:U.jn t a b x=false:=h;have:U.qw t a b (q++[x])=false:=(by rw[jga];exact h);rw[c];simp only;exact⟨this,by rw[this,m]⟩
 .rw[c] at j e;subst j;have:=jsl e;simp only;rw[c];unfold U.jcF;rw[this]
 .rw[c] at i d⊢;simp only at d⊢;rw[d];unfold U.jcF;rw[<-i];rw[jga] at d;simp[d]
theorem jrp:(jrS 33 [] [] [(155,jV)] []).ok PR:=juk trivial trivial ⟨gX,trivial⟩ trivial
theorem jiD:zm PR 192 jbq:=
 jzm (body:=z8 Tryz.f192) (C:=jrS 33 [] [] [(155,jV)] []) (hk:=hkC (jrS 33 [] [] [(155,jV)] []) (fun _=>none) jjx [] []) jrp mixed Tryz.func192 (by kernel_rfl) (by kernel_rfl) (by kernel_rfl) (by decide)
  (fun B=>jm3 jrp mixed (fun k ts rs sv d L v ρ hk c a b=>by
   unfold jjx at hk
   split at hk
   case h_2=>cases hk
   simp only[Option.some.injEq] at hk
   cases hk
   exact jqH c a b) jEO B) (jec.mpr jkJ)
end Go.X
namespace Go.X
open Go.Proofs
namespace U
def qJ (x:Int) (N n:Nat):List Int:=List.replicate n x++List.replicate (N-n) 0
def jrP (t:TkD) (c:Int) (a b:Nat):Bool:=jcF t c (a:Int) (b:Int)
def jbg (t:TkD) (a:Int):List Int:=jGJ (jrP t a) (la (tc t)).toNat (jmW (tj t)).toNat
def zf (t:TkD) (a:Int) (k:Nat):List Int×List Int:=qR (jrP t a) (la (tc t)).toNat (jmW (tj t)).toNat k
def qc (t:TkD) (a:Int) (x:List Int×List Int) (i:Nat):List Int×List Int:=jgE (jrP t a) (nth x.2 0).toNat x i
def jFT (t:TkD) (a:Int) (x:List Int×List Int) (lo:Nat):Prop:=jFW (jrP t a) (la (tc t)).toNat (jmW (tj t)).toNat x/\x.2≠[]/\x.2.length<=10/\lo<=10
end U
def glo (σ:St) (s:Nat):Nat:=match σ.get s with
 | .osl _ _ lo _=>lo
 |_=>0
def jnP:j9:=⟨[.val (.uint .u64),.val (.uint .u64)],[.uint .u64,.uint .u64],false,fun d=>[0<=d.1,d.1<=1000,0<=d.2.1,d.2.1<=1000],fun d=>((0:Int),d.1*d.2.1,())⟩
abbrev q29_0 (d:Int×Int×Unit):=(d.1/(2:Int)^Int.toNat 32*w4 d.2.1 (4294967295:Int)+w4 d.1 (4294967295:Int)*w4 d.2.1 (4294967295:Int)/(2:Int)^Int.toNat 32)
abbrev q29_1 (d:Int×Int×Unit):=(d.2.1/(2:Int)^Int.toNat 32)
abbrev q29_2 (d:Int×Int×Unit):=(w4 (q29_0 d) (4294967295:Int)+w4 d.1 (4294967295:Int)*(q29_1 d))
def jnB:Prop:=∀(d:Int×Int×Unit),0<=d.1->d.1<=1000->0<=d.2.1->d.2.1<=1000->(0:Int)<=32/\(32:Int)<=64/\(0:Int)<=32/\(32:Int)<=64/\0<=w4 d.1 (4294967295:Int)*w4 d.2.1 (4294967295:Int)/\w4 d.1 (4294967295:Int)*w4 d.2.1 (4294967295:Int)<=18446744073709551615/\0<=d.1/(2:Int)^Int.toNat 32*w4 d.2.1 (4294967295:Int)/\d.1/(2:Int)^Int.toNat 32*w4 d.2.1 (4294967295:Int)<=18446744073709551615/\(0:Int)<=32/\(32:Int)<=64/\0<=d.1/(2:Int)^Int.toNat 32*w4 d.2.1 (4294967295:Int)+w4 d.1 (4294967295:Int)*w4 d.2.1 (4294967295:Int)/(2:Int)^Int.toNat 32/\d.1/(2:Int)^Int.toNat 32*w4 d.2.1 (4294967295:Int)+w4 d.1 (4294967295:Int)*w4 d.2.1 (4294967295:Int)/(2:Int)^Int.toNat 32<=18446744073709551615/\(0:Int)<=32/\(32:Int)<=64/\0<=w4 d.1 (4294967295:Int)*(q29_1 d)/\w4 d.1 (4294967295:Int)*(q29_1 d)<=18446744073709551615/\0<=w4 (q29_0 d) (4294967295:Int)+w4 d.1 (4294967295:Int)*(q29_1 d)/\w4 (q29_0 d) (4294967295:Int)+w4 d.1 (4294967295:Int)*(q29_1 d)<=18446744073709551615/\0<=d.1/(2:Int)^Int.toNat 32*(q29_1 d)/\d.1/(2:Int)^Int.toNat 32*(q29_1 d)<=18446744073709551615/\0<=d.1/(2:Int)^Int.toNat 32*(q29_1 d)+(q29_0 d)/(2:Int)^Int.toNat 32/\d.1/(2:Int)^Int.toNat 32*(q29_1 d)+(q29_0 d)/(2:Int)^Int.toNat 32<=18446744073709551615/\(0:Int)<=32/\(32:Int)<=64/\0<=d.1/(2:Int)^Int.toNat 32*(q29_1 d)+(q29_0 d)/(2:Int)^Int.toNat 32+(q29_2 d)/(2:Int)^Int.toNat 32/\d.1/(2:Int)^Int.toNat 32*(q29_1 d)+(q29_0 d)/(2:Int)^Int.toNat 32+(q29_2 d)/(2:Int)^Int.toNat 32<=18446744073709551615/\0<=d.1*d.2.1/\d.1*d.2.1<=18446744073709551615/\(d.1/(2:Int)^Int.toNat 32*(q29_1 d)+(q29_0 d)/(2:Int)^Int.toNat 32+(q29_2 d)/(2:Int)^Int.toNat 32,d.1*d.2.1,())=((0:Int),d.1*d.2.1,())
def jsM:j9:=⟨[.val (.uint .u64),.val (.uint .u64)],[.uint .u64,.uint .u64],false,fun d=>[0<=d.1,d.1<=1000,0<=d.2.1,d.2.1<=1000],fun d=>((0:Int),d.1*d.2.1,())⟩
def jsg:Prop:=∀(d:Int×Int×Unit),0<=d.1->d.1<=1000->0<=d.2.1->d.2.1<=1000->(false=true->False)/\(false=false->0<=d.1/\d.1<=1000/\0<=d.2.1/\d.2.1<=1000/\((0:Int),d.1*d.2.1,())=((0:Int),d.1*d.2.1,()))
def jiz:zQ:=⟨[.val (.slice .int),.val .int],[.cl (.row 3 .int .no)],fun d=>[d.1.length=1,0<=d.2.1,d.2.1<=1000],fun d=>((List.replicate d.2.1.toNat (nth d.1 0),()),())⟩
def jiU:Ann:=fun r=>match r with
 |8=>some fun σ=>{X:=Nat,sl:=fun n=>[(8,.dat .int (n:Int))],ob:=fun n=>[(7,some (.row 3 .int false .no (U.qJ (nth (gd (.slice .int) σ 0) 0) (gd .int σ 1).toNat n)))],inv:=fun n=>n<=(gd .int σ 1).toNat/\(1<=n\/(gd .int σ 1).toNat=0),mu:=fun n=>(gd .int σ 1).toNat-n}
 |_=>none
abbrev q31_3 (d:List Int×Int×Unit):=(d.1.length:Int)
abbrev q31_1 (d:List Int×Int×Unit):=(List.replicate ((q31_3 d)*d.2.1).toNat (0:Int))
abbrev q31_4 (d:List Int×Int×Unit)(x:Nat):=(U.qJ (nth d.1 0) d.2.1.toNat x)
abbrev q31_0 (d:List Int×Int×Unit)(x:Nat):=(↑(q31_4 d x).length:Int)
abbrev q31_2 (x:Nat)(d:List Int×Int×Unit):=(List.take ((x:Int).toNat-Int.toNat 0) (List.drop (Int.toNat 0) (q31_4 d x)))
abbrev q31_5 (d:List Int×Int×Unit)(x:Nat):=((q31_0 d x).toNat-(x:Int).toNat)
abbrev q31_6 (d:List Int×Int×Unit):=(decide ((0:Int)<0)||decide (9223372036854775807<(q31_3 d)*d.2.1))
def jii:Prop:=∀(d:List Int×Int×Unit),d.1.length=1->0<=d.2.1->d.2.1<=1000->(decide (d.2.1<0)=true->False)/\(decide (d.2.1<0)=false->d.1.length<4611686018427387904->0<=(q31_3 d)/\(q31_3 d)<=18446744073709551615/\0<=d.2.1/\d.2.1<=18446744073709551615/\0<=(q31_3 d)/\(q31_3 d)<=1000/\0<=d.2.1/\d.2.1<=1000/\((q31_6 d)=true->False)/\((q31_6 d)=false->jz ((q31_3 d)*d.2.1)/\0<=(q31_3 d)*d.2.1/\(q31_3 d)*d.2.1=(q31_3 d)*d.2.1/\((q31_3 d)*d.2.1).toNat*8<=140737488355328/\0+(q31_1 d).length<=(q31_1 d).length/\(∃(x:Nat),(((↑(List.take (q31_1 d).length d.1).length:Int)=(x:Int)/\True)/\jym (q31_1 d) 0 (q31_1 d).length d.1=U.qJ (nth d.1 0) d.2.1.toNat x/\True)/\x<=d.2.1.toNat/\(1<=x\/d.2.1.toNat=0))/\∀(x:Nat),x<=d.2.1.toNat/\(1<=x\/d.2.1.toNat=0)->(q31_4 d x).length<4611686018427387904->(decide ((x:Int)<(q31_0 d x))=true->0<=(x:Int)/\(x:Int)<=(q31_0 d x)/\(q31_0 d x)<=(q31_0 d x)/\(0:Int)<=0/\0<=(x:Int)/\(x:Int)<=(q31_0 d x)/\(x:Int).toNat+(q31_5 d x)<=(q31_4 d x).length/\jz ((x:Int)+(↑(List.take (q31_5 d x) (q31_2 x d)).length:Int))/\∃(a:Nat),(((x:Int)+(↑(List.take (q31_5 d x) (q31_2 x d)).length:Int)=(a:Int)/\True)/\jym (q31_4 d x) (x:Int).toNat (q31_5 d x) (q31_2 x d)=U.qJ (nth d.1 0) d.2.1.toNat a/\True)/\(a<=d.2.1.toNat/\(1<=a\/d.2.1.toNat=0))/\d.2.1.toNat-a<d.2.1.toNat-x)/\(decide ((x:Int)<(q31_0 d x))=false->(U.qJ (nth d.1 0) d.2.1.toNat x,())=(List.replicate d.2.1.toNat (nth d.1 0),())/\()=())))
def wT:j9:=⟨[.val (.ptr tTk),.val (.uint .u64)],[.slice .int],false,fun d=>[d.1.isSome=true,U.yt (U.tk d.1)],fun d=>(U.jbg (U.tk d.1) d.2.1,())⟩
def joY:Ann:=fun r=>match r with
 |4=>some fun σ=>{X:=Nat×List Int,sl:=fun x=>[(6,.osl 6 .int x.2.length (U.zf (U.tk (gd (.ptr tTk) σ 0)) (gd (.uint .u64) σ 1) x.1).2.length)],ob:=fun x=>[(5,some (.row 3 .int false .no (U.zf (U.tk (gd (.ptr tTk) σ 0)) (gd (.uint .u64) σ 1) x.1).1)),(6,some (.row 3 .int false .no (x.2++(U.zf (U.tk (gd (.ptr tTk) σ 0)) (gd (.uint .u64) σ 1) x.1).2)))],inv:=fun x=>x.2.length<=x.1/\x.1<=(U.la (U.tc (U.tk (gd (.ptr tTk) σ 0)))).toNat,mu:=fun x=>(U.la (U.tc (U.tk (gd (.ptr tTk) σ 0)))).toNat+1-x.1}
 |7=>some fun σ=>{X:=Nat×List Int,sl:=fun x=>[(28,.any),(35,.dat .int (x.1:Int)),(6,.osl 6 .int x.2.length (U.qc (U.tk (gd (.ptr tTk) σ 0)) (gd (.uint .u64) σ 1) (gr .int σ 5,(gr .int σ 6).drop (glo σ 6)) x.1).2.length)],ob:=fun x=>[(5,some (.row 3 .int false .no (U.qc (U.tk (gd (.ptr tTk) σ 0)) (gd (.uint .u64) σ 1) (gr .int σ 5,(gr .int σ 6).drop (glo σ 6)) x.1).1)),(6,some (.row 3 .int false .no (x.2++(U.qc (U.tk (gd (.ptr tTk) σ 0)) (gd (.uint .u64) σ 1) (gr .int σ 5,(gr .int σ 6).drop (glo σ 6)) x.1).2)))],inv:=fun x=>x.1<=(gr .int σ 5).length/\x.2.length<=glo σ 6/\U.jFT (U.tk (gd (.ptr tTk) σ 0)) (gd (.uint .u64) σ 1) (gr .int σ 5,(gr .int σ 6).drop (glo σ 6)) (glo σ 6),mu:=fun x=>(gr .int σ 5).length-x.1}
 |2000011=>some fun σ=>{X:=Unit,sl:=fun _=>[],ob:=fun _=>[],inv:=fun _=>True,mu:=fun _=>0}
 |_=>none
abbrev q32_1 (d:Option (CrD×JbD×LwD×Unit)×Int×Unit):=(jQ (((0:Int),[],[],()),((0:Int),(0:Int),(0:Int),(0:Int),(0:Int),(0:Int),()),((0:Int),(0:Int),false,()),()) d.1)
abbrev q32_3 (d:Option (CrD×JbD×LwD×Unit)×Int×Unit)(x:Nat×List Int):=(U.zf (U.tk d.1) d.2.1 x.1)
abbrev q32_2 (d:Option (CrD×JbD×LwD×Unit)×Int×Unit)(x:Nat×List Int):=((q32_3 d x).1,List.drop x.2.length (x.2++(q32_3 d x).2))
abbrev q32_0 (d:Option (CrD×JbD×LwD×Unit)×Int×Unit)(x:Nat×List Int)(a:Nat×List Int):=(U.qc (U.tk d.1) d.2.1 (q32_2 d x) a.1)
abbrev q32_4 (d:Option (CrD×JbD×LwD×Unit)×Int×Unit)(x:Nat×List Int)(a:Nat×List Int):=(nth (q32_0 d x a).1 (a.1:Int).toNat<0)
abbrev q32_5 (a:Nat×List Int):=(a.2.length+Int.toNat 0)
abbrev q32_6 (d:Option (CrD×JbD×LwD×Unit)×Int×Unit)(x:Nat×List Int)(a:Nat×List Int):=(U.qc (U.tk d.1) d.2.1 (q32_2 d x) a.1)
def jnw:Prop:=∀(d:Option (CrD×JbD×LwD×Unit)×Int×Unit),d.1.isSome=true->U.yt (U.tk d.1)->d.1.isSome=true/\[(-1:Int)].length=1/\(0:Int)<=(q32_1 d).1.1/\(q32_1 d).1.1<=1000/\d.1.isSome=true/\(0:Int)<=(q32_1 d).2.1.2.1/\(q32_1 d).2.1.2.1<(↑(List.replicate (q32_1 d).1.1.toNat (nth [(-1:Int)] 0)).length:Int)/\d.1.isSome=true/\(∃(x:Nat×List Int),(((x.2.length=0/\(q32_3 d x).2.length=[(q32_1 d).2.1.2.1].length)/\True)/\(List.replicate (q32_1 d).1.1.toNat (nth [(-1:Int)] 0)).set (q32_1 d).2.1.2.1.toNat 0=(q32_3 d x).1/\[(q32_1 d).2.1.2.1]=x.2++(q32_3 d x).2/\True)/\x.2.length<=x.1/\x.1<=(U.la (U.tc (U.tk d.1))).toNat)/\∀(x:Nat×List Int),x.2.length<=x.1/\x.1<=(U.la (U.tc (U.tk d.1))).toNat->(q32_3 d x).2.length<4611686018427387904->(decide ((0:Int)<(↑(q32_3 d x).2.length:Int))=true->(q32_3 d x).1.length<4611686018427387904->(∃(a:Nat×List Int),((0=(a.1:Int)/\(x.2.length=a.2.length/\(q32_3 d x).2.length=(q32_0 d x a).2.length)/\True)/\(q32_3 d x).1=(q32_0 d x a).1/\x.2++(q32_3 d x).2=a.2++(q32_0 d x a).2/\True)/\a.1<=(q32_3 d x).1.length/\a.2.length<=x.2.length/\U.jFT (U.tk d.1) d.2.1 (q32_2 d x) x.2.length)/\∀(a:Nat×List Int),a.1<=(q32_3 d x).1.length/\a.2.length<=x.2.length/\U.jFT (U.tk d.1) d.2.1 (q32_2 d x) x.2.length->(decide ((a.1:Int)<(↑(q32_3 d x).1.length:Int))=true->0<=(a.1:Int)/\(a.1:Int)<(↑(q32_0 d x a).1.length:Int)/\(decide (q32_4 d x a)=true->(0:Int)<=0)/\(decide (q32_4 d x a)=true->(0:Int)<(↑(q32_0 d x a).2.length:Int))/\(decide (q32_4 d x a)=true->d.1.isSome=true)/\(decide (q32_4 d x a)=true->U.yt (U.tk d.1))/\(decide (q32_4 d x a)=true->0<=nth (a.2++(q32_0 d x a).2) (q32_5 a))/\(decide (q32_4 d x a)=true->nth (a.2++(q32_0 d x a).2) (q32_5 a)<U.la (U.tc (U.tk d.1)))/\(decide (q32_4 d x a)=true->0<=(a.1:Int))/\(decide (q32_4 d x a)=true->(a.1:Int)<U.la (U.tc (U.tk d.1)))/\((decide (q32_4 d x a)&&U.jcF (U.tk d.1) d.2.1 (nth (a.2++(q32_0 d x a).2) (q32_5 a)) (a.1:Int))=true->(0:Int)<=0/\(0:Int)<(↑(q32_0 d x a).2.length:Int)/\0<=nth (a.2++(q32_0 d x a).2) (q32_5 a)/\nth (a.2++(q32_0 d x a).2) (q32_5 a)<(↑(q32_0 d x a).1.length:Int)/\jz (nth (q32_0 d x a).1 (nth (a.2++(q32_0 d x a).2) (q32_5 a)).toNat+1)/\0<=(a.1:Int)/\(a.1:Int)<(↑(q32_0 d x a).1.length:Int)/\a.2.length+(q32_0 d x a).2.length=(a.2++(q32_0 d x a).2).length/\0<(q32_0 d x a).2.length/\a.2.length+(q32_0 d x a).2.length+[(a.1:Int)].length<4611686018427387904/\((q32_0 d x a).2.length+[(a.1:Int)].length)*8<=140737488355328/\∀(pre:List Int),pre.length<=a.2.length->jz ((a.1:Int)+1)/\∃(b:Nat×List Int),(((a.1:Int)+1=(b.1:Int)/\(pre.length=b.2.length/\(q32_0 d x a).2.length+[(a.1:Int)].length=(q32_6 d x b).2.length)/\True)/\pre++List.drop a.2.length (a.2++(q32_0 d x a).2)++[(a.1:Int)]=b.2++(q32_6 d x b).2/\(q32_0 d x a).1.set (a.1:Int).toNat (nth (q32_0 d x a).1 (nth (a.2++(q32_0 d x a).2) (q32_5 a)).toNat+1)=(q32_6 d x b).1/\True)/\(b.1<=(q32_3 d x).1.length/\b.2.length<=x.2.length/\U.jFT (U.tk d.1) d.2.1 (q32_2 d x) x.2.length)/\(q32_3 d x).1.length-b.1<(q32_3 d x).1.length-a.1)/\((decide (q32_4 d x a)&&U.jcF (U.tk d.1) d.2.1 (nth (a.2++(q32_0 d x a).2) (q32_5 a)) (a.1:Int))=false->jz ((a.1:Int)+1)/\∃(b:Nat×List Int),(((a.2.length=b.2.length/\(q32_0 d x a).2.length=(q32_6 d x b).2.length)/\(a.1:Int)+1=(b.1:Int)/\True)/\a.2++(q32_0 d x a).2=b.2++(q32_6 d x b).2/\(q32_0 d x a).1=(q32_6 d x b).1/\True)/\(b.1<=(q32_3 d x).1.length/\b.2.length<=x.2.length/\U.jFT (U.tk d.1) d.2.1 (q32_2 d x) x.2.length)/\(q32_3 d x).1.length-b.1<(q32_3 d x).1.length-a.1))/\(decide ((a.1:Int)<(↑(q32_3 d x).1.length:Int))=false->(0:Int)<=1/\(1:Int)<=(↑(q32_0 d x a).2.length:Int)/\(↑(q32_0 d x a).2.length:Int)<=(↑(q32_0 d x a).2.length:Int)/\∃(b:Nat×List Int),(((a.2.length+Int.toNat 1=b.2.length/\(↑(q32_0 d x a).2.length:Int).toNat-Int.toNat 1=(U.zf (U.tk d.1) d.2.1 b.1).2.length)/\True)/\(q32_0 d x a).1=(U.zf (U.tk d.1) d.2.1 b.1).1/\a.2++(q32_0 d x a).2=b.2++(U.zf (U.tk d.1) d.2.1 b.1).2/\True)/\(b.2.length<=b.1/\b.1<=(U.la (U.tc (U.tk d.1))).toNat)/\(U.la (U.tc (U.tk d.1))).toNat+1-b.1<(U.la (U.tc (U.tk d.1))).toNat+1-x.1))/\(decide ((0:Int)<(↑(q32_3 d x).2.length:Int))=false->((q32_3 d x).1,())=(U.jbg (U.tk d.1) d.2.1,()))
end Go.X
namespace Go.X
open Go.Proofs
theorem jnD {x:Int} (a:0<=x) (b:x<=4294967295):w4 x 4294967295=x:=by
 obtain⟨n,rfl⟩:∃n:Nat,x=(n:Int):=⟨x.toNat,by omega⟩;rw[show(4294967295:Int)=((4294967295:Nat):Int) from rfl,BT.uand_nat (by omega) (by omega),show(4294967295:Nat)=2^32-1 from rfl,Nat.and_two_pow_sub_one_eq_mod,Nat.mod_eq_of_lt (by omega)]
theorem jqW:jnB:=by
 unfold jnB q29_2 q29_1 q29_0;rintro⟨x,y,⟨⟩⟩ b c a d;simp only at b c a d;have f:=jnD b (by omega);have g:=jnD a (by omega);have e:=jnD (x:=0) (by omega) (by omega);have h:x/2^Int.toNat 32=0:=Int.ediv_eq_zero_of_lt b (by show x<2^32;omega);have i:y/2^Int.toNat 32=0:=Int.ediv_eq_zero_of_lt a (by show y<2^32;omega);have k:0<=x*y:=Int.mul_nonneg b a;have l:x*y<=1000*1000:=Int.mul_le_mul c d a (by omega);have c1:x*y/2^Int.toNat 32=0:=Int.ediv_eq_zero_of_lt k (by show x*y<2^32;omega);have j:(0:Int)/2^Int.toNat 32=0:=Int.zero_ediv _;simp only[f,g,h,i,Int.zero_mul,Int.mul_zero,Int.zero_add,Int.add_zero,c1,e,j]
 and_intros<;>first|omega|rfl|trivial
theorem jof:zm PR 218 jnP:=j8 jqW Tryz.func218 kcN koN
theorem jxz:jsg:=by
 rintro⟨x,y,⟨⟩⟩ a b c d;exact⟨fun h=>(by cases h),fun _=>⟨a,b,c,d,rfl⟩⟩
theorem jts:zm PR 211 jsM:=j8 jxz Tryz.func211 (kcC jof kcN) koN
theorem jov {x:Int} {N n:Nat} (h:n<=N):(U.qJ x N n).length=N:=by
 unfold U.qJ;simp;omega
theorem jqO {x:Int} {N n:Nat} (h:n<=N):(U.qJ x N n).take n=List.replicate n x:=by
 unfold U.qJ;rw[List.take_append_of_le_length (by simp),jID (by simp)]
theorem jAx {x:Int} {N n:Nat} (h:n<=N):jym (U.qJ x N n) n (N-n) (List.replicate n x)=U.qJ x N (n+min (N-n) n):=by
 unfold jym;rw[jqO h,List.take_replicate,jIG];unfold U.qJ;rw[List.drop_append,jIG,List.drop_of_length_le (by simp),jIa,List.drop_replicate,<-List.replicate_append_replicate];congr 2;omega
theorem jkO:jii:=by
 unfold jii q31_6 q31_5 q31_2 q31_0 q31_4 q31_1 q31_3;rintro⟨l,n,⟨⟩⟩ b g e;simp only at b g e;obtain⟨N,rfl⟩:∃N:Nat,n=(N:Int):=⟨n.toNat,by omega⟩;obtain⟨y,rfl⟩:∃y,l=[y]:=by
  cases l with
  |nil=>simp at b
  |cons y r=>cases r with
   |nil=>exact⟨y,rfl⟩
   |cons z r=>simp at b
 have c:(([y].length:Nat):Int)*(N:Int)=(N:Int):=(by simp);have f:nth [y] 0=y:=rfl
 dsimp only
 refine⟨fun h=> ?_,fun _ _=>⟨by simp,by simp,by omega,by omega,by simp,by simp,by omega,e,fun h=> ?_,fun _=> ?_⟩⟩
 .have:=of_decide_eq_true h;omega
 .rw[c] at h;have h:(9223372036854775807:Int)<(N:Int):=(by simpa using h);omega
 rw[c,f];simp only[jHQ,jIG];refine⟨L.in64 (by omega) (by omega),by omega,trivial,by omega,by omega,⟨min 1 N,⟨⟨?_,trivial⟩,?_,trivial⟩,by omega,by omega⟩,fun x a i=>⟨fun h=> ?_,fun h=> ?_⟩⟩
 .rw[jH6];simp only[jIi,jIq];omega
 .rcases jIV N with d|d
  .subst d;rfl
  .obtain⟨M,rfl⟩:∃M,N=M+1:=⟨N-1,by omega⟩;have:min 1 (M+1)=1:=(by omega);rw[this];simp[jym,U.qJ,List.replicate_succ]
 .have h:=of_decide_eq_true h;rw[jov a.1] at h;simp only[jov a.1,jHQ,Int.toNat_zero,List.drop_zero,Nat.sub_zero,jqO a.1,List.take_replicate,jIG];refine⟨by omega,by omega,by omega,by omega,by omega,by omega,by omega,L.in64 (by omega) (by omega),x+min (N-x) x,⟨⟨by omega,trivial⟩,jAx a.1,trivial⟩,⟨by omega,by omega⟩,by omega⟩
 .have h:=of_decide_eq_false h;rw[jov a.1] at h;have h:x=N:=(by have:=a.1;omega);subst h;refine⟨?_,trivial⟩;unfold U.qJ;rw[Nat.sub_self];simp
theorem jiI:qb PR 191 jiz:=jdY jiU jkO Tryz.func191 (kcC jts kcN) koN
theorem jEN {a b:List Int}:nth (a++b) (a.length+Int.toNat 0)=nth b 0:=by
 unfold nth;simp only[jIm,Int.toNat_zero,jIX];rw[jHV (jHM _),Nat.sub_self]
theorem jrd {t:TkD} {s:Int} (a:U.yt t):2<=U.la (U.tc t)/\U.la (U.tc t)<=5/\0<=U.jmW (U.tj t)/\U.jmW (U.tj t)<U.la (U.tc t):=by
 obtain⟨c1,c2,_⟩:=a;obtain⟨b,c,_⟩:=jy c1;obtain⟨_,⟨d,e⟩,_⟩:=jcG c2;exact⟨b,c,d,e⟩
theorem jqR:jnw:=by
 unfold jnw q32_6 q32_5 q32_4 q32_0 q32_2 q32_3 q32_1;rintro⟨(_|t),s,⟨⟩⟩ h0 m
 .cases h0
 have m:U.yt t:=m;obtain⟨l1,l2,j1,j2⟩:=jrd (s:=s) m;have w:U.tk (some t)=t:=rfl;obtain⟨n,A⟩:∃n,n=(U.la (U.tc t)).toNat:=⟨_,rfl⟩;obtain⟨v,hv⟩:∃v,v=(U.jmW (U.tj t)).toNat:=⟨_,rfl⟩;have hs:v<n:=(by omega);have Y:∀k,jFW (U.jrP t s) n v (U.zf t s k)/\((U.zf t s k).2=[]\/jqF (U.zf t s k).1+(U.zf t s k).2.length+k=n):=by
  intro k;rw[A,hv] at*;exact jjU hs k
 refine⟨rfl,rfl,(by omega:0<=U.la (U.tc t)),(by omega:U.la (U.tc t)<=1000),rfl,j1,?_,rfl,⟨(0,[]),⟨⟨⟨rfl,rfl⟩,trivial⟩,rfl,?_,trivial⟩,jHM _,jHR _⟩,fun x hx T=>⟨fun j V=> ?_,fun h=> ?_⟩⟩
 .show U.jmW (U.tj t)<(((List.replicate (U.la (U.tc t)).toNat (nth [(-1:Int)] 0)).length:Nat):Int);rw[jIG];omega
 .show[U.jmW (U.tj t)]=[]++[(((U.jmW (U.tj t)).toNat:Nat):Int)];rw[jIa,Int.toNat_of_nonneg j1]
 .obtain⟨k,pre⟩:=x;obtain⟨X,H⟩:=hx;simp only[w,List.drop_left] at X H j V T⊢;rw[<-A] at H⊢;obtain⟨B,o⟩:=Y k;have j:0<(U.zf t s k).2.length:=(by have:=of_decide_eq_true j;omega);have d:(U.zf t s k).2≠[]:=fun e=>by rw[e] at j;simp at j
  have F:=B.i.len;rcases o with o|o
  .exact absurd o d
  have p:U.zf t s (k+1)=U.qC (U.jrP t s) n (U.zf t s k):=(by rw[A];rfl);generalize W:U.zf t s k=x0 at*;obtain⟨g,r0,a⟩:∃q r,x0.2=q::r:=by
   cases I:x0.2 with
   |nil=>exact absurd I d
   |cons q r=>exact⟨q,r,rfl⟩
  obtain⟨M,g2,g3⟩:=B.i.que g (by rw[a];simp);have y:nth x0.2 0=g:=(by rw[a];rfl);have hla:((n:Nat):Int)=U.la (U.tc t):=(by omega);have f:U.jFT t s (x0.1,x0.2) pre.length:=by
   unfold U.jFT;rw[<-A,<-hv];exact⟨B,d,by simp only;omega,by omega⟩
  refine⟨⟨(0,pre),⟨⟨rfl,⟨rfl,rfl⟩,trivial⟩,rfl,rfl,trivial⟩,jHR _,jHM _,f⟩,?_⟩;rintro⟨i,p5⟩ ⟨hi,R,_⟩;simp only at hi R;have C:InI (U.jrP t s) n v g.toNat i x0 (U.qc t s (x0.1,x0.2) i):=by
   have:=jAw (J:=U.jrP t s) hs (q:=g.toNat) (by omega) g3 B.i B.le i (by omega);unfold U.qc;simp only[y];exact this
  have c:U.qc t s (x0.1,x0.2) (i+1)=U.jgD (U.jrP t s) g.toNat (U.qc t s (x0.1,x0.2) i) i:=by
   unfold U.qc;simp only[y];exact jnl _ _ _ _
  have D:i=n->U.zf t s (k+1)=((U.qc t s (x0.1,x0.2) i).1,(U.qc t s (x0.1,x0.2) i).2.drop 1):=by
   intro e;subst e;rw[p];have:U.qC (U.jrP t s) i x0=((U.jgE (U.jrP t s) g.toNat x0 i).1,(U.jgE (U.jrP t s) g.toNat x0 i).2.drop 1):=by
    clear p c C f F d B Y W;obtain⟨st,qu⟩:=x0;simp only at a;subst a;rfl
   rw[this];unfold U.qc;simp only[y]
  generalize hFI:U.qc t s (x0.1,x0.2) i=u at*;obtain⟨l,Q⟩:=C.pre;have hQ:nth u.2 0=g:=(by rw[Q,a];rfl);have G:0<u.2.length:=(by rw[Q,a];simp);have hmu:=C.mu;have hFl:=C.i.len;have E:∀i:Nat,U.jrP t s g.toNat i=U.jcF t s g (i:Int):=by
   intro i;unfold U.jrP;rw[Int.toNat_of_nonneg M]
  simp only[jEN,hQ];simp only[jHQ];refine⟨fun h=> ?_,fun h=> ?_⟩
  .have h:i<n:=(by have:=of_decide_eq_true h;omega);refine⟨by omega,by omega,fun _=>by omega,fun _=>by omega,fun _=>rfl,fun _=>m,fun _=>M,fun _=>by omega,fun _=>by omega,fun _=>by omega,fun z=> ?_,fun z=> ?_⟩
   .rw[jHK] at z;have h3:=of_decide_eq_true z.1;have Z:=C.i.low g.toNat (by omega);have b:U.qc t s (x0.1,x0.2) (i+1)=(u.1.set i (nth u.1 g.toNat+1),u.2++[(i:Int)]):=by
     rw[c];unfold U.jgD;rw[if_pos ⟨h3,by rw[E];exact z.2⟩]
    refine⟨by omega,by omega,M,by omega,L.in64 (by omega) (by omega),by omega,by omega,by simp,G,by simp only[jIi,jIq];omega,by simp only[jIi,jIq];omega,fun K S=>⟨L.in64 (by omega) (by omega),(i+1,K),⟨⟨by simp,⟨rfl,?_⟩,trivial⟩,?_,?_,trivial⟩,⟨by simp only;omega,by simp only;omega,f⟩,by simp only;omega⟩⟩
    .rw[b];simp
    .rw[b,jH3]
    .rw[b]
   .have b:U.qc t s (x0.1,x0.2) (i+1)=u:=by
     rw[c];unfold U.jgD;rw[if_neg (fun O=>by
      rw[E] at O;rw[O.2,decide_eq_true O.1] at z;cases z)]
    refine⟨L.in64 (by omega) (by omega),(i+1,p5),⟨⟨⟨rfl,?_⟩,by simp,trivial⟩,?_,?_,trivial⟩,⟨by simp only;omega,by simp only;omega,f⟩,by simp only;omega⟩
    .rw[b]
    .rw[b]
    .rw[b]
  .have h:i=n:=(by have:=of_decide_eq_false h;omega);have P:=D h;have N:u.2=g::(r0++l):=(by rw[Q,a];rfl);refine⟨by omega,by omega,by omega,(k+1,p5++[g]),⟨⟨⟨?_,?_⟩,trivial⟩,?_,?_,trivial⟩,⟨by simp only[jH2,jIi,jIq];omega,by simp only;omega⟩,by simp only;omega⟩
   .simp only[jH2,jIi,jIq];rfl
   .rw[P];simp only[jIy];rfl
   .rw[P]
   .rw[P,N];simp
 .simp only[w] at h⊢;have h:(U.zf t s x.1).2=[]:=by
   have:=of_decide_eq_false h;exact jIs (by omega)
  have hk:x.1<=n:=(by have:=hx.2;rw[w,<-A] at this;exact this);have h1:U.qR (U.jrP t s) (U.la (U.tc t)).toNat (U.jmW (U.tj t)).toNat ((U.la (U.tc t)).toNat+1)=U.zf t s x.1:=jDm (k:=x.1) h _ (by rw[<-A];omega);show((U.zf t s x.1).1,())=((U.qR (U.jrP t s) (U.la (U.tc t)).toNat (U.jmW (U.tj t)).toNat ((U.la (U.tc t)).toNat+1)).1,());rw[h1]
theorem joc:zm PR 157 wT:=kH joY jqR Tryz.func157 (kcC jiD kcN) (koC jiI koN)
end Go.X
namespace Go.X
open Go.Proofs
namespace U
def yI (t:TkD) (o:Int) (q:List (Int×PeD×Unit)):Int:=q.foldl (fun o x=>uor o (kY t x.2.1)) o
def jav (q:List (Int×PeD×Unit)):Bool:=q.any (fun x=>jFi x.2.1)
def jlV (b:Bool) (o k:Int):Int:=if b=true then uor o k else o
def kE (t:TkD) (s:Int):Int:=jlV (decide (nth (jbg t s) (jrR (tj t)).toNat<0)) (jlV (jGU (tl t)&& !jav (jh2 t s)) (jlV (decide (BT.size s≠max (jCE (tj t)) (jEV (tl t)))) (yI t 0 (jh2 t s)) 8) 16) 32
def jot (c:CrD) (n:Int):Bool:=ja n 0 (2^(jh c).length-1)
def vi (c:CrD) (j:JbD) (n:Int):Int:=if kl c j≠0 then kl c j else if jot c n=true then 0 else 1
def jFU (c:CrD) (j:JbD) (n:Int):Int:=if vi c j n=0 then kE (c,j,yM c j,()) n else 0
def yy (c:CrD) (j:JbD) (n:Nat):List Int:=((List.range n).filter (fun i=>decide (kY (c,j,yM c j,()) (nth (jh c) i)=0))).map (fun(i:Nat)=>(i:Int))
def kI (c:CrD) (j:JbD):List Int:=if kl c j=0 then yy c j (jh c).length else[]
end U
def kT:j9:=⟨[.val (.ptr tTk),.val tPe],[.uint .u64],false,fun d=>[d.1.isSome=true,U.yt (U.tk d.1)],fun d=>(U.kY (U.tk d.1) d.2.1,())⟩
def jzl:jrH [.int,tPe]:={ps:=[.ref (.ptr tTk),.own (.box 146 [.dat (.uint .u64)]) true,.own (.box 4 [.dat .bool]) true],slots:=[2,4,5],dst:=65,pre:=fun d=>[d.1.isSome=true,U.yt (U.tk d.1)],G:=fun d q=>((U.yI (U.tk d.1) d.2.1.1 q,()),(d.2.2.1.1||U.jav q,()),()),seq:=jvh}
def jjy:Nat->Option ((ts:List Ty)×jrH ts):=fun r=>match r with
 |4=>some ⟨[.int,tPe],jzl⟩
 |_=>none
def jbr:j9:=⟨[.val (.ptr tTk),.val (.uint .u64)],[.uint .u64],false,fun d=>[d.1.isSome=true,U.yt (U.tk d.1),BT.Set' d.2.1],fun d=>(U.kE (U.tk d.1) d.2.1,())⟩
abbrev q33_0 (d:Option (CrD×JbD×LwD×Unit)×Int×Unit):=(jQ (((0:Int),[],[],()),((0:Int),(0:Int),(0:Int),(0:Int),(0:Int),(0:Int),()),((0:Int),(0:Int),false,()),()) d.1)
abbrev q33_1 (d:Option (CrD×JbD×LwD×Unit)×Int×Unit):=(nth (U.jbg (U.tk d.1) d.2.1) (q33_0 d).2.1.1.toNat<0)
abbrev q33_2 (d:Option (CrD×JbD×LwD×Unit)×Int×Unit):=(U.kE (U.tk d.1) d.2.1,())
abbrev q33_3 (d:Option (CrD×JbD×LwD×Unit)×Int×Unit):=(↑(U.jbg (U.tk d.1) d.2.1).length:Int)
def jbn:Prop:=∀(d:Option (CrD×JbD×LwD×Unit)×Int×Unit),d.1.isSome=true->U.yt (U.tk d.1)->BT.Set' d.2.1->(d.1.isSome=true/\(U.jh (U.tc (U.tk d.1))).length<=60)/\(d.1.isSome=true/\U.yt (U.tk d.1)/\True)/\(d.1,(U.yI (U.tk d.1) (0:Int) [],()),(false||U.jav [],()),())=(d.1,((0:Int),()),(false,()),())/\(∀(q:List (Int×PeD×Unit)) (x:Int×PeD×Unit) (rest:List (Int×PeD×Unit)),q++x::rest=U.jh2 (U.tk d.1) d.2.1->wB (fun(a:List (Int×PeD×Unit))=>false) q->d.1.isSome=true/\U.yt (U.tk d.1)/\false=false/\((uor (U.yI (U.tk d.1) (0:Int) q) (U.kY (U.tk d.1) x.2.1),()),(false||U.jav q||x.2.1.2.2.2.2.1,()),())=((U.yI (U.tk d.1) (0:Int) (q++[x]),()),(false||U.jav (q++[x]),()),()))/\(∀(xs:List (Int×PeD×Unit)),xs=U.jh2 (U.tk d.1) d.2.1->wB (fun(b:List (Int×PeD×Unit))=>false) xs->BT.Set' d.2.1/\d.1.isSome=true/\d.1.isSome=true/\(decide (BT.size d.2.1≠max (q33_0 d).2.1.2.2.2.2.2.1 (q33_0 d).2.2.1.2.1)=true->d.1.isSome=true/\(((q33_0 d).2.2.1.2.2.1&& !(false||U.jav xs))=true->d.1.isSome=true/\U.yt (U.tk d.1)/\d.1.isSome=true/\(0:Int)<=(q33_0 d).2.1.1/\(q33_0 d).2.1.1<(q33_3 d)/\(decide (q33_1 d)=true->(uor (uor (uor (U.yI (U.tk d.1) (0:Int) xs) (8:Int)) (16:Int)) (32:Int),())=(q33_2 d))/\(decide (q33_1 d)=false->(uor (uor (U.yI (U.tk d.1) (0:Int) xs) (8:Int)) (16:Int),())=(q33_2 d)))/\(((q33_0 d).2.2.1.2.2.1&& !(false||U.jav xs))=false->d.1.isSome=true/\U.yt (U.tk d.1)/\d.1.isSome=true/\(0:Int)<=(q33_0 d).2.1.1/\(q33_0 d).2.1.1<(q33_3 d)/\(decide (q33_1 d)=true->(uor (uor (U.yI (U.tk d.1) (0:Int) xs) (8:Int)) (32:Int),())=(q33_2 d))/\(decide (q33_1 d)=false->(uor (U.yI (U.tk d.1) (0:Int) xs) (8:Int),())=(q33_2 d))))/\(decide (BT.size d.2.1≠max (q33_0 d).2.1.2.2.2.2.2.1 (q33_0 d).2.2.1.2.1)=false->d.1.isSome=true/\(((q33_0 d).2.2.1.2.2.1&& !(false||U.jav xs))=true->d.1.isSome=true/\U.yt (U.tk d.1)/\d.1.isSome=true/\(0:Int)<=(q33_0 d).2.1.1/\(q33_0 d).2.1.1<(q33_3 d)/\(decide (q33_1 d)=true->(uor (uor (U.yI (U.tk d.1) (0:Int) xs) (16:Int)) (32:Int),())=(q33_2 d))/\(decide (q33_1 d)=false->(uor (U.yI (U.tk d.1) (0:Int) xs) (16:Int),())=(q33_2 d)))/\(((q33_0 d).2.2.1.2.2.1&& !(false||U.jav xs))=false->d.1.isSome=true/\U.yt (U.tk d.1)/\d.1.isSome=true/\(0:Int)<=(q33_0 d).2.1.1/\(q33_0 d).2.1.1<(q33_3 d)/\(decide (q33_1 d)=true->(uor (U.yI (U.tk d.1) (0:Int) xs) (32:Int),())=(q33_2 d))/\(decide (q33_1 d)=false->(U.yI (U.tk d.1) (0:Int) xs,())=(q33_2 d)))))/\∀(q:List (Int×PeD×Unit)) (x:Int×PeD×Unit) (rest:List (Int×PeD×Unit)),q++x::rest=U.jh2 (U.tk d.1) d.2.1->wB (fun(c:List (Int×PeD×Unit))=>false) q->false=true->(U.yI (U.tk d.1) (0:Int) (q++[x]),())=(q33_2 d)
theorem jed:(ju3 (jrS 64 [(118,kT),(156,wU),(157,wT)] [] [(155,jV)] []) jbr (fun _ _=>none) (hkC (jrS 64 [(118,kT),(156,wU),(157,wT)] [] [(155,jV)] []) (fun _=>none) jjy [] []) Tryz.f122 (z8 Tryz.f122))=jbn:=by kernel_rfl
def jyU:j9:=⟨[.val tCr,.val tJb,.val .int],[.ptr tTk,.int],false,fun _=>[],fun d=>(U.jmH d.1 d.2.1,U.vi d.1 d.2.1 d.2.2.1,())⟩
abbrev q34_1 (d:CrD×JbD×Int×Unit):=(U.kl d.1 d.2.1=0)
abbrev q34_0 (d:CrD×JbD×Int×Unit):=(decide (q34_1 d)&& !U.ja d.2.2.1 (0:Int) ((1:Int)*2^(d.1.2.1.length:Int).toNat-1))
def jys:Prop:=∀(d:CrD×JbD×Int×Unit),(decide (q34_1 d)=true->d.1.2.1.length<4611686018427387904)->(decide (q34_1 d)=true->0<=(d.1.2.1.length:Int))/\(decide (q34_1 d)=true->(d.1.2.1.length:Int)<=64)/\(decide (q34_1 d)=true->jz ((1:Int)*2^(d.1.2.1.length:Int).toNat))/\(decide (q34_1 d)=true->jz ((1:Int)*2^(d.1.2.1.length:Int).toNat-1))/\((q34_0 d)=true->(U.jmH d.1 d.2.1,(1:Int),())=(U.jmH d.1 d.2.1,U.vi d.1 d.2.1 d.2.2.1,()))/\((q34_0 d)=false->(U.jmH d.1 d.2.1,U.kl d.1 d.2.1,())=(U.jmH d.1 d.2.1,U.vi d.1 d.2.1 d.2.2.1,()))
def jsw:j9:=⟨[.val tCr,.val tJb,.val .int],[.int,.int],false,fun _=>[],fun d=>(U.jFU d.1 d.2.1 d.2.2.1,U.vi d.1 d.2.1 d.2.2.1,())⟩
def jrZ:Prop:=∀(d:CrD×JbD×Int×Unit),(decide (U.vi d.1 d.2.1 d.2.2.1≠0)=true->((0:Int),U.vi d.1 d.2.1 d.2.2.1,())=(U.jFU d.1 d.2.1 d.2.2.1,U.vi d.1 d.2.1 d.2.2.1,()))/\(decide (U.vi d.1 d.2.1 d.2.2.1≠0)=false->0<=d.2.2.1/\d.2.2.1<=18446744073709551615/\(U.jmH d.1 d.2.1).isSome=true/\U.yt (U.tk (U.jmH d.1 d.2.1))/\BT.Set' d.2.2.1/\jz (U.kE (U.tk (U.jmH d.1 d.2.1)) d.2.2.1)/\(U.kE (U.tk (U.jmH d.1 d.2.1)) d.2.2.1,(0:Int),())=(U.jFU d.1 d.2.1 d.2.2.1,U.vi d.1 d.2.1 d.2.2.1,()))
def jB5:j9:=⟨[.val tCr,.val tJb],[.slice .int,.int],false,fun _=>[],fun d=>(U.kI d.1 d.2.1,U.kl d.1 d.2.1,())⟩
def jDq:Ann:=fun r=>match r with
 |6=>some fun σ=>{X:=Nat,sl:=fun i=>[(23,.dat .int (i:Int)),(8,.own 8 .int)],ob:=fun i=>[(8,some (.row 3 .int false .yes (U.yy (gd tCr σ 0) (gd tJb σ 1) i)))],inv:=fun i=>i<=(U.jh (gd tCr σ 0)).length,mu:=fun i=>(U.jh (gd tCr σ 0)).length-i}
 |_=>none
def jBX:Prop:=∀(d:CrD×JbD×Unit),(decide (U.kl d.1 d.2.1≠0)=true->([],U.kl d.1 d.2.1,())=(U.kI d.1 d.2.1,U.kl d.1 d.2.1,()))/\(decide (U.kl d.1 d.2.1≠0)=false->d.1.2.1.length<4611686018427387904->(∃(x:Nat),((0=(x:Int)/\True/\True)/\U.yy d.1 d.2.1 x=[]/\True)/\x<=(U.jh d.1).length)/\∀(x:Nat),x<=(U.jh d.1).length->(decide ((x:Int)<(d.1.2.1.length:Int))=true->0<=(x:Int)/\(x:Int)<(d.1.2.1.length:Int)/\(U.jmH d.1 d.2.1).isSome=true/\U.yt (U.tk (U.jmH d.1 d.2.1))/\(decide (U.kY (U.tk (U.jmH d.1 d.2.1)) (nth d.1.2.1 (x:Int).toNat)=0)=true->((U.yy d.1 d.2.1 x).length+[(x:Int)].length)*8<=140737488355328/\jz ((x:Int)+1)/\∃(a:Nat),(((x:Int)+1=(a:Int)/\True/\True)/\U.yy d.1 d.2.1 x++[(x:Int)]=U.yy d.1 d.2.1 a/\True)/\a<=(U.jh d.1).length/\(U.jh d.1).length-a<(U.jh d.1).length-x)/\(decide (U.kY (U.tk (U.jmH d.1 d.2.1)) (nth d.1.2.1 (x:Int).toNat)=0)=false->jz ((x:Int)+1)/\∃(a:Nat),((True/\(x:Int)+1=(a:Int)/\True)/\U.yy d.1 d.2.1 x=U.yy d.1 d.2.1 a/\True)/\a<=(U.jh d.1).length/\(U.jh d.1).length-a<(U.jh d.1).length-x))/\(decide ((x:Int)<(d.1.2.1.length:Int))=false->(U.yy d.1 d.2.1 x,(0:Int),())=(U.kI d.1 d.2.1,U.kl d.1 d.2.1,())))
end Go.X
namespace Go.X
open Go.Proofs
theorem jyH (a b c:Bool):0<=U.jwk a b c/\U.jwk a b c<=7:=by
 unfold U.jwk U.jFS;cases a<;>cases b<;>cases c<;>simp
theorem jlv (t:TkD) (p:PeD):0<=U.kY t p/\U.kY t p<=7:=jyH _ _ _
theorem jpW {s:Int} (h:0<=s/\s<=1000):BT.Set' s:=by unfold BT.Set';omega
theorem jyA {a b:Int} (c:0<=a/\a<64) (d:0<=b/\b<64):0<=uor a b/\uor a b<64:=by
 obtain⟨n,rfl⟩:∃n:Nat,a=(n:Int):=⟨a.toNat,by omega⟩;obtain⟨m,rfl⟩:∃m:Nat,b=(m:Int):=⟨b.toNat,by omega⟩;rw[BT.uor_nat (by omega) (by omega)];have:n|||m<2^6:=Nat.or_lt_two_pow (by omega) (by omega);omega
theorem jsj (t:TkD):∀(q:List (Int×PeD×Unit)) (o:Int),(0<=o/\o<64)->0<=U.yI t o q/\U.yI t o q<64
 |[],o,h=>h
 |x::q,o,h=>by
  have:=jlv t x.2.1
  exact jsj t q _ (jyA h ⟨by omega,by omega⟩)
theorem jj8 {b:Bool} {o k:Int} (h:0<=o/\o<64) (hk:0<=k/\k<64):0<=U.jlV b o k/\U.jlV b o k<64:=by
 unfold U.jlV
 split
 .exact jyA h hk
 .exact h
theorem jx0 (t:TkD) (s:Int):0<=U.kE t s/\U.kE t s<64:=by
 unfold U.kE;exact jj8 (jj8 (jj8 (jsj t _ _ (by omega)) (by omega)) (by omega)) (by omega)
theorem jyB (t:TkD) (o:Int) (q:List (Int×PeD×Unit)) (x:Int×PeD×Unit):U.yI t o (q++[x])=uor (U.yI t o q) (U.kY t x.2.1):=by
 unfold U.yI;rw[jH8];rfl
theorem jC4 {t:TkD} {s:Int} (a:U.yt t):((U.jbg t s).length:Int)=U.la (U.tc t):=by
 obtain⟨f,g,c,d⟩:=jrd (s:=s) a;have b:(U.jmW (U.tj t)).toNat<(U.la (U.tc t)).toNat:=(by omega);have:=(jjU (J:=U.jrP t s) b ((U.la (U.tc t)).toNat+1)).1.i.len;have e:(U.jbg t s).length=(U.la (U.tc t)).toNat:=this;omega
theorem jkK:jbn:=by
 unfold jbn q33_3 q33_2 q33_1 q33_0;rintro⟨(_|t),s,⟨⟩⟩ n a c
 .cases n
 have a:U.yt t:=a;have c:BT.Set' s:=c;obtain⟨c1,c2,_⟩:=id a;obtain⟨_,_,p,_⟩:=jy c1;obtain⟨⟨m,r⟩,_⟩:=jcG c2;have o:=jC4 (s:=s) a;have f:U.tk (some t)=t:=rfl;have b:0<=U.jrR (U.tj t)/\U.jrR (U.tj t)<(((U.jbg t s).length:Nat):Int):=⟨m,by omega⟩;refine⟨⟨rfl,(by omega:(U.jh (U.tc t)).length<=60)⟩,⟨rfl,a,trivial⟩,rfl,fun q x rest u _=>⟨rfl,a,rfl,?_⟩,fun xs g _=>⟨c,rfl,rfl,?_⟩,fun q x rest _ _ h=>by cases h⟩
 .simp only[f,jyB];unfold U.jav;simp only[List.any_append,List.any_cons,List.any_nil,Bool.or_false,Bool.false_or];rfl
 .simp only[f] at g⊢;subst g;have key:∀(j k l:Bool),decide (BT.size s≠max (U.jCE (U.tj t)) (U.jEV (U.tl t)))=j->(U.jGU (U.tl t)&& !U.jav (U.jh2 t s))=k->decide (nth (U.jbg t s) (U.jrR (U.tj t)).toNat<0)=l->
   U.jlV l (U.jlV k (U.jlV j (U.yI t 0 (U.jh2 t s)) 8) 16) 32=U.kE t s:=by
   intro j k l i e d;unfold U.kE;rw[i,e,d]
  refine⟨fun i=>⟨rfl,fun e=>⟨rfl,a,rfl,b.1,b.2,fun d=> ?_,fun d=> ?_⟩,fun e=>⟨rfl,a,rfl,b.1,b.2,fun d=> ?_,fun d=> ?_⟩⟩,fun i=>⟨rfl,fun e=>⟨rfl,a,rfl,b.1,b.2,fun d=> ?_,fun d=> ?_⟩,fun e=>⟨rfl,a,rfl,b.1,b.2,fun d=> ?_,fun d=> ?_⟩⟩⟩<;>
   (rw[Bool.false_or] at e;have:=key _ _ _ i e d;rw[<-this];rfl)
theorem jj4 {c:CrD} (h:U.js c=true):(0:Int)<2^(U.jh c).length/\(2:Int)^(U.jh c).length<=256:=by
 obtain⟨_,_,a,_⟩:=jy h;rw[BT.two_nat];have b:2^(U.jh c).length<=2^8:=jIZ (by decide) a;have d:0<2^(U.jh c).length:=Nat.pow_pos (by decide);omega
theorem jCN:jys:=by
 unfold jys q34_0 q34_1;rintro⟨c,j,n,⟨⟩⟩ _;have e:∀l:Nat,(1:Int)*2^((l:Int)).toNat=2^l:=fun l=>by rw[Int.one_mul,jHQ]
 simp only[e];refine⟨fun _=>by omega,fun h=> ?_,fun h=> ?_,fun h=> ?_,fun h=> ?_,fun h=> ?_⟩
 .have:=(jy (je2 (of_decide_eq_true h)).1).2.2.1;have this:c.2.1.length<=8:=this;omega
 .have:=jj4 (je2 (of_decide_eq_true h)).1;have this:(0:Int)<2^c.2.1.length/\(2:Int)^c.2.1.length<=256:=this;exact L.in64 (by omega) (by omega)
 .have:=jj4 (je2 (of_decide_eq_true h)).1;have this:(0:Int)<2^c.2.1.length/\(2:Int)^c.2.1.length<=256:=this;exact L.in64 (by omega) (by omega)
 .rw[jHK] at h;have a:=of_decide_eq_true h.1;have b:U.jot c n=false:=by
   have d:U.ja n 0 (2^c.2.1.length-1)=false:=(by simpa using h.2);exact d
  unfold U.vi;rw[if_neg (by omega),if_neg (by rw[b];simp)]
 .unfold U.vi;by_cases a:U.kl c j=0
  .rw[decide_eq_true a,Bool.true_and] at h;have b:U.jot c n=true:=by
    have d:U.ja n 0 (2^c.2.1.length-1)=true:=(by simpa using h);exact d
   rw[if_neg (by omega),if_pos b,a]
  .rw[if_pos a]
theorem jzO:zm PR 121 jyU:=j8 jCN Tryz.func121 (kcC jqn (kcC qf kcN)) koN
theorem jwh {c:CrD} {j:JbD} {n:Int} (h:U.vi c j n=0):U.kl c j=0/\0<=n/\n<2^(U.jh c).length:=by
 unfold U.vi at h
 split at h
 .rename_i b;omega
 .rename_i b
  split at h
  .rename_i a;unfold U.jot U.ja at a;simp only[jHK,decide_eq_true_eq] at a;exact⟨by omega,a.1,by omega⟩
  .omega
theorem jxi:jrZ:=by
 rintro⟨c,j,n,⟨⟩⟩;refine⟨fun h=> ?_,fun h=> ?_⟩
 .have h:U.vi c j n≠0:=of_decide_eq_true h;simp only;unfold U.jFU;rw[if_neg h]
 .have h:U.vi c j n=0:=(by simpa using h);obtain⟨d,e,g⟩:=jwh h;obtain⟨b,f⟩:=jzC d;have k:=jj4 (je2 d).1;have a:U.tk (U.jmH c j)=(c,j,U.yM c j,()):=(by rw[b];rfl);have i:=jx0 (c,j,U.yM c j,()) n;simp only[a];refine⟨e,by omega,by rw[b];rfl,f,jpW ⟨e,by omega⟩,L.in64 (by omega) (by omega),?_⟩;unfold U.jFU;rw[if_pos h,h]
theorem jmR (c:CrD) (j:JbD) (n:Nat):U.yy c j (n+1)=U.yy c j n++(if U.kY (c,j,U.yM c j,()) (nth (U.jh c) n)=0 then[(n:Int)] else[]):=by
 unfold U.yy;rw[L.range_filter_succ,jIz];by_cases h:U.kY (c,j,U.yM c j,()) (nth (U.jh c) n)=0
 .rw[if_pos (decide_eq_true h),if_pos h];rfl
 .rw[if_neg (by simpa using h),if_neg h];rfl
theorem jAf (c:CrD) (j:JbD) (n:Nat):(U.yy c j n).length<=n:=by
 unfold U.yy;rw[jIL];exact jHW (jIH _ _) (by simp)
theorem jE2:jBX:=by
 rintro⟨c,j,⟨⟩⟩;refine⟨fun h=> ?_,fun h _=>⟨⟨0,⟨⟨rfl,trivial,trivial⟩,rfl,trivial⟩,jHR _⟩,fun x f=>⟨fun a=> ?_,fun a=> ?_⟩⟩⟩
 .have h:U.kl c j≠0:=of_decide_eq_true h;simp only;unfold U.kI;rw[if_neg h]
 .have h:U.kl c j=0:=(by simpa using h);obtain⟨e,g⟩:=jzC h;have d:U.tk (U.jmH c j)=(c,j,U.yM c j,()):=(by rw[e];rfl);have a:x<(U.jh c).length:=by
   have a:=of_decide_eq_true a;have a:(x:Int)<((U.jh c).length:Int):=a;omega
  have i:(x:Int)<((U.jh c).length:Int):=(by omega);have k:=(jy (je2 h).1).2.2.1;have l:=jAf c j x;simp only[d,jHQ];refine⟨by omega,i,by rw[e];rfl,g,fun b=>⟨by simp only[jIi,jIq];omega,L.in64 (by omega) (by omega),x+1,⟨⟨by simp,trivial,trivial⟩,?_,trivial⟩,a,by omega⟩,fun b=>⟨L.in64 (by omega) (by omega),x+1,⟨⟨trivial,by simp,trivial⟩,?_,trivial⟩,a,by omega⟩⟩
  .have b:U.kY (c,j,U.yM c j,()) (nth (U.jh c) x)=0:=of_decide_eq_true b;rw[jmR,if_pos b]
  .have b:¬U.kY (c,j,U.yM c j,()) (nth (U.jh c) x)=0:=of_decide_eq_false b;rw[jmR,if_neg b,jIc]
 .have h:U.kl c j=0:=(by simpa using h);have a:(U.jh c).length<=x:=by
   have a:=of_decide_eq_false a;have a:¬(x:Int)<((U.jh c).length:Int):=a;omega
  have f:x<=(U.jh c).length:=f;simp only;unfold U.kI;rw[if_pos h,h,show x=(U.jh c).length by omega]
end Go.X
namespace Go.X
open Go.Proofs
def jlr:Ann:=fun r=>match r with
 |2=>some fun σ=>{X:=List (Int×Int)×Int,sl:=fun x=>[(4,.dat (.uint .u64) x.2)],ob:=fun x=>[(37,some (.iter .int .int x.1 none))],inv:=fun x=>U.vH (U.jgc (U.tk (gd (.ptr tTk) σ 0)) (gd tPe σ 1)) x.1 x.2,mu:=fun x=>x.1.length}
 |_=>none
abbrev q37_0 (d:Option (CrD×JbD×LwD×Unit)×PeD×Unit):=(jQ (((0:Int),[],[],()),((0:Int),(0:Int),(0:Int),(0:Int),(0:Int),(0:Int),()),((0:Int),(0:Int),false,()),()) d.1)
def jjn:Prop:=∀(d:Option (CrD×JbD×LwD×Unit)×PeD×Unit),d.1.isSome=true->U.yt (U.tk d.1)->d.1.isSome=true/\d.1.isSome=true/\(0:Int)<=(q37_0 d).2.1.2.2.2.1/\(q37_0 d).2.1.2.2.2.1<=64/\d.1.isSome=true/\(0:Int)<=(q37_0 d).2.1.2.2.2.2.1/\(q37_0 d).2.1.2.2.2.2.1<=64/\[(0:Int),(1:Int),(2:Int)].Nodup/\∀(l:List (Int×Int)),l.Perm [((0:Int),U.jFS !d.2.1.2.2.2.1.any fun(e:Int)=>decide (e=(q37_0 d).2.1.2.2.1)),((1:Int),qL (d.2.1.2.1/(2:Int)^(q37_0 d).2.1.2.2.2.1.toNat) (1:Int)),((2:Int),qL (d.2.1.2.2.1/(2:Int)^(q37_0 d).2.1.2.2.2.2.1.toNat) (1:Int))]->(((∃(x:List (Int×Int)×Int),((0=x.2/\True)/\l=x.1/\True)/\U.vH (U.jgc (U.tk d.1) d.2.1) x.1 x.2)/\∀(x:List (Int×Int)×Int),U.vH (U.jgc (U.tk d.1) d.2.1) x.1 x.2->(x.1=[]->(false=true->False)/\(false=false->(x.2,())=(U.kY (U.tk d.1) d.2.1,())))/\∀(pre:List (Int×Int)) (a:Int×Int) (b:List (Int×Int)),x.1=pre++a::b->(true=true->(decide (a.2=0)=true->0<=a.1/\a.1<=64/\(0:Int)<=1*2^a.1.toNat/\(1:Int)*2^a.1.toNat<=18446744073709551615/\∃(c:List (Int×Int)×Int),((uor x.2 ((1:Int)*2^a.1.toNat)=c.2/\True)/\pre++b=c.1/\True)/\U.vH (U.jgc (U.tk d.1) d.2.1) c.1 c.2/\c.1.length<x.1.length)/\(decide (a.2=0)=false->∃(c:List (Int×Int)×Int),((x.2=c.2/\True)/\pre++b=c.1/\True)/\U.vH (U.jgc (U.tk d.1) d.2.1) c.1 c.2/\c.1.length<x.1.length))/\(true=false->(x.2,())=(U.kY (U.tk d.1) d.2.1,())))/\True)/\True
end Go.X
namespace Go.X
open Go.Proofs
theorem jvJ (z:Int):qL z 1=0\/qL z 1=1:=by
 unfold qL;rw[BitVec.toNat_and];have a:(BitVec.ofInt 64 1).toNat=1:=rfl;rw[a,Nat.and_one_is_mod];rcases Nat.mod_two_eq_zero_or_one (BitVec.ofInt 64 z).toNat with h|h
 .rw[h];exact .inl rfl
 .rw[h];exact .inr rfl
theorem jvI (s n:Int):(qL (s/2^n.toNat) 1=0)↔(!U.jR s n)=true:=by
 unfold U.jR;rcases jvJ (s/2^n.toNat) with h|h<;>rw[h]<;>simp
theorem jB3 (a b c:Bool) (p:Nat):BT.has (U.jwk a b c) p=true↔(a=true/\p=0)\/(b=true/\p=1)\/(c=true/\p=2):=by
 match p with
 |0=>cases a<;>cases b<;>cases c<;>decide
 |1=>cases a<;>cases b<;>cases c<;>decide
 |2=>cases a<;>cases b<;>cases c<;>decide
 |p+3=>
  have h:=jyH a b c;have:BT.has (U.jwk a b c) (p+3)=false:=by
   cases d:BT.has (U.jwk a b c) (p+3) with
   |false=>rfl
   |true=>have:=BT.has_lt (k:=3) h.1 (by omega) d;omega
  rw[this];simp
theorem jCD (t:TkD) (p:PeD) (k:Nat):(∃e∈U.jgc t p,e.2=0/\e.1.toNat=k)↔BT.has (U.kY t p) k=true:=by
 unfold U.kY;rw[jB3];have c:U.jFS (!U.yf p (U.jBT (U.tj t)))=0↔U.yf p (U.jBT (U.tj t))=true:=by
  unfold U.jFS;cases U.yf p (U.jBT (U.tj t))<;>simp
 have d:=jvI (U.fd p) (U.jtB (U.tj t));have f:=jvI (U.cl p) (U.jrQ (U.tj t));unfold U.jgc;simp only[jHL,List.not_mem_nil,or_false];rw[<-c,<-d,<-f];constructor
 .rintro⟨e,(rfl|rfl|rfl),a,b⟩
  .exact .inl ⟨a,b.symm⟩
  .exact .inr (.inl ⟨a,b.symm⟩)
  .exact .inr (.inr ⟨a,b.symm⟩)
 .rintro(⟨a,b⟩|⟨a,b⟩|⟨a,b⟩)
  .exact⟨_,.inl rfl,a,b.symm⟩
  .exact⟨_,.inr (.inl rfl),a,b.symm⟩
  .exact⟨_,.inr (.inr rfl),a,b.symm⟩
theorem jCC {t:TkD} {p:PeD} {e:Int×Int} (h:e∈U.jgc t p):0<=e.1/\e.1<=2:=by
 unfold U.jgc at h;simp only[jHL,List.not_mem_nil,or_false] at h;rcases h with rfl|rfl|rfl<;>simp
theorem jxc (t:TkD) (p:PeD):(U.jgc t p).Nodup:=by
 unfold U.jgc;simp
theorem juE {t:TkD} {p:PeD} {l:List (Int×Int)} (h:l.Perm (U.jgc t p)):U.vH (U.jgc t p) l 0:=by
 refine⟨BT.zero_set,h.symm.nodup (jxc t p),fun e c=>h.mem_iff.1 c,fun k=> ?_⟩;rw[BT.has_zero];constructor
 .intro h;cases h
 .rintro⟨e,a,b,_⟩;exact absurd (h.mem_iff.2 a) b
theorem jye {t:TkD} {p:PeD} {s:Int} (h:U.vH (U.jgc t p) [] s):s=U.kY t p:=by
 obtain⟨a,_,_,c⟩:=h;refine BT.ext a (jpW (by have:=jlv t p;omega)) (fun k=> ?_);rw[jId,c,<-jCD];constructor
 .rintro⟨e,a,_,b⟩;exact⟨e,a,b⟩
 .rintro⟨e,a,b⟩;exact⟨e,a,by simp,b⟩
theorem jnp {all pre a:List (Int×Int)} {e:Int×Int} {s j:Int} (h:U.vH all (pre++e::a) s) (p:BT.Set' j) (hk:∀k,BT.has j k=true↔BT.has s k=true\/(e.2=0/\e.1.toNat=k)):U.vH all (pre++a) j:=by
 obtain⟨q,m,l,n⟩:=h;have i:(e::(pre++a)).Nodup:=List.perm_middle.nodup m;have b:∀x,x∈pre++e::a↔x=e\/x∈pre++a:=fun x=>by rw[List.perm_middle.mem_iff,jHL]
 rw[jIE] at i;refine⟨p,i.2,fun x c=>l x ((b x).2 (.inr c)),fun k=> ?_⟩;rw[hk,n];constructor
 .rintro(⟨x,d,f,g⟩|⟨d,f⟩)
  .exact⟨x,d,fun c=>f ((b x).2 (.inr c)),g⟩
  .exact⟨e,l e ((b e).2 (.inl rfl)),i.1,d,f⟩
 .rintro⟨x,d,f,g⟩;by_cases c:x=e
  .subst c;exact .inr g
  .exact .inl ⟨x,d,fun o=>by rcases(b x).1 o with h|h;exact c h;exact f h,g⟩
theorem jl4:jjn:=by
 unfold jjn q37_0;rintro⟨(_|t),p,⟨⟩⟩ s d
 .cases s
 have d:U.yt t:=d;have r:U.tk (some t)=t:=rfl;obtain⟨c1,c2,_⟩:=id d;obtain⟨_,_,_,⟨m,o⟩,⟨n,q⟩,_⟩:=jcG c2;have m:0<=t.2.1.2.2.2.1:=m;have o:t.2.1.2.2.2.1<=7:=o;have n:0<=t.2.1.2.2.2.2.1:=n;have q:t.2.1.2.2.2.2.1<=3:=q;refine⟨rfl,rfl,m,by simp only[jQ];omega,rfl,n,by simp only[jQ];omega,by decide,fun l w=>⟨⟨⟨⟨(l,0),⟨⟨rfl,trivial⟩,rfl,trivial⟩,juE w⟩,fun x b=>⟨fun h=>⟨fun h=>(by cases h),fun _=> ?_⟩,fun pre e a h=>⟨fun _=> ?_,fun h=>(by cases h)⟩⟩⟩,trivial⟩,trivial⟩⟩
 .rw[h] at b;rw[jye b]
 .rw[h] at b;have u:e∈U.jgc t p:=b.2.2.1 e (by simp);have hk:=jCC u;obtain⟨k,g,v⟩:∃k:Nat,e.1=(k:Int)/\k<=2:=⟨e.1.toNat,by omega,by omega⟩;have y:(1:Int)*2^k=2^k:=Int.one_mul _;have c:(pre++a).length<x.1.length:=(by rw[h];simp);have i:BT.Set' ((2:Int)^k):=BT.two_set (by omega);refine⟨fun f=> ?_,fun f=> ?_⟩
  .have f:e.2=0:=of_decide_eq_true f;rw[g,jHQ,y];refine⟨by omega,by omega,by unfold BT.Set' at i;omega,by unfold BT.Set' at i;omega,(pre++a,uor x.2 (2^k)),⟨⟨rfl,trivial⟩,rfl,trivial⟩,jnp b (BT.uor_set b.1 i) (fun j=> ?_),c⟩;rw[BT.has_uor b.1 i,BT.has_two,jIK,decide_eq_true_eq,g,jHQ];simp[f]
  .have f:¬e.2=0:=of_decide_eq_false f;exact⟨(pre++a,x.2),⟨⟨rfl,trivial⟩,rfl,trivial⟩,jnp b b.1 (fun j=>by simp[f]),c⟩
theorem jcn:zm PR 118 kT:=kH jlr jl4 Tryz.func118 (kcC qt (kcC jwS kcN)) koN
theorem jrq:(jrS 64 [(118,kT),(156,wU),(157,wT)] [] [(155,jV)] []).ok PR:=juk ⟨fun _=>jcn,fun _=>jod,fun _=>joc,trivial⟩ trivial ⟨gX,trivial⟩ trivial
theorem jiE:zm PR 122 jbr:=
 jzm (body:=z8 Tryz.f122) (C:=jrS 64 [(118,kT),(156,wU),(157,wT)] [] [(155,jV)] []) (hk:=hkC (jrS 64 [(118,kT),(156,wU),(157,wT)] [] [(155,jV)] []) (fun _=>none) jjy [] []) jrq mixed Tryz.func122 (by kernel_rfl) (by kernel_rfl) (by kernel_rfl) (by decide)
  (fun B=>jm3 jrq mixed (fun k ts rs sv d L v ρ hk c a b=>by
   unfold jjy at hk
   split at hk
   case h_2=>cases hk
   simp only[Option.some.injEq] at hk
   cases hk
   exact jqH c a b) jEO B) (jed.mpr jkK)
theorem jtf:zm PR 81 jsw:=j8 jxi Tryz.func81 (kcC jzO (kcC jiE kcN)) koN
theorem jvb:zm PR 79 jB5:=kH jDq jE2 Tryz.func79 (kcC jqn (kcC jcn kcN)) koN
end Go.X
namespace Go.X
namespace U
def jaz (a b:Int):Int:=if a<b then-1 else if b<a then 1 else 0
def wY (l:List Int):Int:=match l.find? (fun n=>decide (n≠0)) with|some n=>n|none=>0
end U
structure jbS {α:Type} (c:α->α->Int):Prop where
 anti:∀a b,c b a= -(c a b)
 trans:∀a b d,c a b<=0->c b d<=0->c a d<=0
section
variable {α:Type} {c c1 c2:α->α->Int}
theorem jbS.refl (h:jbS c) (a:α):c a a=0:=by have:=h.anti a a;omega
theorem jbS.lt_le (h:jbS c) {a b d:α} (g:c a b<0) (f:c b d<=0):c a d<0:=by
 have i:=h.trans a b d (by omega) f;have j:=h.anti a d;have k:=h.anti a b;by_cases e:c a d=0
 .have:=h.trans b d a f (by omega);omega
 .omega
theorem jbS.le_lt (h:jbS c) {a b d:α} (f:c a b<=0) (g:c b d<0):c a d<0:=by
 have i:=h.trans a b d f (by omega);have j:=h.anti a d;have k:=h.anti b d;by_cases e:c a d=0
 .have:=h.trans d a b (by omega) f;omega
 .omega
theorem jbS.eq_eq (h:jbS c) {a b d:α} (e:c a b=0) (f:c b d=0):c a d=0:=by
 have g:=h.trans a b d (by omega) (by omega);have i:=h.anti a d;have j:=h.anti a b;have k:=h.anti b d;have:=h.trans d b a (by omega) (by omega);omega
def jBS (c1 c2:α->α->Int) (a b:α):Int:=if c1 a b≠0 then c1 a b else c2 a b
theorem jhk (c:jbS c1) (g:jbS c2):jbS (jBS c1 c2) where
 anti a b:=by
  have i:=c.anti a b;have h:=g.anti a b;unfold jBS;by_cases e:c1 a b=0
  .rw[if_neg (by omega),if_neg (by omega)];exact h
  .rw[if_pos (by omega),if_pos e];exact i
 trans a b d:=by
  unfold jBS;by_cases e:c1 a b=0
  .rw[if_neg (by omega)];by_cases f:c1 b d=0
   .rw[if_neg (by omega),if_neg (by have:=c.eq_eq e f;omega)];exact g.trans a b d
   .rw[if_pos f];intro _ k;have:=c.le_lt (a:=a) (b:=b) (d:=d) (by omega) (by omega);rw[if_pos (by omega)];omega
  .rw[if_pos e];intro k;by_cases f:c1 b d=0
   .rw[if_neg (by omega)];intro _;have:=c.lt_le (a:=a) (b:=b) (d:=d) (by omega) (by omega);rw[if_pos (by omega)];omega
   .rw[if_pos f];intro h;have:=c.lt_le (a:=a) (b:=b) (d:=d) (by omega) (by omega);rw[if_pos (by omega)];omega
theorem jhX {e:Type} (h:jbS c) (f:e->α):jbS (fun a b=>c (f a) (f b)):=⟨fun a b=>h.anti (f a) (f b),fun a b d=>h.trans (f a) (f b) (f d)⟩
end
theorem jgB:jbS U.jaz:=by
 constructor
 .intro a b;unfold U.jaz;split<;>split<;>(try split)<;>(try split)<;>omega
 .intro a b d;unfold U.jaz;split<;>split<;>(try split)<;>(try split)<;>(try split)<;>(try split)<;>omega
theorem jBn {a b:Int}:U.jaz a b<0↔a<b:=by
 unfold U.jaz
 split
 .simp;omega
 .split<;>simp<;>omega
theorem vY {a b:Int}:U.jaz a b=0↔a=b:=by
 unfold U.jaz
 split
 .simp;omega
 .split
  .simp;omega
  .simp;omega
theorem zJ (x:Int) (l:List Int):U.wY (x::l)=if x≠0 then x else U.wY l:=by
 unfold U.wY;by_cases e:x=0
 .simp[List.find?,e]
 .simp[List.find?,e]
theorem wM (x:Int):U.wY [x]=x:=by
 rw[zJ]
 split
 .rfl
 .rename_i h;have:x=0:=(by omega);rw[this];rfl
theorem jn7 {t:Ty} {c:t.Data->t.Data->Int} (d:jbS c) {l:List t.Data} (h:∀x y,x∈l->y∈l->c x y=0->x=y):wc (U.jl t fun x=>(c x.1 x.2.1,())) l where
 irrefl x _:=by
  unfold U.jl;have:=d.refl x;simp only[this];rfl
 trans x y z _ _ _ b a:=by
  unfold U.jl at*;have b:=of_decide_eq_true b;have a:=of_decide_eq_true a;exact decide_eq_true (d.lt_le b (by have a:c y z<0:=a;show c y z<=0;omega))
 total x y hx hy b a:=by
  unfold U.jl at*;have b:¬c x y<0:=of_decide_eq_false b;have a:¬c y x<0:=of_decide_eq_false a;have:=d.anti x y;exact h x y hx hy (by omega)
end Go.X
namespace Go.X
namespace M
theorem mput_cons {kt:Ty} {a:Type} (k:kt.Data) (v:a) (e:kt.Data×a) (r:List (kt.Data×a)):jeJ kt k v (e::r)=if @decide (k=e.1) (kt.decEq k e.1)=true then(k,v)::r else e::jeJ kt k v r:=rfl
theorem mfind_cons {kt:Ty} {a:Type} (k:kt.Data) (e:kt.Data×a) (r:List (kt.Data×a)):zW kt k (e::r)=if @decide (k=e.1) (kt.decEq k e.1)=true then some e.2 else zW kt k r:=rfl
theorem dec_self {kt:Ty} (k:kt.Data): @decide (k=k) (kt.decEq k k)=true:= @decide_eq_true _ (kt.decEq k k) rfl
theorem mput_fst {kt:Ty} {b:Type} (k:kt.Data) (v:b):∀m:List (kt.Data×b),(jeJ kt k v m).map (·.1)=m.map (·.1)\/(k∉m.map (·.1)/\(jeJ kt k v m).map (·.1)=m.map (·.1)++[k])
 |[]=> .inr ⟨by simp,rfl⟩
 |e::r=>by
  rw[mput_cons]
  by_cases h: @decide (k=e.1) (kt.decEq k e.1)=true
  .rw[if_pos h]
   have h:k=e.1:= @of_decide_eq_true _ (kt.decEq k e.1) h
   left
   simp[h]
  .rw[if_neg h]
   have h:¬k=e.1:=fun a=>h (@decide_eq_true _ (kt.decEq k e.1) a)
   rcases mput_fst k v r with f|⟨c,d⟩
   .left;simp only[jIQ,f]
   .right
    refine⟨?_,by simp only[jIQ,d,jIf]⟩
    rw[jIQ,jHL]
    rintro(a|a)
    .exact h a
    .exact c a
theorem mfind_mput {kt:Ty} {a:Type} (k:kt.Data) (v:a):∀l:List (kt.Data×a),zW kt k (jeJ kt k v l)=some v
 |[]=>by
  rw[show jeJ kt k v []=[(k,v)] from rfl,mfind_cons,if_pos (dec_self k)]
 |e::r=>by
  rw[mput_cons]
  by_cases h: @decide (k=e.1) (kt.decEq k e.1)=true
  .rw[if_pos h,mfind_cons,if_pos (dec_self k)]
  .rw[if_neg h,mfind_cons,if_neg h]
   exact mfind_mput k v r
theorem mfind_mput_ne {kt:Ty} {b:Type} {k k':kt.Data} (a:k'≠k) (v:b):∀l:List (kt.Data×b),zW kt k' (jeJ kt k v l)=zW kt k' l
 |[]=>by
  rw[show jeJ kt k v []=[(k,v)] from rfl,mfind_cons,if_neg (fun e=>a (@of_decide_eq_true _ (kt.decEq k' k) e))]
 |e::r=>by
  rw[mput_cons]
  by_cases h: @decide (k=e.1) (kt.decEq k e.1)=true
  .rw[if_pos h]
   have h:k=e.1:= @of_decide_eq_true _ (kt.decEq k e.1) h
   have d:¬@decide (k'=e.1) (kt.decEq k' e.1)=true:=fun c=>a ((@of_decide_eq_true _ (kt.decEq k' e.1) c).trans h.symm)
   rw[mfind_cons,mfind_cons,if_neg d,if_neg (fun e=>a (@of_decide_eq_true _ (kt.decEq k' k) e))]
  .rw[if_neg h,mfind_cons,mfind_cons,mfind_mput_ne a v r]
end M
end Go.X
namespace Go.Proofs
open Go.Shelf
def Tryz.sortSh_ren:Go.Shelf.Ren:=⟨fun|6=>98|15=>143|14=>142|28=>175|29=>176|20=>167|21=>168|22=>169|23=>170|24=>171|25=>172|26=>173|27=>174|46=>195|47=>196|48=>197|49=>198|50=>199|57=>212|n=>n,fun|22=>28|24=>54|25=>128|3=>3|39=>95|0=>0|53=>188|55=>190|4=>4|46=>181|45=>180|50=>185|5=>5|9=>9|66=>203|70=>207|76=>218|77=>219|n=>n,fun|n=>n⟩
theorem Tryz.sortSh:Go.Proofs.SlLaysF0.n6 Tryz.prog Tryz.sortSh_ren:={
 mixed:=by kernel_rfl
 f6:=⟨Tryz.f98.name,by decide,Tryz.func98.trans (congrArg some (by kernel_rfl))⟩
 f14:=⟨Tryz.f142.name,by decide,Tryz.func142.trans (congrArg some (by kernel_rfl))⟩
 f15:=Tryz.func143.trans (congrArg some (by kernel_rfl))
 f20:=⟨Tryz.f167.name,by decide,Tryz.func167.trans (congrArg some (by kernel_rfl))⟩
 f21:=⟨Tryz.f168.name,by decide,Tryz.func168.trans (congrArg some (by kernel_rfl))⟩
 f22:=⟨Tryz.f169.name,by decide,Tryz.func169.trans (congrArg some (by kernel_rfl))⟩
 f23:=⟨Tryz.f170.name,by decide,Tryz.func170.trans (congrArg some (by kernel_rfl))⟩
 f24:=⟨Tryz.f171.name,by decide,Tryz.func171.trans (congrArg some (by kernel_rfl))⟩
 f25:=⟨Tryz.f172.name,by decide,Tryz.func172.trans (congrArg some (by kernel_rfl))⟩
 f26:=⟨Tryz.f173.name,by decide,Tryz.func173.trans (congrArg some (by kernel_rfl))⟩
 f27:=⟨Tryz.f174.name,by decide,Tryz.func174.trans (congrArg some (by kernel_rfl))⟩
 f28:=Tryz.func175.trans (congrArg some (by kernel_rfl))
 f29:=Tryz.func176.trans (congrArg some (by kernel_rfl))
 f46:=⟨Tryz.f195.name,by decide,Tryz.func195.trans (congrArg some (by kernel_rfl))⟩
 f47:=Tryz.func196.trans (congrArg some (by kernel_rfl))
 f48:=Tryz.func197.trans (congrArg some (by kernel_rfl))
 f49:=⟨Tryz.f198.name,by decide,Tryz.func198.trans (congrArg some (by kernel_rfl))⟩
 f50:=⟨Tryz.f199.name,by decide,Tryz.func199.trans (congrArg some (by kernel_rfl))⟩
 f57:=⟨Tryz.f212.name,by decide,Tryz.func212.trans (congrArg some (by kernel_rfl))⟩
 t0:=Tryz.underlying0
 a0:=Tryz.isAgg0
 z0:=Tryz.sizeOf0
 v0:=Tryz.zeroValue0
 t3:=Tryz.underlying3
 a3:=Tryz.isAgg3
 z3:=Tryz.sizeOf3
 v3:=Tryz.zeroValue3
 t4:=Tryz.underlying4
 a4:=Tryz.isAgg4
 z4:=Tryz.sizeOf4
 v4:=Tryz.zeroValue4
 t5:=Tryz.underlying5
 a5:=Tryz.isAgg5
 z5:=Tryz.sizeOf5
 v5:=Tryz.zeroValue5
 t9:=Tryz.underlying9
 a9:=Tryz.isAgg9
 z9:=Tryz.sizeOf9
 v9:=Tryz.zeroValue9
 t22:=Tryz.underlying28
 a22:=Tryz.isAgg28
 z22:=Tryz.sizeOf28
 v22:=Tryz.zeroValue28
 t25:=Tryz.underlying128
 a25:=Tryz.isAgg128
 z25:=Tryz.sizeOf128
 v25:=Tryz.zeroValue128
 t39:=Tryz.underlying95
 a39:=Tryz.isAgg95
 z39:=Tryz.sizeOf95
 v39:=Tryz.zeroValue95
 t45:=Tryz.underlying180
 a45:=Tryz.isAgg180
 z45:=Tryz.sizeOf180
 v45:=Tryz.zeroValue180
 t46:=Tryz.underlying181
 a46:=Tryz.isAgg181
 z46:=Tryz.sizeOf181
 v46:=Tryz.zeroValue181
 t50:=Tryz.underlying185
 a50:=Tryz.isAgg185
 z50:=Tryz.sizeOf185
 v50:=Tryz.zeroValue185
 t53:=Tryz.underlying188
 a53:=Tryz.isAgg188
 z53:=Tryz.sizeOf188
 v53:=Tryz.zeroValue188
 t55:=Tryz.underlying190
 a55:=Tryz.isAgg190
 z55:=Tryz.sizeOf190
 v55:=Tryz.zeroValue190
 t66:=Tryz.underlying203
 a66:=Tryz.isAgg203
 z66:=Tryz.sizeOf203
 v66:=Tryz.zeroValue203
 t70:=Tryz.underlying207
 a70:=Tryz.isAgg207
 z70:=Tryz.sizeOf207
 v70:=Tryz.zeroValue207
 t76:=Tryz.underlying218
 a76:=Tryz.isAgg218
 z76:=Tryz.sizeOf218
 v76:=Tryz.zeroValue218
 t77:=Tryz.underlying219
 a77:=Tryz.isAgg219
 z77:=Tryz.sizeOf219
 v77:=Tryz.zeroValue219}
def Tryz.sortI_ren:Go.Shelf.Ren:=⟨fun|189=>120|125=>143|257=>154|128=>175|129=>176|294=>180|295=>181|296=>182|297=>183|298=>184|299=>185|216=>186|300=>187|301=>188|328=>208|329=>196|330=>197|331=>209|332=>210|215=>144|343=>216|n=>n,fun|28=>33|3=>3|46=>95|0=>0|51=>188|53=>190|4=>4|183=>181|182=>180|131=>185|5=>5|9=>9|218=>203|222=>207|228=>218|229=>219|n=>n,fun|n=>n⟩
theorem Tryz.sortI:Go.Proofs.Lays.n189 Tryz.prog Tryz.sortI_ren:={
 mixed:=by kernel_rfl
 f125:=Tryz.func143.trans (congrArg some (by kernel_rfl))
 f128:=Tryz.func175.trans (congrArg some (by kernel_rfl))
 f129:=Tryz.func176.trans (congrArg some (by kernel_rfl))
 f189:=Tryz.func120.trans (congrArg some (by kernel_rfl))
 f215:=Tryz.func144.trans (congrArg some (by kernel_rfl))
 f216:=Tryz.func186.trans (congrArg some (by kernel_rfl))
 f257:=Tryz.func154.trans (congrArg some (by kernel_rfl))
 f294:=Tryz.func180.trans (congrArg some (by kernel_rfl))
 f295:=Tryz.func181.trans (congrArg some (by kernel_rfl))
 f296:=Tryz.func182.trans (congrArg some (by kernel_rfl))
 f297:=Tryz.func183.trans (congrArg some (by kernel_rfl))
 f298:=Tryz.func184.trans (congrArg some (by kernel_rfl))
 f299:=Tryz.func185.trans (congrArg some (by kernel_rfl))
 f300:=Tryz.func187.trans (congrArg some (by kernel_rfl))
 f301:=Tryz.func188.trans (congrArg some (by kernel_rfl))
 f328:=Tryz.func208.trans (congrArg some (by kernel_rfl))
 f329:=Tryz.func196.trans (congrArg some (by kernel_rfl))
 f330:=Tryz.func197.trans (congrArg some (by kernel_rfl))
 f331:=Tryz.func209.trans (congrArg some (by kernel_rfl))
 f332:=Tryz.func210.trans (congrArg some (by kernel_rfl))
 f343:=Tryz.func216.trans (congrArg some (by kernel_rfl))
 t0:=Tryz.underlying0
 a0:=Tryz.isAgg0
 z0:=Tryz.sizeOf0
 v0:=Tryz.zeroValue0
 t3:=Tryz.underlying3
 a3:=Tryz.isAgg3
 z3:=Tryz.sizeOf3
 v3:=Tryz.zeroValue3
 t4:=Tryz.underlying4
 a4:=Tryz.isAgg4
 z4:=Tryz.sizeOf4
 v4:=Tryz.zeroValue4
 t5:=Tryz.underlying5
 a5:=Tryz.isAgg5
 z5:=Tryz.sizeOf5
 v5:=Tryz.zeroValue5
 t9:=Tryz.underlying9
 a9:=Tryz.isAgg9
 z9:=Tryz.sizeOf9
 v9:=Tryz.zeroValue9
 t28:=Tryz.underlying33
 a28:=Tryz.isAgg33
 z28:=Tryz.sizeOf33
 v28:=Tryz.zeroValue33
 t46:=Tryz.underlying95
 a46:=Tryz.isAgg95
 z46:=Tryz.sizeOf95
 v46:=Tryz.zeroValue95
 t51:=Tryz.underlying188
 a51:=Tryz.isAgg188
 z51:=Tryz.sizeOf188
 v51:=Tryz.zeroValue188
 t53:=Tryz.underlying190
 a53:=Tryz.isAgg190
 z53:=Tryz.sizeOf190
 v53:=Tryz.zeroValue190
 t131:=Tryz.underlying185
 a131:=Tryz.isAgg185
 z131:=Tryz.sizeOf185
 v131:=Tryz.zeroValue185
 t182:=Tryz.underlying180
 a182:=Tryz.isAgg180
 z182:=Tryz.sizeOf180
 v182:=Tryz.zeroValue180
 t183:=Tryz.underlying181
 a183:=Tryz.isAgg181
 z183:=Tryz.sizeOf181
 v183:=Tryz.zeroValue181
 t218:=Tryz.underlying203
 a218:=Tryz.isAgg203
 z218:=Tryz.sizeOf203
 v218:=Tryz.zeroValue203
 t222:=Tryz.underlying207
 a222:=Tryz.isAgg207
 z222:=Tryz.sizeOf207
 v222:=Tryz.zeroValue207
 t228:=Tryz.underlying218
 a228:=Tryz.isAgg218
 z228:=Tryz.sizeOf218
 v228:=Tryz.zeroValue218
 t229:=Tryz.underlying219
 a229:=Tryz.isAgg219
 z229:=Tryz.sizeOf219
 v229:=Tryz.zeroValue219}
end Go.Proofs
namespace Go.X
open Go.Proofs
abbrev rwS:Sh:= .cl (.row 54 tSh .unk)
namespace U
def jh0 (s:SpD):Bool:=(decide (0<=lo s)&&decide (lo s<=hi s))&&decide (hi s<=300)
def jkj (n:Nat) (b:BkD):Bool:=((ja (jrT b) 0 ((n:Int)-1)&&decide (0<=ve b))&&decide (ve b<jnm b))&&decide (jnm b<=1440)
def jqC (nb a:Nat) (s:ShD):Bool:=(((ja (wI s) 0 99&&ja (jly s) 0 9999)&&ja (jy6 s) 1 2)&&ja (jbU s) 0 ((nb:Int)-1))&&ja (qo s) 0 ((a:Int)-1)
def y6 (a b:ShD):Int:=wY [jaz (wI a) (wI b),jaz (jly a) (jly b),jaz (jy6 a) (jy6 b),jaz (jbU a) (jbU b),jaz (qo a) (qo b)]
def jF (a b:ShD):Int:=wY [jaz (jly a) (jly b),jaz (wI a) (wI b)]
def wN (a b:ShD):Bool:=decide (a=b)
def zj (l:List ShD):List ShD:=vM wN (je (jl tSh fun x=>(y6 x.1 x.2.1,())) l)
def jdu (m:List (Int×Int)) (s:ShD):List (Int×Int):=jeJ .int (wI s) (wl 0 (zW .int (wI s) m)+1) m
def wv (m:List (Int×Int)) (l:List ShD) (n:Nat):List (Int×Int):=(l.take n).foldl jdu m
def jvR (m:List (Int×Int)) (s:ShD):Bool:=decide (1<wl 0 (zW .int (wI s) (jdu m s)))
def jgK (m:List (Int×Int)) (l:List ShD) (i:Nat):Bool:=jvR (wv m l i) (nth l i)
def jcY (m:List (Int×Int)) (l:List ShD):Int:=jaF (jgK m l) (List.range l.length)
def jBK (m:List (Int×Int)) (l:List ShD):Nat:=match(List.range l.length).findIdx? (jgK m l) with|some i=>i+1|none=>l.length
def je3 (m:List (Int×Int)) (l:List ShD):List (Int×Int):=wv m l (jBK m l)
def jGA (m:List (Int×Int)):Prop:=m=[]
def jy5 (m:List (Int×Int)):Prop:=∀k,0<=wl 0 (zW .int k m)/\wl 0 (zW .int k m)<=200000
def jyl (l:List ShD):Bool:=decide (0<=jcY [] l)
def jlj (d:DyD):Int:=if js (jc d)=false then 30 else if jxe d=false then 31 else 0
def jU (d:DyD):Int:=if jlj d≠0 then jlj d else if zK d=false then 50 else if jyl (zj (zc d))=true then 51 else 0
end U
def jsx:j9:=⟨[.val .int,.val .int,.val .int],[.bool],false,fun _=>[],fun d=>(U.ja d.1 d.2.1 d.2.2.1,())⟩
def jr0:Prop:=∀(d:Int×Int×Int×Unit),(decide (d.2.1<=d.1)&&decide (d.1<=d.2.2.1),())=(U.ja d.1 d.2.1 d.2.2.1,())
def jdC:j9:=⟨[.val (.slice tSp),.fn [tSp] [.bool]],[.int],false,fun d=>[∀g∈d.1,U.jL (d.2.1.pre (g,()))],fun d=>(U.jaF (U.jd (α:=SpD) d.2.1.F) d.1,())⟩
def jdR:Ann:=fun r=>match r with
 |2=>some fun σ=>{X:=Nat,sl:=fun i=>[(8,.dat .int (i:Int))],ob:=fun _=>[],inv:=fun i=>i<=(gd (.slice tSp) σ 0).length/\∀b:Nat,b<i->U.jd (gfb tSp σ 1) (nth (gd (.slice tSp) σ 0) b)=false,mu:=fun i=>(gd (.slice tSp) σ 0).length-i}
 |_=>none
def jdy:Prop:=∀(d:List (Int×Int×Unit)×FnD [tSp] [Ty.bool]×Unit),(∀(g:Int×Int×Unit),g∈d.1->U.jL (d.2.1.1 (g,())))->d.1.length<4611686018427387904->(∃(x:Nat),((0=(x:Int)/\True)/\True)/\x<=d.1.length/\∀(b:Nat),b<x->U.jd d.2.1.2 (nth d.1 b)=false)/\∀(x:Nat),(x<=d.1.length/\∀(b:Nat),b<x->U.jd d.2.1.2 (nth d.1 b)=false)->(decide ((x:Int)<(d.1.length:Int))=true->0<=(x:Int)/\(x:Int)<(d.1.length:Int)/\asks (d.2.1.1 (nth d.1 (x:Int).toNat,())) (((d.2.1.2 (nth d.1 (x:Int).toNat,())).1=true->((x:Int),())=(U.jaF (U.jd d.2.1.2) d.1,()))/\((d.2.1.2 (nth d.1 (x:Int).toNat,())).1=false->jz ((x:Int)+1)/\∃(a:Nat),(((x:Int)+1=(a:Int)/\True)/\True)/\(a<=d.1.length/\∀(b:Nat),b<a->U.jd d.2.1.2 (nth d.1 b)=false)/\d.1.length-a<d.1.length-x)))/\(decide ((x:Int)<(d.1.length:Int))=false->((-1:Int),())=(U.jaF (U.jd d.2.1.2) d.1,()))
def jaQ:j9:=⟨[.val (.slice tSp),.fn [tSp] [.bool]],[.bool],false,fun d=>[∀g∈d.1,U.jL (d.2.1.pre (g,()))],fun d=>(d.1.any (U.jd (α:=SpD) d.2.1.F),())⟩
def jaN:Prop:=∀(d:List (Int×Int×Unit)×FnD [tSp] [Ty.bool]×Unit),(∀(g:Int×Int×Unit),g∈d.1->U.jL (d.2.1.1 (g,())))->(∀(g:Int×Int×Unit),g∈d.1->U.jL (d.2.1.1 (g,())))/\(decide (0<=U.jaF (U.jd d.2.1.2) d.1),())=(d.1.any (U.jd d.2.1.2),())
def jb5:j9:=⟨[.val (.slice (.slice tSp)),.fn [(.slice tSp)] [.bool]],[.int],false,fun d=>[∀g∈d.1,U.jL (d.2.1.pre (g,()))],fun d=>(U.jaF (U.jd (α:=(List SpD)) d.2.1.F) d.1,())⟩
def jcV:Ann:=fun r=>match r with
 |2=>some fun σ=>{X:=Nat,sl:=fun i=>[(8,.dat .int (i:Int))],ob:=fun _=>[],inv:=fun i=>i<=(gd (.slice (.slice tSp)) σ 0).length/\∀b:Nat,b<i->U.jd (gfb (.slice tSp) σ 1) (nth (gd (.slice (.slice tSp)) σ 0) b)=false,mu:=fun i=>(gd (.slice (.slice tSp)) σ 0).length-i}
 |_=>none
def jbY:Prop:=∀(d:List (List (Int×Int×Unit))×FnD [tSp.slice] [Ty.bool]×Unit),(∀(g:List (Int×Int×Unit)),g∈d.1->U.jL (d.2.1.1 (g,())))->d.1.length<4611686018427387904->(∃(x:Nat),((0=(x:Int)/\True)/\True)/\x<=d.1.length/\∀(b:Nat),b<x->U.jd d.2.1.2 (nth d.1 b)=false)/\∀(x:Nat),(x<=d.1.length/\∀(b:Nat),b<x->U.jd d.2.1.2 (nth d.1 b)=false)->(decide ((x:Int)<(d.1.length:Int))=true->0<=(x:Int)/\(x:Int)<(d.1.length:Int)/\asks (d.2.1.1 (nth d.1 (x:Int).toNat,())) (((d.2.1.2 (nth d.1 (x:Int).toNat,())).1=true->((x:Int),())=(U.jaF (U.jd d.2.1.2) d.1,()))/\((d.2.1.2 (nth d.1 (x:Int).toNat,())).1=false->jz ((x:Int)+1)/\∃(a:Nat),(((x:Int)+1=(a:Int)/\True)/\True)/\(a<=d.1.length/\∀(b:Nat),b<a->U.jd d.2.1.2 (nth d.1 b)=false)/\d.1.length-a<d.1.length-x)))/\(decide ((x:Int)<(d.1.length:Int))=false->((-1:Int),())=(U.jaF (U.jd d.2.1.2) d.1,()))
def gK:j9:=⟨[.val (.slice (.slice tSp)),.fn [(.slice tSp)] [.bool]],[.bool],false,fun d=>[∀g∈d.1,U.jL (d.2.1.pre (g,()))],fun d=>(d.1.any (U.jd (α:=(List SpD)) d.2.1.F),())⟩
def gG:Prop:=∀(d:List (List (Int×Int×Unit))×FnD [tSp.slice] [Ty.bool]×Unit),(∀(g:List (Int×Int×Unit)),g∈d.1->U.jL (d.2.1.1 (g,())))->(∀(g:List (Int×Int×Unit)),g∈d.1->U.jL (d.2.1.1 (g,())))/\(decide (0<=U.jaF (U.jd d.2.1.2) d.1),())=(d.1.any (U.jd d.2.1.2),())
def jaP:j9:=⟨[.val (.slice tBk),.fn [tBk] [.bool]],[.int],false,fun d=>[∀g∈d.1,U.jL (d.2.1.pre (g,()))],fun d=>(U.jaF (U.jd (α:=BkD) d.2.1.F) d.1,())⟩
def jbk:Ann:=fun r=>match r with
 |2=>some fun σ=>{X:=Nat,sl:=fun i=>[(8,.dat .int (i:Int))],ob:=fun _=>[],inv:=fun i=>i<=(gd (.slice tBk) σ 0).length/\∀b:Nat,b<i->U.jd (gfb tBk σ 1) (nth (gd (.slice tBk) σ 0) b)=false,mu:=fun i=>(gd (.slice tBk) σ 0).length-i}
 |_=>none
def jaM:Prop:=∀(d:List BkD×FnD [tBk] [Ty.bool]×Unit),(∀(g:BkD),g∈d.1->U.jL (d.2.1.1 (g,())))->d.1.length<4611686018427387904->(∃(x:Nat),((0=(x:Int)/\True)/\True)/\x<=d.1.length/\∀(b:Nat),b<x->U.jd d.2.1.2 (nth d.1 b)=false)/\∀(x:Nat),(x<=d.1.length/\∀(b:Nat),b<x->U.jd d.2.1.2 (nth d.1 b)=false)->(decide ((x:Int)<(d.1.length:Int))=true->0<=(x:Int)/\(x:Int)<(d.1.length:Int)/\asks (d.2.1.1 (nth d.1 (x:Int).toNat,())) (((d.2.1.2 (nth d.1 (x:Int).toNat,())).1=true->((x:Int),())=(U.jaF (U.jd d.2.1.2) d.1,()))/\((d.2.1.2 (nth d.1 (x:Int).toNat,())).1=false->jz ((x:Int)+1)/\∃(a:Nat),(((x:Int)+1=(a:Int)/\True)/\True)/\(a<=d.1.length/\∀(b:Nat),b<a->U.jd d.2.1.2 (nth d.1 b)=false)/\d.1.length-a<d.1.length-x)))/\(decide ((x:Int)<(d.1.length:Int))=false->((-1:Int),())=(U.jaF (U.jd d.2.1.2) d.1,()))
def yJ:j9:=⟨[.val (.slice tBk),.fn [tBk] [.bool]],[.bool],false,fun d=>[∀g∈d.1,U.jL (d.2.1.pre (g,()))],fun d=>(d.1.any (U.jd (α:=BkD) d.2.1.F),())⟩
def yH:Prop:=∀(d:List BkD×FnD [tBk] [Ty.bool]×Unit),(∀(g:BkD),g∈d.1->U.jL (d.2.1.1 (g,())))->(∀(g:BkD),g∈d.1->U.jL (d.2.1.1 (g,())))/\(decide (0<=U.jaF (U.jd d.2.1.2) d.1),())=(d.1.any (U.jd d.2.1.2),())
def jb6:j9:=⟨[.val (.slice tSh),.fn [tSh] [.bool]],[.int],false,fun d=>[∀g∈d.1,U.jL (d.2.1.pre (g,()))],fun d=>(U.jaF (U.jd (α:=ShD) d.2.1.F) d.1,())⟩
def jcW:Ann:=fun r=>match r with
 |2=>some fun σ=>{X:=Nat,sl:=fun i=>[(8,.dat .int (i:Int))],ob:=fun _=>[],inv:=fun i=>i<=(gd (.slice tSh) σ 0).length/\∀b:Nat,b<i->U.jd (gfb tSh σ 1) (nth (gd (.slice tSh) σ 0) b)=false,mu:=fun i=>(gd (.slice tSh) σ 0).length-i}
 |_=>none
def jbZ:Prop:=∀(d:List ShD×FnD [tSh] [Ty.bool]×Unit),(∀(g:ShD),g∈d.1->U.jL (d.2.1.1 (g,())))->d.1.length<4611686018427387904->(∃(x:Nat),((0=(x:Int)/\True)/\True)/\x<=d.1.length/\∀(b:Nat),b<x->U.jd d.2.1.2 (nth d.1 b)=false)/\∀(x:Nat),(x<=d.1.length/\∀(b:Nat),b<x->U.jd d.2.1.2 (nth d.1 b)=false)->(decide ((x:Int)<(d.1.length:Int))=true->0<=(x:Int)/\(x:Int)<(d.1.length:Int)/\asks (d.2.1.1 (nth d.1 (x:Int).toNat,())) (((d.2.1.2 (nth d.1 (x:Int).toNat,())).1=true->((x:Int),())=(U.jaF (U.jd d.2.1.2) d.1,()))/\((d.2.1.2 (nth d.1 (x:Int).toNat,())).1=false->jz ((x:Int)+1)/\∃(a:Nat),(((x:Int)+1=(a:Int)/\True)/\True)/\(a<=d.1.length/\∀(b:Nat),b<a->U.jd d.2.1.2 (nth d.1 b)=false)/\d.1.length-a<d.1.length-x)))/\(decide ((x:Int)<(d.1.length:Int))=false->((-1:Int),())=(U.jaF (U.jd d.2.1.2) d.1,()))
def gL:j9:=⟨[.val (.slice tSh),.fn [tSh] [.bool]],[.bool],false,fun d=>[∀g∈d.1,U.jL (d.2.1.pre (g,()))],fun d=>(d.1.any (U.jd (α:=ShD) d.2.1.F),())⟩
def gH:Prop:=∀(d:List ShD×FnD [tSh] [Ty.bool]×Unit),(∀(g:ShD),g∈d.1->U.jL (d.2.1.1 (g,())))->(∀(g:ShD),g∈d.1->U.jL (d.2.1.1 (g,())))/\(decide (0<=U.jaF (U.jd d.2.1.2) d.1),())=(d.1.any (U.jd d.2.1.2),())
def jgZ:j9:=⟨[.val tSp,.rfn [tSp] [.bool]],[.bool],false,fun d=>[U.jL (d.2.1.pre (d.1,()))],fun d=>(!(U.jd (α:=SpD) d.2.1.F d.1),())⟩
def jgU:Prop:=∀(d:(Int×Int×Unit)×FnD [tSp] [Ty.bool]×Unit),U.jL (d.2.1.1 (d.1,()))->asks (d.2.1.1 (d.1,())) ((!(d.2.1.2 (d.1,())).1,())=(!U.jd d.2.1.2 d.1,()))
def jjE:j9:=⟨[.val (.slice tSp),.fn [tSp] [.bool]],[.bool],false,fun d=>[∀g∈d.1,U.jL (d.2.1.pre (g,()))],fun d=>(d.1.all (U.jd (α:=SpD) d.2.1.F),())⟩
def jjs:Prop:=∀(d:List (Int×Int×Unit)×FnD [tSp] [Ty.bool]×Unit),(∀(g:Int×Int×Unit),g∈d.1->U.jL (d.2.1.1 (g,())))->(∀(g:Int×Int×Unit),g∈d.1->U.jL [U.jL (d.2.1.1 (g,()))])/\(!d.1.any (U.jd fun(a:(Int×Int×Unit)×Unit)=>(!U.jd d.2.1.2 a.1,())),())=(d.1.all (U.jd d.2.1.2),())
def jfG:j9:=⟨[.val (.slice tSp),.rfn [(.slice tSp)] [.bool]],[.bool],false,fun d=>[U.jL (d.2.1.pre (d.1,()))],fun d=>(!(U.jd (α:=(List SpD)) d.2.1.F d.1),())⟩
def jft:Prop:=∀(d:List (Int×Int×Unit)×FnD [tSp.slice] [Ty.bool]×Unit),U.jL (d.2.1.1 (d.1,()))->asks (d.2.1.1 (d.1,())) ((!(d.2.1.2 (d.1,())).1,())=(!U.jd d.2.1.2 d.1,()))
def jiw:j9:=⟨[.val (.slice (.slice tSp)),.fn [(.slice tSp)] [.bool]],[.bool],false,fun d=>[∀g∈d.1,U.jL (d.2.1.pre (g,()))],fun d=>(d.1.all (U.jd (α:=(List SpD)) d.2.1.F),())⟩
def jim:Prop:=∀(d:List (List (Int×Int×Unit))×FnD [tSp.slice] [Ty.bool]×Unit),(∀(g:List (Int×Int×Unit)),g∈d.1->U.jL (d.2.1.1 (g,())))->(∀(g:List (Int×Int×Unit)),g∈d.1->U.jL [U.jL (d.2.1.1 (g,()))])/\(!d.1.any (U.jd fun(a:List (Int×Int×Unit)×Unit)=>(!U.jd d.2.1.2 a.1,())),())=(d.1.all (U.jd d.2.1.2),())
def jdD:j9:=⟨[.val tBk,.rfn [tBk] [.bool]],[.bool],false,fun d=>[U.jL (d.2.1.pre (d.1,()))],fun d=>(!(U.jd (α:=BkD) d.2.1.F d.1),())⟩
def jdB:Prop:=∀(d:BkD×FnD [tBk] [Ty.bool]×Unit),U.jL (d.2.1.1 (d.1,()))->asks (d.2.1.1 (d.1,())) ((!(d.2.1.2 (d.1,())).1,())=(!U.jd d.2.1.2 d.1,()))
def jfI:j9:=⟨[.val (.slice tBk),.fn [tBk] [.bool]],[.bool],false,fun d=>[∀g∈d.1,U.jL (d.2.1.pre (g,()))],fun d=>(d.1.all (U.jd (α:=BkD) d.2.1.F),())⟩
def jfv:Prop:=∀(d:List BkD×FnD [tBk] [Ty.bool]×Unit),(∀(g:BkD),g∈d.1->U.jL (d.2.1.1 (g,())))->(∀(g:BkD),g∈d.1->U.jL [U.jL (d.2.1.1 (g,()))])/\(!d.1.any (U.jd fun(a:BkD×Unit)=>(!U.jd d.2.1.2 a.1,())),())=(d.1.all (U.jd d.2.1.2),())
def jfH:j9:=⟨[.val tSh,.rfn [tSh] [.bool]],[.bool],false,fun d=>[U.jL (d.2.1.pre (d.1,()))],fun d=>(!(U.jd (α:=ShD) d.2.1.F d.1),())⟩
def jfu:Prop:=∀(d:ShD×FnD [tSh] [Ty.bool]×Unit),U.jL (d.2.1.1 (d.1,()))->asks (d.2.1.1 (d.1,())) ((!(d.2.1.2 (d.1,())).1,())=(!U.jd d.2.1.2 d.1,()))
def jix:j9:=⟨[.val (.slice tSh),.fn [tSh] [.bool]],[.bool],false,fun d=>[∀g∈d.1,U.jL (d.2.1.pre (g,()))],fun d=>(d.1.all (U.jd (α:=ShD) d.2.1.F),())⟩
def jin:Prop:=∀(d:List ShD×FnD [tSh] [Ty.bool]×Unit),(∀(g:ShD),g∈d.1->U.jL (d.2.1.1 (g,())))->(∀(g:ShD),g∈d.1->U.jL [U.jL (d.2.1.1 (g,()))])/\(!d.1.any (U.jd fun(a:ShD×Unit)=>(!U.jd d.2.1.2 a.1,())),())=(d.1.all (U.jd d.2.1.2),())
def jpK:j9:=⟨[.val tSp],[.bool],false,fun _=>[],fun d=>(U.jh0 d.1,())⟩
def jpm:Prop:=∀(d:(Int×Int×Unit)×Unit),(decide (0<=d.1.1)&&decide (d.1.1<=d.1.2.1)&&decide (d.1.2.1<=300),())=(U.jh0 d.1,())
def jpJ:j9:=⟨[.val (.slice tSp),.ref tDy,.rfn [tSp] [.bool]],[.bool],false,fun d=>[∀g∈d.1,U.jL (d.2.2.1.pre (g,()))],fun d=>(decide ((d.1.length:Int)=((U.jZ d.2.1).length:Int))&&d.1.all (U.jd (α:=SpD) d.2.2.1.F),())⟩
def jpl:Prop:=∀(d:List (Int×Int×Unit)×DyD×FnD [tSp] [Ty.bool]×Unit),(∀(g:Int×Int×Unit),g∈d.1->U.jL (d.2.2.1.1 (g,())))->d.1.length<4611686018427387904->d.2.1.2.1.length<4611686018427387904->(decide ((d.1.length:Int)=(d.2.1.2.1.length:Int))=true->∀(g:Int×Int×Unit),g∈d.1->U.jL (d.2.2.1.1 (g,())))/\(decide ((d.1.length:Int)=(d.2.1.2.1.length:Int))&&d.1.all (U.jd d.2.2.1.2),())=(decide ((d.1.length:Int)=(↑(U.jZ d.2.1).length:Int))&&d.1.all (U.jd d.2.2.1.2),())
def jpI:j9:=⟨[.val tBk,.ref tDy],[.bool],false,fun _=>[],fun d=>(U.jkj (U.jZ d.2.1).length d.1,())⟩
def jpk:Prop:=∀(d:BkD×DyD×Unit),d.2.1.2.1.length<4611686018427387904->jz ((d.2.1.2.1.length:Int)-1)/\(U.ja d.1.2.1 (0:Int) ((d.2.1.2.1.length:Int)-1)&&decide (0<=d.1.2.2.1)&&decide (d.1.2.2.1<d.1.2.2.2.1)&&decide (d.1.2.2.2.1<=1440),())=(U.jkj (U.jZ d.2.1).length d.1,())
def jpH:j9:=⟨[.val tSh,.ref tDy],[.bool],false,fun _=>[],fun d=>(U.jqC (U.ju d.2.1).length (U.jh (U.jc d.2.1)).length d.1,())⟩
abbrev q58_0 (d:ShD×DyD×Unit):=(U.ja d.1.1 (0:Int) (99:Int)&&U.ja d.1.2.1 (0:Int) (9999:Int)&&U.ja d.1.2.2.1 (1:Int) (2:Int)&&U.ja d.1.2.2.2.1 (0:Int) ((d.2.1.2.2.1.length:Int)-1))
abbrev q58_1 (d:ShD×DyD×Unit):=(U.ja d.1.1 (0:Int) (99:Int)&&U.ja d.1.2.1 (0:Int) (9999:Int)&&U.ja d.1.2.2.1 (1:Int) (2:Int))
def jpj:Prop:=∀(d:ShD×DyD×Unit),((q58_1 d)=true->d.2.1.2.2.1.length<4611686018427387904)->((q58_1 d)=true->jz ((d.2.1.2.2.1.length:Int)-1))/\(((q58_0 d)=true->d.2.1.1.2.1.length<4611686018427387904)->((q58_0 d)=true->jz ((d.2.1.1.2.1.length:Int)-1))/\(U.ja d.1.1 (0:Int) (99:Int)&&U.ja d.1.2.1 (0:Int) (9999:Int)&&U.ja d.1.2.2.1 (1:Int) (2:Int)&&U.ja d.1.2.2.2.1 (0:Int) ((d.2.1.2.2.1.length:Int)-1)&&U.ja d.1.2.2.2.2.1 (0:Int) ((d.2.1.1.2.1.length:Int)-1),())=(U.jqC (U.ju d.2.1).length (U.jh (U.jc d.2.1)).length d.1,()))
def jwq:j9:=⟨[.val tDy],[.bool],false,fun _=>[],fun d=>(U.zK d.1,())⟩
abbrev q59_0 (d:DyD×Unit):=((d.1.2.2.1.length:Int)<=4)
abbrev q59_1 (d:DyD×Unit):=(↑(U.jZ d.1).length:Int)
abbrev q59_2 (d:DyD×Unit):=(d.1.2.1.length:Int)
def jv3:Prop:=∀(d:DyD×Unit),d.1.2.2.1.length<4611686018427387904->(decide (q59_0 d)=true->d.1.2.1.length<4611686018427387904)->((decide (q59_0 d)&&U.ja (q59_2 d) (1:Int) (5:Int))=true->∀(g:List (Int×Int×Unit)),g∈d.1.2.1->U.jL [∀(a:Int×Int×Unit),a∈g->U.jL []])/\((decide (q59_0 d)&&U.ja (q59_2 d) (1:Int) (5:Int)&&d.1.2.1.all (U.jd fun(b:List (Int×Int×Unit)×Unit)=>(decide ((b.1.length:Int)=(q59_1 d))&&b.1.all (U.jd fun(h:(Int×Int×Unit)×Unit)=>(U.jh0 h.1,())),())))=true->∀(i:BkD),i∈d.1.2.2.1->U.jL [])/\(((decide (q59_0 d)&&U.ja (q59_2 d) (1:Int) (5:Int)&&d.1.2.1.all (U.jd fun(c:List (Int×Int×Unit)×Unit)=>(decide ((c.1.length:Int)=(q59_1 d))&&c.1.all (U.jd fun(j:(Int×Int×Unit)×Unit)=>(U.jh0 j.1,())),()))&&d.1.2.2.1.all (U.jd fun(n:BkD×Unit)=>(U.jkj (U.jZ d.1).length n.1,()))&&U.ja d.1.2.2.2.1 (0:Int) (300:Int)&&U.ja d.1.2.2.2.2.1 (0:Int) (1440:Int))=true->d.1.2.2.2.2.2.1.length<4611686018427387904)->((decide (q59_0 d)&&U.ja (q59_2 d) (1:Int) (5:Int)&&d.1.2.1.all (U.jd fun(e:List (Int×Int×Unit)×Unit)=>(decide ((e.1.length:Int)=(q59_1 d))&&e.1.all (U.jd fun(k:(Int×Int×Unit)×Unit)=>(U.jh0 k.1,())),()))&&d.1.2.2.1.all (U.jd fun(o:BkD×Unit)=>(U.jkj (U.jZ d.1).length o.1,()))&&U.ja d.1.2.2.2.1 (0:Int) (300:Int)&&U.ja d.1.2.2.2.2.1 (0:Int) (1440:Int)&&decide ((d.1.2.2.2.2.2.1.length:Int)<=30))=true->∀(l:ShD),l∈d.1.2.2.2.2.2.1->U.jL [])/\(decide (q59_0 d)&&U.ja (q59_2 d) (1:Int) (5:Int)&&d.1.2.1.all (U.jd fun(f:List (Int×Int×Unit)×Unit)=>(decide ((f.1.length:Int)=(q59_1 d))&&f.1.all (U.jd fun(m:(Int×Int×Unit)×Unit)=>(U.jh0 m.1,())),()))&&d.1.2.2.1.all (U.jd fun(z6:BkD×Unit)=>(U.jkj (U.jZ d.1).length z6.1,()))&&U.ja d.1.2.2.2.1 (0:Int) (300:Int)&&U.ja d.1.2.2.2.2.1 (0:Int) (1440:Int)&&decide ((d.1.2.2.2.2.2.1.length:Int)<=30)&&d.1.2.2.2.2.2.1.all (U.jd fun(z7:ShD×Unit)=>(U.jqC (U.ju d.1).length (U.jh (U.jc d.1)).length z7.1,())),())=(U.zK d.1,()))
def jiy:j9:=⟨[.val .int],[.bool],false,fun _=>[],fun _=>(false,())⟩
def jio:Prop:=∀(d:Int×Unit),(decide (d.1≠d.1),())=(false,())
def jfK:j9:=⟨[.val .int,.val .int],[.int],false,fun _=>[],fun d=>(U.jaz d.1 d.2.1,())⟩
abbrev q61_0 (d:Int×Int×Unit):=(U.jaz d.1 d.2.1,())
def jfx:Prop:=∀(d:Int×Int×Unit),(false=true->(false=true->((0:Int),())=(q61_0 d))/\(false=false->((-1:Int),())=(q61_0 d)))/\(false=false->(false=true->((1:Int),())=(q61_0 d))/\(false=false->(decide (d.1<d.2.1)=true->((-1:Int),())=(q61_0 d))/\(decide (d.1<d.2.1)=false->(decide (d.2.1<d.1)=true->((1:Int),())=(q61_0 d))/\(decide (d.2.1<d.1)=false->((0:Int),())=(q61_0 d)))))
def jnO:j9:=⟨[.val (.slice .int)],[.int],false,fun _=>[],fun d=>(U.wY d.1,())⟩
def jo0:Ann:=fun r=>match r with
 |3=>some fun σ=>{X:=Nat,sl:=fun i=>[(8,.dat .int (i:Int))],ob:=fun _=>[],inv:=fun i=>i<=(gd (.slice .int) σ 0).length/\∀b:Nat,b<i->nth (gd (.slice .int) σ 0) b=0,mu:=fun i=>(gd (.slice .int) σ 0).length-i}
 |_=>none
def jnA:Prop:=∀(d:List Int×Unit),d.1.length<4611686018427387904->(∃(x:Nat),((0=(x:Int)/\True)/\True)/\x<=d.1.length/\∀(b:Nat),b<x->nth d.1 b=0)/\∀(x:Nat),(x<=d.1.length/\∀(b:Nat),b<x->nth d.1 b=0)->(decide ((x:Int)<(d.1.length:Int))=true->0<=(x:Int)/\(x:Int)<(d.1.length:Int)/\(decide (nth d.1 (x:Int).toNat≠0)=true->(nth d.1 (x:Int).toNat,())=(U.wY d.1,()))/\(decide (nth d.1 (x:Int).toNat≠0)=false->jz ((x:Int)+1)/\∃(a:Nat),(((x:Int)+1=(a:Int)/\True)/\True)/\(a<=d.1.length/\∀(b:Nat),b<a->nth d.1 b=0)/\d.1.length-a<d.1.length-x))/\(decide ((x:Int)<(d.1.length:Int))=false->((0:Int),())=(U.wY d.1,()))
def jjF:j9:=⟨[.val tSh,.val tSh],[.int],false,fun _=>[],fun d=>(U.y6 d.1 d.2.1,())⟩
def jjt:Prop:=∀(d:ShD×ShD×Unit),(U.wY [U.jaz d.1.1 d.2.1.1,U.jaz d.1.2.1 d.2.1.2.1,U.jaz d.1.2.2.1 d.2.1.2.2.1,U.jaz d.1.2.2.2.1 d.2.1.2.2.2.1,U.jaz d.1.2.2.2.2.1 d.2.1.2.2.2.2.1],())=(U.y6 d.1 d.2.1,())
def jsy:j9:=⟨[.val tSh,.val tSh],[.int],false,fun _=>[],fun d=>(U.jF d.1 d.2.1,())⟩
def jr1:Prop:=∀(d:ShD×ShD×Unit),(U.wY [U.jaz d.1.2.1 d.2.1.2.1,U.jaz d.1.1 d.2.1.1],())=(U.jF d.1 d.2.1,())
def jg2:zQ:=⟨[.val (.slice tSh)],[rwS],fun d=>[d.1.length<=100000],fun d=>((d.1,()),())⟩
def jgQ:Prop:=∀(d:List ShD×Unit),d.1.length<=100000->∀(a:Bool),(a=true->d.1=[])->(a=true->([],())=d/\()=())/\(a=false->(0+d.1.length)*40<=140737488355328/\([]++d.1,())=d/\()=())
def jet:zQ:=⟨[.own rwS false],[rwS],fun d=>[d.1.length<=100000],fun d=>((U.vM U.wN d.1,()),())⟩
def jfc:Ann:=fun r=>match r with
 |4=>some fun σ=>{X:=Nat,sl:=fun i=>[(3,.dat .int (i:Int))],ob:=fun _=>[],inv:=fun i=>U.jE0 U.wN (gr tSh σ 1000000) i,mu:=fun i=>(gr tSh σ 1000000).length-i}
 |9=>some fun σ=>{X:=Nat×List ShD,sl:=fun x=>[(5,.dat .int (x.1:Int)),(3,.dat .int (U.jdX U.wN (gr tSh σ 1000000) ((gd .int σ 3).toNat+x.1)))],ob:=fun x=>[(1000000,some (.row 54 tSh false .unk x.2))],inv:=fun x=>U.jtD U.wN (gr tSh σ 1000000) (gd .int σ 3).toNat x.1 x.2,mu:=fun x=>(gr tSh σ 1000000).length-x.1}
 |_=>none
abbrev q66_0 (x:Nat)(a:Nat×List ShD):=((x:Int).toNat+a.1)
abbrev q66_2 (d:List ShD×Unit)(x:Nat)(a:Nat×List ShD):=(List.take (U.jdX U.wN d.1 (q66_0 x a)).toNat a.2++List.replicate ((a.2.length:Int).toNat-(U.jdX U.wN d.1 (q66_0 x a)).toNat) ((0:Int),(0:Int),(0:Int),(0:Int),(0:Int),()))
abbrev q66_3 (a:Nat×List ShD)(x:Nat):=(!decide (nth a.2 ((x:Int).toNat+(a.1:Int).toNat)=nth a.2 ((x:Int).toNat+((a.1:Int)-1).toNat)))
abbrev q66_4 (d:List ShD×Unit):=(d.1.length:Int)
abbrev q66_1 (d:List ShD×Unit)(x:Nat):=(↑((q66_4 d).toNat-(x:Int).toNat):Int)
def jei:Prop:=∀(d:List ShD×Unit),d.1.length<=100000->d.1.length<4611686018427387904->(decide ((q66_4 d)<2)=true->d=(U.vM U.wN d.1,())/\()=())/\(decide ((q66_4 d)<2)=false->(∃(x:Nat),((1=(x:Int)/\True)/\True)/\U.jE0 U.wN d.1 x)/\∀(x:Nat),U.jE0 U.wN d.1 x->d.1.length<4611686018427387904->(decide ((x:Int)<(q66_4 d))=true->0<=(x:Int)/\(x:Int)<(q66_4 d)/\jz ((x:Int)-1)/\0<=(x:Int)-1/\(x:Int)-1<(q66_4 d)/\(decide (nth d.1 (x:Int).toNat=nth d.1 ((x:Int)-1).toNat)=true->0<=(x:Int)/\(x:Int)<=(q66_4 d)/\(q66_4 d)<=(q66_4 d)/\(∃(a:Nat×List ShD),((1=(a.1:Int)/\(x:Int)=U.jdX U.wN d.1 (q66_0 x a)/\True)/\d.1=a.2/\True)/\U.jtD U.wN d.1 (x:Int).toNat a.1 a.2)/\∀(a:Nat×List ShD),U.jtD U.wN d.1 (x:Int).toNat a.1 a.2->(q66_4 d).toNat-(x:Int).toNat<4611686018427387904->(decide ((a.1:Int)<(q66_1 d x))=true->0<=(a.1:Int)/\(a.1:Int)<(q66_1 d x)/\jz ((a.1:Int)-1)/\0<=(a.1:Int)-1/\(a.1:Int)-1<(q66_1 d x)/\((q66_3 a x)=true->0<=(a.1:Int)/\(a.1:Int)<(q66_1 d x)/\0<=U.jdX U.wN d.1 (q66_0 x a)/\U.jdX U.wN d.1 (q66_0 x a)<(a.2.length:Int)/\jz (U.jdX U.wN d.1 (q66_0 x a)+1)/\jz ((a.1:Int)+1)/\∃(b:Nat×List ShD),(((a.1:Int)+1=(b.1:Int)/\U.jdX U.wN d.1 (q66_0 x a)+1=U.jdX U.wN d.1 ((x:Int).toNat+b.1)/\True)/\a.2.set (U.jdX U.wN d.1 (q66_0 x a)).toNat (nth a.2 ((x:Int).toNat+(a.1:Int).toNat))=b.2/\True)/\U.jtD U.wN d.1 (x:Int).toNat b.1 b.2/\d.1.length-b.1<d.1.length-a.1)/\((q66_3 a x)=false->jz ((a.1:Int)+1)/\∃(b:Nat×List ShD),((U.jdX U.wN d.1 (q66_0 x a)=U.jdX U.wN d.1 ((x:Int).toNat+b.1)/\(a.1:Int)+1=(b.1:Int)/\True)/\a.2=b.2/\True)/\U.jtD U.wN d.1 (x:Int).toNat b.1 b.2/\d.1.length-b.1<d.1.length-a.1))/\(decide ((a.1:Int)<(q66_1 d x))=false->0<=U.jdX U.wN d.1 (q66_0 x a)/\U.jdX U.wN d.1 (q66_0 x a)<=(a.2.length:Int)/\(a.2.length:Int)<=(a.2.length:Int)/\(U.jdX U.wN d.1 (q66_0 x a)).toNat+((a.2.length:Int).toNat-(U.jdX U.wN d.1 (q66_0 x a)).toNat)=a.2.length/\(0:Int)<=0/\0<=U.jdX U.wN d.1 (q66_0 x a)/\U.jdX U.wN d.1 (q66_0 x a)<=(↑(q66_2 d x a).length:Int)/\(List.take ((U.jdX U.wN d.1 (q66_0 x a)).toNat-Int.toNat 0) (q66_2 d x a),())=(U.vM U.wN d.1,())/\()=()))/\(decide (nth d.1 (x:Int).toNat=nth d.1 ((x:Int)-1).toNat)=false->jz ((x:Int)+1)/\∃(c:Nat),(((x:Int)+1=(c:Int)/\True)/\True)/\U.jE0 U.wN d.1 c/\d.1.length-c<d.1.length-x))/\(decide ((x:Int)<(q66_4 d))=false->d=(U.vM U.wN d.1,())/\()=()))
abbrev jdE:zQ:=jDE tSh 54
def jnS:zQ:=⟨[.val (.slice tSh)],[rwS],fun d=>[d.1.length<=100000],fun d=>((U.zj d.1,()),())⟩
abbrev q67_0:=(Ty.int.pair (Ty.int.pair (Ty.int.pair (Ty.int.pair (Ty.int.pair Ty.unit)))))
def jny:Prop:=∀(d:List ShD×Unit),d.1.length<=100000->d.1.length<=100000/\(∀(x:ShD),x∈d.1->∀(y:ShD),y∈d.1->U.jL [])/\wc (U.jl q67_0 fun(a:ShD×ShD×Unit)=>(U.y6 a.1 a.2.1,())) d.1/\(U.je (U.jl q67_0 fun(b:ShD×ShD×Unit)=>(U.y6 b.1 b.2.1,())) d.1).length<=100000/\(U.vM U.wN (U.je (U.jl q67_0 fun(c:ShD×ShD×Unit)=>(U.y6 c.1 c.2.1,())) d.1),())=(U.zj d.1,())/\()=()
def jpV:zQ:=⟨[.val tSh,.own (.box 125 [.map .int .int]) true],[.cl (.dat .bool)],fun d=>[U.jy5 d.2.1.1],fun d=>((U.jvR d.2.1.1 d.1,()),((U.jdu d.2.1.1 d.1,()),()))⟩
abbrev q68_0 (d:ShD×(List (Int×Int)×Unit)×Unit):=(wl (0:Int) (zW Ty.int d.1.1 d.2.1.1)+1)
def jpn:Prop:=∀(d:ShD×(List (Int×Int)×Unit)×Unit),U.jy5 d.2.1.1->jz (q68_0 d)/\(decide (1<wl (0:Int) (zW Ty.int d.1.1 (jeJ Ty.int d.1.1 (q68_0 d) d.2.1.1))),())=(U.jvR d.2.1.1 d.1,())/\((jeJ Ty.int d.1.1 (q68_0 d) d.2.1.1,()),())=((U.jdu d.2.1.1 d.1,()),())
abbrev clV:Sh:= .fbox 96 125 [.map .int .int]
def gO:zQ:=⟨[.val (.slice tSh),.own clV true],[.cl (.dat .int)],fun d=>[d.1.length<=100000,U.jGA d.2.1.1],fun d=>((U.jcY d.2.1.1 d.1,()),((U.je3 d.2.1.1 d.1,()),()))⟩
def jaB:Ann:=fun r=>match r with
 |2=>some fun σ=>{X:=Nat,sl:=fun i=>[(8,.dat .int (i:Int))],ob:=fun i=>[(400020,some (.map false .int .int (U.wv [] (gd (.slice tSh) σ 0) i)))],inv:=fun i=>i<=(gd (.slice tSh) σ 0).length/\∀b:Nat,b<i->U.jgK [] (gd (.slice tSh) σ 0) b=false,mu:=fun i=>(gd (.slice tSh) σ 0).length-i}
 |_=>none
def gF:Prop:=∀(d:List ShD×(List (Int×Int)×Unit)×Unit),d.1.length<=100000->U.jGA d.2.1.1->d.1.length<4611686018427387904->(∃(x:Nat),((0=(x:Int)/\True)/\d.2.1.1=U.wv [] d.1 x/\True)/\x<=d.1.length/\∀(b:Nat),b<x->U.jgK [] d.1 b=false)/\∀(x:Nat),(x<=d.1.length/\∀(b:Nat),b<x->U.jgK [] d.1 b=false)->(decide ((x:Int)<(d.1.length:Int))=true->0<=(x:Int)/\(x:Int)<(d.1.length:Int)/\U.jy5 (U.wv [] d.1 x)/\(U.jvR (U.wv [] d.1 x) (nth d.1 (x:Int).toNat)=true->((x:Int),())=(U.jcY d.2.1.1 d.1,())/\((U.jdu (U.wv [] d.1 x) (nth d.1 (x:Int).toNat),()),())=((U.je3 d.2.1.1 d.1,()),()))/\(U.jvR (U.wv [] d.1 x) (nth d.1 (x:Int).toNat)=false->jz ((x:Int)+1)/\∃(a:Nat),(((x:Int)+1=(a:Int)/\True)/\(True/\True)/\U.jdu (U.wv [] d.1 x) (nth d.1 (x:Int).toNat)=U.wv [] d.1 a/\True)/\(a<=d.1.length/\∀(b:Nat),b<a->U.jgK [] d.1 b=false)/\d.1.length-a<d.1.length-x))/\(decide ((x:Int)<(d.1.length:Int))=false->((-1:Int),())=(U.jcY d.2.1.1 d.1,())/\((U.wv [] d.1 x,()),())=((U.je3 d.2.1.1 d.1,()),()))
def yh:zQ:=⟨[.val (.slice tSh),.own clV true],[.cl (.dat .bool)],fun d=>[d.1.length<=100000,U.jGA d.2.1.1],fun d=>((decide (0<=U.jcY d.2.1.1 d.1),()),((U.je3 d.2.1.1 d.1,()),()))⟩
def yc:Prop:=∀(d:List ShD×(List (Int×Int)×Unit)×Unit),d.1.length<=100000->U.jGA d.2.1.1->d.1.length<=100000/\U.jGA d.2.1.1/\(decide (0<=U.jcY d.2.1.1 d.1),())=(decide (0<=U.jcY d.2.1.1 d.1),())/\((U.je3 d.2.1.1 d.1,()),())=((U.je3 d.2.1.1 d.1,()),())
def jwr:j9:=⟨[.val (.slice tSh)],[.bool],false,fun d=>[d.1.length<=100000],fun d=>(U.jyl d.1,())⟩
def jv4:Prop:=∀(d:List ShD×Unit),d.1.length<=100000->d.1.length<=100000/\U.jGA []/\(decide (0<=U.jcY [] d.1),())=(U.jyl d.1,())
def jlN:j9:=⟨[.val tDy],[.int],false,fun _=>[],fun d=>(U.jlj d.1,())⟩
def jmn:Ann:=fun r=>match r with
 |5=>some fun σ=>{X:=Nat,sl:=fun i=>[(17,.dat .int (i:Int))],ob:=fun _=>[],inv:=fun i=>i<=(gd (.slice tBk) σ 15).length/\∀b:Nat,b<i->U.za (U.jc (gd tDy σ 0)) (U.yG (nth (gd (.slice tBk) σ 15) b))=true,mu:=fun i=>(gd (.slice tBk) σ 15).length-i}
 |_=>none
abbrev q72_0:=((0:Int),(1:Int),(0:Int),(0:Int),(0:Int),(1:Int),())
def jlE:Prop:=∀(d:DyD×Unit),(decide (U.kl d.1.1 q72_0≠0)=true->(U.kl d.1.1 q72_0,())=(U.jlj d.1,()))/\(decide (U.kl d.1.1 q72_0≠0)=false->d.1.2.2.1.length<4611686018427387904->(∃(x:Nat),((0=(x:Int)/\True)/\True)/\x<=d.1.2.2.1.length/\∀(b:Nat),b<x->U.za (U.jc d.1) (U.yG (nth d.1.2.2.1 b))=true)/\∀(x:Nat),(x<=d.1.2.2.1.length/\∀(b:Nat),b<x->U.za (U.jc d.1) (U.yG (nth d.1.2.2.1 b))=true)->(decide ((x:Int)<(d.1.2.2.1.length:Int))=true->0<=(x:Int)/\(x:Int)<(d.1.2.2.1.length:Int)/\(decide (U.kl d.1.1 (nth d.1.2.2.1 (x:Int).toNat).1≠0)=true->(U.kl d.1.1 (nth d.1.2.2.1 (x:Int).toNat).1,())=(U.jlj d.1,()))/\(decide (U.kl d.1.1 (nth d.1.2.2.1 (x:Int).toNat).1≠0)=false->jz ((x:Int)+1)/\∃(a:Nat),(((x:Int)+1=(a:Int)/\True)/\True)/\(a<=d.1.2.2.1.length/\∀(b:Nat),b<a->U.za (U.jc d.1) (U.yG (nth d.1.2.2.1 b))=true)/\d.1.2.2.1.length-a<d.1.2.2.1.length-x))/\(decide ((x:Int)<(d.1.2.2.1.length:Int))=false->((0:Int),())=(U.jlj d.1,())))
def jwu:j9:=⟨[.val tDy],[.int],false,fun d=>[(U.zc d.1).length<=100000],fun d=>(U.jU d.1,())⟩
def jv7:Prop:=∀(d:DyD×Unit),(U.zc d.1).length<=100000->(decide (U.jlj d.1≠0)=true->(U.jlj d.1,())=(U.jU d.1,()))/\(decide (U.jlj d.1≠0)=false->((!U.zK d.1)=true->((50:Int),())=(U.jU d.1,()))/\((!U.zK d.1)=false->d.1.2.2.2.2.2.1.length<=100000/\(U.zj d.1.2.2.2.2.2.1).length<=100000/\(U.jyl (U.zj d.1.2.2.2.2.2.1)=true->((51:Int),())=(U.jU d.1,()))/\(U.jyl (U.zj d.1.2.2.2.2.2.1)=false->((0:Int),())=(U.jU d.1,()))))
end Go.X
namespace Go.X
open Go.Proofs
theorem jxj:jr0:=by
 intro d;rfl
theorem yp:zm PR 90 jsx:=j8 jxj Tryz.func90 kcN koN
theorem jeS:jdy:=by
 rintro⟨l,f,⟨⟩⟩ a g;refine⟨⟨0,⟨⟨rfl,trivial⟩,trivial⟩,jHR _,fun b c=>by omega⟩,fun i hi=>⟨fun h=> ?_,fun h=> ?_⟩⟩
 .have h:i<l.length:=(by simpa using h);simp only[jHQ] at*;refine⟨by omega,by omega,w7 _ (a _ (L.mem_nth h)) ⟨fun c=> ?_,fun c=>⟨L.in64 (by omega) (by omega),i+1,⟨⟨by simp,trivial⟩,trivial⟩,⟨by omega,fun b d=> ?_⟩,by omega⟩⟩⟩
  .rw[qm (p:=U.jd (α:=SpD) f.F) h hi.2 c]
  .by_cases e:b=i
   .subst e;exact c
   .exact hi.2 b (by omega)
 .have h:l.length<=i:=(by simpa using h);rw[wg (p:=U.jd (α:=SpD) f.F) h hi.2]
theorem jdK:zm PR 164 jdC:=kH jdR jeS Tryz.func164 kcN koN
theorem jbP:jaN:=by
 rintro⟨l,f,⟨⟩⟩ a;refine⟨a,?_⟩;exact congrArg (·,()) (jcJ (U.jd (α:=SpD) f.F) l)
theorem jaZ:zm PR 134 jaQ:=j8 jbP Tryz.func134 (kcC jdK kcN) koN
theorem jdO:jbY:=by
 rintro⟨l,f,⟨⟩⟩ a g;refine⟨⟨0,⟨⟨rfl,trivial⟩,trivial⟩,jHR _,fun b c=>by omega⟩,fun i hi=>⟨fun h=> ?_,fun h=> ?_⟩⟩
 .have h:i<l.length:=(by simpa using h);simp only[jHQ] at*;refine⟨by omega,by omega,w7 _ (a _ (L.mem_nth h)) ⟨fun c=> ?_,fun c=>⟨L.in64 (by omega) (by omega),i+1,⟨⟨by simp,trivial⟩,trivial⟩,⟨by omega,fun b d=> ?_⟩,by omega⟩⟩⟩
  .rw[qm (p:=U.jd (α:=(List SpD)) f.F) h hi.2 c]
  .by_cases e:b=i
   .subst e;exact c
   .exact hi.2 b (by omega)
 .have h:l.length<=i:=(by simpa using h);rw[wg (p:=U.jd (α:=(List SpD)) f.F) h hi.2]
theorem jco:zm PR 165 jb5:=kH jcV jdO Tryz.func165 kcN koN
theorem ja8:gG:=by
 rintro⟨l,f,⟨⟩⟩ a;refine⟨a,?_⟩;exact congrArg (·,()) (jcJ (U.jd (α:=(List SpD)) f.F) l)
theorem jaa:zm PR 136 gK:=j8 ja8 Tryz.func136 (kcC jco kcN) koN
theorem jbO:jaM:=by
 rintro⟨l,f,⟨⟩⟩ a g;refine⟨⟨0,⟨⟨rfl,trivial⟩,trivial⟩,jHR _,fun b c=>by omega⟩,fun i hi=>⟨fun h=> ?_,fun h=> ?_⟩⟩
 .have h:i<l.length:=(by simpa using h);simp only[jHQ] at*;refine⟨by omega,by omega,w7 _ (a _ (L.mem_nth h)) ⟨fun c=> ?_,fun c=>⟨L.in64 (by omega) (by omega),i+1,⟨⟨by simp,trivial⟩,trivial⟩,⟨by omega,fun b d=> ?_⟩,by omega⟩⟩⟩
  .rw[qm (p:=U.jd (α:=BkD) f.F) h hi.2 c]
  .by_cases e:b=i
   .subst e;exact c
   .exact hi.2 b (by omega)
 .have h:l.length<=i:=(by simpa using h);rw[wg (p:=U.jd (α:=BkD) f.F) h hi.2]
theorem jaY:zm PR 166 jaP:=kH jbk jbO Tryz.func166 kcN koN
theorem gy:yH:=by
 rintro⟨l,f,⟨⟩⟩ a;refine⟨a,?_⟩;exact congrArg (·,()) (jcJ (U.jd (α:=BkD) f.F) l)
theorem yL:zm PR 138 yJ:=j8 gy Tryz.func138 (kcC jaY kcN) koN
theorem jdP:jbZ:=by
 rintro⟨l,f,⟨⟩⟩ a g;refine⟨⟨0,⟨⟨rfl,trivial⟩,trivial⟩,jHR _,fun b c=>by omega⟩,fun i hi=>⟨fun h=> ?_,fun h=> ?_⟩⟩
 .have h:i<l.length:=(by simpa using h);simp only[jHQ] at*;refine⟨by omega,by omega,w7 _ (a _ (L.mem_nth h)) ⟨fun c=> ?_,fun c=>⟨L.in64 (by omega) (by omega),i+1,⟨⟨by simp,trivial⟩,trivial⟩,⟨by omega,fun b d=> ?_⟩,by omega⟩⟩⟩
  .rw[qm (p:=U.jd (α:=ShD) f.F) h hi.2 c]
  .by_cases e:b=i
   .subst e;exact c
   .exact hi.2 b (by omega)
 .have h:l.length<=i:=(by simpa using h);rw[wg (p:=U.jd (α:=ShD) f.F) h hi.2]
theorem jcp:zm PR 141 jb6:=kH jcW jdP Tryz.func141 kcN koN
theorem ja9:gH:=by
 rintro⟨l,f,⟨⟩⟩ a;refine⟨a,?_⟩;exact congrArg (·,()) (jcJ (U.jd (α:=ShD) f.F) l)
theorem jab:zm PR 95 gL:=j8 ja9 Tryz.func95 (kcC jcp kcN) koN
theorem jiT:jgU:=by
 intro d h;exact w7 _ h rfl
theorem jhe:zm PR 135 jgZ:=j8 jiT Tryz.func135 kcN koN
theorem jl9:jjs:=by
 intro d h;exact⟨fun g a=>⟨h g a,trivial⟩,congrArg (·,()) (jkn d.snd.fst.2 d.fst)⟩
theorem jkc:zm PR 88 jjE:=j8 jl9 Tryz.func88 (kcC jaZ (kcC jhe kcN)) koN
theorem jhv:jft:=by
 intro d h;exact w7 _ h rfl
theorem jf2:zm PR 137 jfG:=j8 jhv Tryz.func137 kcN koN
theorem jkT:jim:=by
 intro d h;exact⟨fun g a=>⟨h g a,trivial⟩,congrArg (·,()) (jkn d.snd.fst.2 d.fst)⟩
theorem jiJ:zm PR 92 jiw:=j8 jkT Tryz.func92 (kcC jaa (kcC jf2 kcN)) koN
theorem jeU:jdB:=by
 intro d h;exact w7 _ h rfl
theorem jdM:zm PR 139 jdD:=j8 jeU Tryz.func139 kcN koN
theorem jhx:jfv:=by
 intro d h;exact⟨fun g a=>⟨h g a,trivial⟩,congrArg (·,()) (jkn d.snd.fst.2 d.fst)⟩
theorem jf4:zm PR 93 jfI:=j8 jhx Tryz.func93 (kcC yL (kcC jdM kcN)) koN
theorem jhw:jfu:=by
 intro d h;exact w7 _ h rfl
theorem jf3:zm PR 140 jfH:=j8 jhw Tryz.func140 kcN koN
theorem jkU:jin:=by
 intro d h;exact⟨fun g a=>⟨h g a,trivial⟩,congrArg (·,()) (jkn d.snd.fst.2 d.fst)⟩
theorem jiK:zm PR 94 jix:=j8 jkU Tryz.func94 (kcC jab (kcC jf3 kcN)) koN
theorem jtP:jpm:=fun _=>rfl
theorem jqw:zm PR 86 jpK:=j8 jtP Tryz.func86 kcN koN
theorem jtO:jpl:=by
 rintro⟨l,d,f,⟨⟩⟩ a _ _;exact⟨fun _=>a,rfl⟩
theorem jqv:zm PR 87 jpJ:=j8 jtO Tryz.func87 (kcC jkc kcN) koN
theorem jtN:jpk:=by
 rintro⟨b,d,⟨⟩⟩ h;have h:(U.jZ d).length<4611686018427387904:=h;exact⟨L.in64 (by show _<=((U.jZ d).length:Int)-1;omega) (by show((U.jZ d).length:Int)-1<=_;omega),rfl⟩
theorem jqu:zm PR 89 jpI:=j8 jtN Tryz.func89 (kcC yp kcN) koN
theorem jtM:jpj:=by
 unfold jpj q58_1 q58_0;rintro⟨s,d,⟨⟩⟩ h;refine⟨fun a=> ?_,fun b=>⟨fun a=> ?_,rfl⟩⟩
 .have h:=h a;exact L.in64 (by simp only at*;omega) (by simp only at*;omega)
 .have h:=b a;exact L.in64 (by simp only at*;omega) (by simp only at*;omega)
theorem jqt:zm PR 91 jpH:=j8 jtM Tryz.func91 (kcC yp kcN) koN
theorem jCr (s:SpD):U.jh0 s=U.jf6 s:=by
 unfold U.jh0 U.jf6;rw[jId];simp only[jHK,decide_eq_true_eq];omega
theorem jCt (n:Nat) (b:BkD):U.jkj n b=U.jdN n b:=by
 unfold U.jkj U.jdN U.ja;rw[jId];simp only[jHK,decide_eq_true_eq];omega
theorem jCs (nb a:Nat) (s:ShD):U.jqC nb a s=U.jcv nb a s:=by
 unfold U.jqC U.jcv U.ja;rw[jId];simp only[jHK,decide_eq_true_eq];omega
theorem jCJ (d:DyD):(((((((decide (((U.ju d).length:Int)<=4)&&U.ja ((U.jZ d).length:Int) 1 5)&&(U.jZ d).all (fun r=>decide ((r.length:Int)=((U.jZ d).length:Int))&&r.all U.jf6))&&(U.ju d).all (U.jdN (U.jZ d).length))&&U.ja (U.jcj d) 0 300)&&U.ja (U.jCB d) 0 1440)&&decide (((U.zc d).length:Int)<=30))&&(U.zc d).all (U.jcv (U.ju d).length (U.jh (U.jc d)).length))=U.zK d:=by
 unfold U.zK;have e:(fun(r:List SpD)=>decide ((r.length:Int)=((U.jZ d).length:Int))&&r.all U.jf6)=U.yu (U.jZ d).length:=by
  funext r;unfold U.yu;congr 1;exact decide_eq_decide.2 (by omega)
 rw[e];cases (U.jZ d).all (U.yu (U.jZ d).length)<;>cases (U.ju d).all (U.jdN (U.jZ d).length)<;>cases (U.zc d).all (U.jcv (U.ju d).length (U.jh (U.jc d)).length)<;>simp only[Bool.and_false,Bool.and_true,Bool.false_and,U.ja]
 rw[jId];simp only[jHK,decide_eq_true_eq];omega
theorem jAC:jv3:=by
 unfold jv3 q59_2 q59_1 q59_0;rintro⟨d,⟨⟩⟩ _ _;refine⟨fun _ _ _=>⟨fun _ _=>trivial,trivial⟩,fun _ _ _=>trivial,fun _=>⟨fun _ _ _=>trivial,?_⟩⟩;have a:(U.jd fun(x:SpD×Unit)=>(U.jh0 x.fst,()))=U.jf6:=funext jCr;have b:(U.jd fun(x:BkD×Unit)=>(U.jkj (U.jZ d).length x.fst,()))=U.jdN (U.jZ d).length:=funext (jCt _);have c:(U.jd fun(x:ShD×Unit)=>(U.jqC (U.ju d).length (U.jh (U.jc d)).length x.fst,()))=U.jcv (U.ju d).length (U.jh (U.jc d)).length:=funext (jCs _ _);simp only;rw[a,b,c];exact congrArg (·,()) (jCJ d)
theorem jwT:zm PR 46 jwq:=j8 jAC Tryz.func46 (kcC yp (kcC jqw (kcC jqv (kcC jqu (kcC jqt (kcC jiJ (kcC jf4 (kcC jiK kcN)))))))) koN
theorem jkV:jio:=by
 intro d;simp
theorem jiL:zm PR 144 jiy:=j8 jkV Tryz.func144 kcN koN
theorem jhz:jfx:=by
 unfold jfx q61_0;rintro⟨a,b,⟨⟩⟩;refine⟨fun h=>(by cases h),fun _=>⟨fun h=>(by cases h),fun _=>⟨fun h=> ?_,fun h=>⟨fun c=> ?_,fun c=> ?_⟩⟩⟩⟩
 .have h:a<b:=of_decide_eq_true h;simp only;unfold U.jaz;rw[if_pos h]
 .have h:¬a<b:=of_decide_eq_false h;have c:b<a:=of_decide_eq_true c;simp only;unfold U.jaz;rw[if_neg h,if_pos c]
 .have h:¬a<b:=of_decide_eq_false h;have c:¬b<a:=of_decide_eq_false c;simp only;unfold U.jaz;rw[if_neg h,if_neg c]
theorem qv:zm PR 101 jfK:=j8 jhz Tryz.func101 (kcC jiL kcN) koN
theorem jxC {l:List Int} {i:Nat} (h:i<l.length) (a:∀b:Nat,b<i->nth l b=0) (hi:nth l i≠0):U.wY l=nth l i:=by
 have e:l.find? (fun n=>decide (n≠0))=some (nth l i):=by
  rw[List.find?_eq_some_iff_getElem];refine⟨decide_eq_true hi,i,h,by rw[L.nth_lt h],fun j c=> ?_⟩;have:=a j c;rw[L.nth_lt (by omega)] at this;simp[this]
 unfold U.wY;rw[e]
theorem jq6 {l:List Int} (a:∀b:Nat,b<l.length->nth l b=0):U.wY l=0:=by
 have e:l.find? (fun n=>decide (n≠0))=none:=by
  rw[List.find?_eq_none];intro x c;obtain⟨i,hi,rfl⟩:=L.mem_iff.1 c;simp[a i hi]
 unfold U.wY;rw[e]
theorem jqV:jnA:=by
 rintro⟨l,⟨⟩⟩ f;refine⟨⟨0,⟨⟨rfl,trivial⟩,trivial⟩,jHR _,fun b c=>by omega⟩,fun x d=>⟨fun h=> ?_,fun h=> ?_⟩⟩
 .have h:x<l.length:=(by simpa using h);simp only[jHQ];refine⟨by omega,by omega,fun a=> ?_,fun a=>⟨L.in64 (by omega) (by simp only at f;omega),x+1,⟨⟨by simp,trivial⟩,trivial⟩,⟨h,fun b c=> ?_⟩,by omega⟩⟩
  .rw[jxC h d.2 (of_decide_eq_true a)]
  .by_cases e:b=x
   .subst e;exact Classical.not_not.1 (of_decide_eq_false a)
   .exact d.2 b (by omega)
 .have h:l.length<=x:=(by simpa using h);rw[jq6 (fun b c=>d.2 b (by simp only at c;omega))]
theorem ja0:zm PR 100 jnO:=kH jo0 jqV Tryz.func100 kcN koN
theorem jma:jjt:=fun _=>rfl
theorem jke:zm PR 99 jjF:=j8 jma Tryz.func99 (kcC qv (kcC ja0 kcN)) koN
theorem jxk:jr1:=fun _=>rfl
theorem jtg:zm PR 119 jsy:=j8 jxk Tryz.func119 (kcC qv (kcC ja0 kcN)) koN
theorem jiP:jgQ:=by
 rintro⟨l,⟨⟩⟩ b c a;have b:l.length<=100000:=b;refine⟨fun h=>⟨?_,rfl⟩,fun _=>⟨by simp only;omega,by simp,rfl⟩⟩;have:l=[]:=a h;rw[this]
theorem jhc:qb PR 97 jg2:=jkr jiP Tryz.func97 kcN koN
theorem jgl:jei:=by
 unfold jei q66_1 q66_4 q66_3 q66_2 q66_0;rintro⟨l,⟨⟩⟩ m C;have m:l.length<=100000:=m;obtain⟨eq,k⟩:∃eq,eq=U.wN:=⟨_,rfl⟩;have A:∀a b:ShD,decide (a=b)=eq a b:=fun a b=>by rw[k];rfl
 simp only[<-k,A,jHQ];refine⟨fun h=>⟨?_,trivial⟩,fun h=> ?_⟩
 .have h:(l.length:Int)<2:=of_decide_eq_true h;rw[L.comp_short (by omega)]
 have h:¬(l.length:Int)<2:=of_decide_eq_false h;refine⟨⟨1,⟨⟨rfl,trivial⟩,trivial⟩,jHM _,by omega,?_⟩,fun i hi _=>⟨fun g=> ?_,fun g=>⟨?_,trivial⟩⟩⟩
 .rw[L.comp_short];rw[jH6];omega
 .have g:(i:Int)<(l.length:Int):=of_decide_eq_true g;obtain⟨s,D,f⟩:=hi;have z:((i:Int)-1).toNat=i-1:=(by omega);rw[z];have n:=L.comp_take (eq:=eq) (l:=l) s (by omega:i<l.length);refine⟨by omega,g,by unfold jz;omega,by omega,by omega,fun j=>⟨by omega,by omega,jIA _,⟨(1,l),⟨⟨rfl,?_,trivial⟩,rfl,trivial⟩,jHM _,by omega,rfl,?_,rfl,?_⟩,fun x q _=>⟨fun e=> ?_,fun e=> ?_⟩⟩,fun j=>⟨L.in64 (by omega) (by omega),i+1,⟨⟨by simp,trivial⟩,trivial⟩,⟨by omega,by omega,?_⟩,by omega⟩⟩
  .unfold U.jdX;rw[n,if_pos j,jIc,f,jH6];omega
  .rw[n,if_pos j,jIc,f,jH6];show l.take i=l.take (min i l.length);congr 1;omega
  .rw[n,if_pos j,jIc,f,jH6];omega
  .have e:(x.1:Int)<((l.length-i:Nat):Int):=of_decide_eq_true e;have r:=q;obtain⟨G,H,I,v,J,w⟩:=r;obtain⟨E,F⟩:=L.inv9_next s q (by omega);have y:((x.1:Int)-1).toNat=x.1-1:=(by omega);have o:i+(x.1-1)=i+x.1-1:=(by omega);rw[y,o];have p:U.jdX eq l (i+x.1)=((U.vM eq (l.take (i+x.1))).length:Int):=rfl;refine⟨by omega,e,by unfold jz;omega,by omega,by omega,fun c=> ?_,fun c=> ?_⟩
   .have c:eq (nth x.2 (i+x.1)) (nth x.2 (i+x.1-1))=false:=(by simpa using c);obtain⟨t,u⟩:=E c;refine⟨by omega,e,by omega,by omega,by unfold jz;omega,L.in64 (by omega) (by omega),(x.1+1,_),⟨⟨by simp,t.symm,trivial⟩,rfl,trivial⟩,u,by show _-(x.1+1)<_;omega⟩
   .have c:eq (nth x.2 (i+x.1)) (nth x.2 (i+x.1-1))=true:=(by simpa using c);obtain⟨t,u⟩:=F c;exact⟨L.in64 (by omega) (by omega),(x.1+1,x.2),⟨⟨t.symm,by simp,trivial⟩,rfl,trivial⟩,u,by show _-(x.1+1)<_;omega⟩
  .have e:¬(x.1:Int)<((l.length-i:Nat):Int):=of_decide_eq_false e;obtain⟨G,H,I,v,J,w⟩:=q;have p:U.jdX eq l (i+x.1)=((U.vM eq (l.take (i+x.1))).length:Int):=rfl;have d:l.take (i+x.1)=l:=jID (by omega);rw[d] at p v w;rw[p];simp only[jHQ];have B:=L.comp_len (eq:=eq) l;refine⟨by omega,by omega,jIA _,by omega,by omega,by omega,?_,⟨?_,trivial⟩⟩
   .simp only[jH2,jH6,jIG];omega
   .congr 1;rw[show(U.vM eq l).length-Int.toNat 0=(U.vM eq l).length from rfl];rw[List.take_left' (by rw[jH6];omega)];exact v.symm
  .rw[n,if_neg (by rw[j];simp),f];exact(L.take_succ (by omega)).symm
 .have g:¬(i:Int)<(l.length:Int):=of_decide_eq_false g;obtain⟨s,D,f⟩:=hi;have d:l.take i=l:=jID (by omega);rw[d] at f;rw[f]
theorem jeH:qb PR 102 jet:=jdY jfc jgl Tryz.func102 kcN koN
theorem vR:qb PR 98 jdE:=
 jsR Tryz.sortSh 54 rfl (jHY (by kernel_rfl)) Tryz.isAgg54 Tryz.sizeOf54 (qa Tryz.func98 (c:=z8 Tryz.f98) (by kernel_rfl) (by kernel_rfl))
theorem jDd:jbS U.y6:=by
 have e:U.y6=jBS (fun a b=>U.jaz (U.wI a) (U.wI b)) (jBS (fun a b=>U.jaz (U.jly a) (U.jly b)) (jBS (fun a b=>U.jaz (U.jy6 a) (U.jy6 b)) (jBS (fun a b=>U.jaz (U.jbU a) (U.jbU b)) (fun a b=>U.jaz (U.qo a) (U.qo b))))):=by
  funext a b;unfold U.y6;simp only[zJ,wM,jBS]
  split<;>(try rfl);split<;>(try rfl);split<;>(try rfl);split<;>(try rfl);split<;>(try rfl)
  rename_i h;exact(Classical.not_not.1 h).symm
 rw[e];exact jhk (jhX jgB U.wI) (jhk (jhX jgB U.jly) (jhk (jhX jgB U.jy6) (jhk (jhX jgB U.jbU) (jhX jgB U.qo))))
theorem jxU {a b:ShD} (h:U.y6 a b=0):a=b:=by
 unfold U.y6 at h;rw[zJ] at h
 split at h
 .contradiction
 rename_i c;rw[zJ] at h
 split at h
 .contradiction
 rename_i d;rw[zJ] at h
 split at h
 .contradiction
 rename_i e;rw[zJ] at h
 split at h
 .contradiction
 rename_i f;rw[wM] at h;have c:=vY.1 (Classical.not_not.1 c);have d:=vY.1 (Classical.not_not.1 d);have e:=vY.1 (Classical.not_not.1 e);have f:=vY.1 (Classical.not_not.1 f);have g:=vY.1 h;obtain⟨i,j,k,l,m,⟨⟩⟩:=a;obtain⟨n,o,p,q,r,⟨⟩⟩:=b;have c:i=n:=c;have d:j=o:=d;have e:k=p:=e;have f:l=q:=f;have g:m=r:=g;rw[c,d,e,f,g]
theorem jCn (l:List ShD):wc (U.jl tSh fun x=>(U.y6 x.1 x.2.1,())) l:=jn7 jDd (fun _ _ _ _ h=>jxU h)
theorem jBh (l:List ShD):(U.zj l).length<=l.length:=by
 unfold U.zj;refine jHW (L.comp_len _) ?_;rw[(zB l).length_eq];exact jHM _
theorem jqT:jny:=by
 unfold jny q67_0;rintro⟨l,⟨⟩⟩ a;exact⟨a,fun _ _ _ _=>trivial,jCn l,by rw[(zB (lt:=U.jl tSh fun x=>(U.y6 x.1 x.2.1,())) l).length_eq];exact a,rfl,rfl⟩
theorem jf5:qb PR 48 jnS:=jkr jqT Tryz.func48 (kcC jke kcN) (koC jhc (koC vR (koC jeH koN)))
theorem jtQ:jpn:=by
 unfold jpn q68_0;rintro⟨s,⟨m,⟨⟩⟩,⟨⟩⟩ h;have h:U.jy5 m:=h;have:=h (U.wI s);have this:0<=wl 0 (zW .int s.1 m)/\wl 0 (zW .int s.1 m)<=200000:=this;exact⟨L.in64 (by simp only;omega) (by simp only;omega),rfl,rfl⟩
theorem jqx:qb PR 96 jpV:=jkr jtQ Tryz.func96 kcN koN
theorem jax {m:List (Int×Int)} {l:List ShD} {i:Nat} (h:i<l.length):U.wv m l (i+1)=U.jdu (U.wv m l i) (nth l i):=by
 unfold U.wv;rw[L.take_succ h,jH8];rfl
theorem jDX (l:List ShD):∀i,i<=l.length->∀k,0<=wl 0 (zW .int k (U.wv [] l i))/\wl 0 (zW .int k (U.wv [] l i))<=(i:Int)
 |0,_,k=>⟨jIA 0,jIA 0⟩
 |i+1,hi,k=>by
  have b:=jDX l i (by omega)
  rw[jax (by omega)]
  unfold U.jdu
  by_cases e:k=U.wI (nth l i)
  .rw[e]
   have a:=M.mfind_mput (kt:= .int) (U.wI (nth l i)) (wl 0 (zW .int (U.wI (nth l i)) (U.wv [] l i))+1) (U.wv [] l i)
   rw[a]
   have:=b (U.wI (nth l i))
   show 0<=wl 0 (zW .int (U.wI (nth l i)) (U.wv [] l i))+1/\wl 0 (zW .int (U.wI (nth l i)) (U.wv [] l i))+1<=_
   omega
  .have a:=M.mfind_mput_ne (kt:= .int) (k:=U.wI (nth l i)) (k':=k) e (wl 0 (zW .int (U.wI (nth l i)) (U.wv [] l i))+1) (U.wv [] l i)
   rw[a]
   have:=b k
   omega
theorem jDs {m:List (Int×Int)} {l:List ShD} {i:Nat} (h:i<l.length) (a:∀b:Nat,b<i->U.jgK m l b=false) (hi:U.jgK m l i=true):U.jcY m l=(i:Int)/\U.jBK m l=i+1:=by
 have e:(List.range l.length).findIdx? (U.jgK m l)=some i:=by
  rw[List.findIdx?_eq_some_iff_getElem];refine⟨by simpa using h,by simpa using hi,fun j c=>by simp[a j c]⟩
 unfold U.jcY U.jBK U.jaF;rw[e];exact⟨rfl,rfl⟩
theorem jnq {m:List (Int×Int)} {l:List ShD} (a:∀b:Nat,b<l.length->U.jgK m l b=false):U.jcY m l= -1/\U.jBK m l=l.length:=by
 have e:(List.range l.length).findIdx? (U.jgK m l)=none:=by
  rw[List.findIdx?_eq_none_iff];intro x c;exact a x (jHZ.1 c)
 unfold U.jcY U.jBK U.jaF;rw[e];exact⟨rfl,rfl⟩
theorem ja7:gF:=by
 rintro⟨l,⟨m,⟨⟩⟩,⟨⟩⟩ n g o;have g:m=[]:=g;subst g;have n:l.length<=100000:=n;refine⟨⟨0,⟨⟨rfl,trivial⟩,rfl,trivial⟩,jHR _,fun b j=>by omega⟩,fun x a=>⟨fun h=> ?_,fun h=> ?_⟩⟩
 .have h:x<l.length:=(by simpa using h);simp only[jHQ];refine⟨by omega,by omega,fun k=> ?_,fun f=> ?_,fun f=>⟨L.in64 (by omega) (by omega),x+1,⟨⟨by simp,trivial⟩,⟨trivial,trivial⟩,(jax h).symm,trivial⟩,⟨h,fun b j=> ?_⟩,by omega⟩⟩
  .have:=jDX l x (by omega) k;omega
  .obtain⟨c,d⟩:=jDs h a.2 f;unfold U.je3;rw[c,d,jax h];exact⟨rfl,rfl⟩
  .by_cases e:b=x
   .subst e;exact f
   .exact a.2 b (by omega)
 .have h:l.length<=x:=(by simpa using h);obtain⟨c,d⟩:=jnq (m:=[]) (l:=l) (fun b j=>a.2 b (by omega));have i:x=l.length:=(by have:=a.1;simp only at this;omega);unfold U.je3;rw[c,d,i];exact⟨rfl,rfl⟩
theorem gZ:qb PR 141 gO:=jdY jaB ja7 Tryz.func141 kcN (koC jqx koN)
theorem yN:yc:=fun _ a b=>⟨a,b,rfl,rfl⟩
theorem yo:qb PR 95 yh:=jkr yN Tryz.func95 kcN (koC gZ koN)
theorem jAD:jv4:=fun _ h=>⟨h,rfl,rfl⟩
theorem jwU:zm PR 47 jwr:=j8 jAD Tryz.func47 kcN (koC yo koN)
theorem jB7 {c:CrD} (h:U.js c=true):U.za c (0,1,0,0,0,1,())=true:=by
 obtain⟨a,_⟩:=jy h;unfold U.za;refine decide_eq_true ?_;refine⟨by decide,?_,by decide,?_,by decide,by decide,by decide,by decide,by decide,by decide,by decide,by decide,by decide⟩
 .show(0:Int)<=U.la c-1;omega
 .show(1:Int)<=U.la c-1;omega
theorem jBt (c:CrD):U.kl c (0,1,0,0,0,1,())=if U.js c=false then 30 else 0:=by
 unfold U.kl;by_cases h:U.js c=false
 .rw[if_pos h,if_pos h]
 .rw[if_neg h,if_neg h,if_neg (by rw[jB7 (by simpa using h)];simp)]
theorem joz:jlE:=by
 unfold jlE q72_0;rintro⟨d,⟨⟩⟩;have e:=jBt d.1;simp only[e];by_cases f:U.js d.1=false
 .rw[if_pos f];refine⟨fun _=> ?_,fun h=>by simp at h⟩;have f:U.js (U.jc d)=false:=f;unfold U.jlj;rw[if_pos f]
 .rw[if_neg f];have c:U.js (U.jc d)=true:=eq_true_of_ne_false f;refine⟨fun h=>by simp at h,fun _ k=>⟨⟨0,⟨⟨rfl,trivial⟩,trivial⟩,jHR _,fun b j=>by omega⟩,fun x l=>⟨fun h=> ?_,fun h=> ?_⟩⟩⟩
  .have h:(x:Int)<((U.ju d).length:Int):=of_decide_eq_true h;have h:x<(U.ju d).length:=(by omega);have k:(U.ju d).length<4611686018427387904:=k;have m:U.kl d.1 (nth d.2.2.1 x).1=if U.za (U.jc d) (U.yG (nth (U.ju d) x))=false then 31 else 0:=by
    show(if U.js (U.jc d)=false then(30:Int) else if U.za (U.jc d) (U.yG (nth (U.ju d) x))=false then 31 else 0)=_;rw[if_neg (by rw[c];simp)]
   simp only[jHQ,m];refine⟨by omega,by show(x:Int)<((U.ju d).length:Int);omega,fun a=> ?_,fun a=>⟨L.in64 (by omega) (by omega),x+1,⟨⟨by simp,trivial⟩,trivial⟩,⟨h,fun b j=> ?_⟩,(by show(U.ju d).length-(x+1)<(U.ju d).length-x;omega)⟩⟩
   .have a:=of_decide_eq_true a;by_cases g:U.za (U.jc d) (U.yG (nth (U.ju d) x))=false
    .rw[if_pos g];unfold U.jlj;rw[if_neg (by rw[c];simp),if_pos];unfold U.jxe;exact L.all_false h g
    .rw[if_neg g] at a;exact absurd rfl a
   .have a:=of_decide_eq_false a;by_cases n:b=x
    .subst n;by_cases g:U.za (U.jc d) (U.yG (nth (U.ju d) b))=false
     .rw[if_pos g] at a;exact absurd (by decide) a
     .exact eq_true_of_ne_false g
    .exact l.2 b (by omega)
  .have h:¬(x:Int)<((U.ju d).length:Int):=of_decide_eq_false h;have h:(U.ju d).length<=x:=(by omega);unfold U.jlj;rw[if_neg (by rw[c];simp),if_neg];rw[Bool.not_eq_false];unfold U.jxe;rw[jIl];intro b j;obtain⟨i,hi,rfl⟩:=L.mem_iff.1 j;exact l.2 i (by omega)
theorem jlZ:zm PR 45 jlN:=kH jmn joz Tryz.func45 (kcC jmI kcN) koN
theorem jAG:jv7:=by
 rintro⟨d,⟨⟩⟩ c;refine⟨fun h=> ?_,fun h=>⟨fun b=> ?_,fun b=>⟨c,jHW (jBh _) c,fun a=> ?_,fun a=> ?_⟩⟩⟩
 .have h:=of_decide_eq_true h;simp only at h⊢;unfold U.jU;rw[if_pos h]
 .have h:=of_decide_eq_false h;simp only at h⊢;unfold U.jU;rw[if_neg h,if_pos (by simpa using b)]
 .have h:=of_decide_eq_false h;simp only at h⊢;unfold U.jU;rw[if_neg h,if_neg (by simpa using b)];have a:U.jyl (U.zj (U.zc d))=true:=a;rw[if_pos a]
 .have h:=of_decide_eq_false h;simp only at h⊢;unfold U.jU;rw[if_neg h,if_neg (by simpa using b)];have a:U.jyl (U.zj (U.zc d))=false:=a;rw[if_neg (by rw[a];simp)]
theorem jmJ:zm PR 16 jwu:=j8 jAG Tryz.func16 (kcC jlZ (kcC jwT (kcC jwU kcN))) (koC jf5 koN)
end Go.X
namespace Go.X
namespace U
def jwj {α:Type} [Inhabited α] (l:List α) (j k:Nat):List α:=(l.set j (nth l k)).set k (nth l j)
def jdF {α:Type} [Inhabited α] (lt:α->α->Bool):List α->Nat->List α
 |l,0=>l
 |l,j+1=>if lt (nth l (j+1)) (nth l j)=true then jdF lt (jwj l (j+1) j) j else l
def gn {α:Type} [Inhabited α] (lt:α->α->Bool) (l:List α) (i:Nat):List α:=(List.range i).foldl (jdF lt) l
def jbA {α:Type} [Inhabited α] (lt:α->α->Bool) (l:List α):List α:=gn lt l l.length
def jeP {α:Type} (lt:α->α->Bool) (x:α):List α->List α
 |[]=>[x]
 |y::r=>if lt x y=true then y::jeP lt x r else x::y::r
end U
namespace IS
variable {α:Type} [Inhabited α] {lt:α->α->Bool}
theorem swap_perm {l:List α} {j k:Nat} (a:j<l.length) (hk:k<l.length):(U.jwj l j k).Perm l:=by
 unfold U.jwj;rw[L.nth_lt a,L.nth_lt hk];exact List.set_set_perm a hk
theorem sink_perm:∀(j:Nat) (l:List α),j<l.length->(U.jdF lt l j).Perm l
 |0,l,_=>List.Perm.refl _
 |j+1,l,h=>by
  unfold U.jdF
  have a:=swap_perm (l:=l) (j:=j+1) (k:=j) h (by omega)
  split
  .exact(sink_perm j _ (by rw[a.length_eq];omega)).trans a
  .exact List.Perm.refl _
theorem part_succ (lt:α->α->Bool) (l:List α) (i:Nat):U.gn lt l (i+1)=U.jdF lt (U.gn lt l i) i:=by
 simp[U.gn,jIe]
theorem part_perm {l:List α}:∀(i:Nat),i<=l.length->(U.gn lt l i).Perm l
 |0,_=>List.Perm.refl _
 |i+1,h=>by
  rw[part_succ]
  have a:=part_perm (l:=l) i (by omega)
  exact(sink_perm i _ (by rw[a.length_eq];omega)).trans a
theorem isort_perm (lt:α->α->Bool) (l:List α):(U.jbA lt l).Perm l:=part_perm _ (jHM _)
theorem part_isort {l:List α} {i:Nat} (a:1<=i) (b:i<=max l.length 1) (c:l.length<=i):U.gn lt l i=U.jbA lt l:=by
 unfold U.jbA;by_cases h:l.length=0
 .have:i=1:=(by omega);subst this;rw[h];rfl
 .have:i=l.length:=(by omega);rw[this]
theorem insR_len {α:Type} {lt:α->α->Bool} (x:α):∀q:List α,(U.jeP lt x q).length=q.length+1
 |[]=>rfl
 |y::r=>by
  unfold U.jeP
  split
  .simp[insR_len x r]
  .simp
theorem nth_mid (a:List α) (x:α) (s:List α):nth (a++x::s) a.length=x:=by
 rw[L.nth_lt (by simp)];simp
theorem sink_app:∀(q:List α) (x:α) (s:List α),U.jdF lt (q.reverse++x::s) q.length=(U.jeP lt x q).reverse++s
 |[],x,s=>rfl
 |y::r,x,s=>by
  have e:(y::r).reverse++x::s=r.reverse++y::x::s:=by simp
  rw[e]
  have g:nth (r.reverse++y::x::s) (r.length+1)=x:=by
   have:=nth_mid (r.reverse++[y]) x s;simpa using this
  have h:nth (r.reverse++y::x::s) r.length=y:=by
   have:=nth_mid r.reverse y (x::s);simpa using this
  show(if lt (nth _ (r.length+1)) (nth _ r.length)=true then U.jdF lt (U.jwj _ (r.length+1) r.length) r.length else _)=_;rw[g,h];unfold U.jeP
  split
  .have a:U.jwj (r.reverse++y::x::s) (r.length+1) r.length=r.reverse++x::(y::s):=by
    unfold U.jwj;rw[g,h];apply List.ext_getElem?;intro k;simp only[List.getElem?_set,jI9];by_cases b:r.length=k
    .subst b;rw[if_pos rfl,if_pos (by simp)];rw[jHV (by simp)];simp
    .rw[if_neg b];by_cases c:r.length+1=k
     .subst c;rw[if_pos rfl,if_pos (by simp)];rw[jHV (by simp)];simp
     .rw[if_neg c];by_cases f:k<r.length
      .rw[jHX (by simpa using f),jHX (by simpa using f)]
      .rw[jHV (by simp;omega),jHV (by simp;omega)];obtain⟨d,i⟩:∃d,k-r.reverse.length=d+2:=⟨k-r.length-2,by simp;omega⟩;rw[i];simp
   rw[a,sink_app r x (y::s)];simp
  .simp
theorem fold_len {α:Type} {lt:α->α->Bool}:∀(l q:List α),(l.foldl (fun q x=>U.jeP lt x q) q).length=q.length+l.length
 |[],q=>rfl
 |x::l,q=>by
  simp only[List.foldl_cons,jIi]
  rw[fold_len l,insR_len];omega
theorem part_eq (l:List α):∀i,i<=l.length->U.gn lt l i=((l.take i).foldl (fun q x=>U.jeP lt x q) []).reverse++l.drop i
 |0,_=>by simp[U.gn]
 |i+1,h=>by
  rw[part_succ,part_eq l i (by omega)]
  have b:l.drop i=nth l i::l.drop (i+1):=by
   rw[L.nth_lt (by omega)];exact List.drop_eq_getElem_cons (by omega)
  rw[b];have a:((l.take i).foldl (fun q x=>U.jeP lt x q) []).length=i:=(by rw[fold_len];simp;omega);have:=sink_app (lt:=lt) ((l.take i).foldl (fun q x=>U.jeP lt x q) []) (nth l i) (l.drop (i+1));rw[a] at this;rw[this,L.take_succ (by omega),jH8];rfl
theorem isort_eq (l:List α):U.jbA lt l=(l.foldl (fun q x=>U.jeP lt x q) []).reverse:=by
 unfold U.jbA;rw[part_eq l _ (jHM _)];simp
theorem insR_mem {α:Type} {lt:α->α->Bool} {x z:α}:∀{q:List α},z∈U.jeP lt x q↔z=x\/z∈q
 |[]=>by simp[U.jeP]
 |y::r=>by
  unfold U.jeP
  split
  .simp only[jHL,insR_mem (q:=r)]
   constructor
   .rintro(h|h|h)<;>simp[h]
   .rintro(h|h|h)<;>simp[h]
  .simp
theorem insR_desc {α:Type} {lt:α->α->Bool} {x:α}:∀{q:List α},wc lt (x::q)->q.Pairwise (fun a b=>lt a b=false)->(U.jeP lt x q).Pairwise (fun a b=>lt a b=false)
 |[],_,_=>by simp[U.jeP]
 |y::r,ho,h=>by
  rw[jIB] at h
  unfold U.jeP
  split
  .rename_i d
   rw[jIB]
   refine⟨fun z c=> ?_,insR_desc (ho.sub (fun z c=>by rcases jHL.1 c with h|h;exact h▸jIo;exact jHS _ (jHS _ h))) h.2⟩
   rcases insR_mem.1 c with rfl|c
   .exact ho.asymm (by simp) (by simp) d
   .exact h.1 z c
  .rename_i d
   have d:lt x y=false:=by simpa using d
   rw[jIB]
   refine⟨fun z c=> ?_,jIB.2 h⟩
   rcases jHL.1 c with rfl|c
   .exact d
   .exact ho.ntrans (by simp) (by simp) (by simp[c]) d (h.1 z c)
theorem fold_desc {α:Type} {lt:α->α->Bool}:∀(l q:List α),wc lt (l++q)->q.Pairwise (fun a b=>lt a b=false)->(l.foldl (fun q x=>U.jeP lt x q) q).Pairwise (fun a b=>lt a b=false)
 |[],q,_,h=>h
 |x::l,q,ho,h=>by
  refine fold_desc l _ (ho.sub (fun z c=> ?_)) (insR_desc (ho.sub (fun z c=> ?_)) h)
  .rcases jHT.1 c with c|c
   .simp[c]
   .rcases insR_mem.1 c with rfl|c
    .simp
    .simp[c]
  .rcases jHL.1 c with rfl|c
   .simp
   .simp[c]
theorem isort_asc {l:List α} (a:wc lt l):jyi lt (U.jbA lt l):=by
 rw[isort_eq];unfold jyi;rw[List.pairwise_reverse];exact fold_desc l [] (by simpa using a) (by simp)
theorem isort_sort {l:List α} (a:wc lt l):U.jbA lt l=U.je lt l:=jjK a (isort_perm lt l) (isort_asc a)
end IS
end Go.X
namespace Go.X
open Go.Proofs
def U.len8tab:ByteArray:=⟨#[0,1,2,2,3,3,3,3,4,4,4,4,4,4,4,4,5,5,5,5,5,5,5,5,5,5,5,5,5,5,5,5,6,6,6,6,6,6,6,6,6,6,6,6,6,6,6,6,6,6,6,6,6,6,6,6,6,6,6,6,6,6,6,6,7,7,7,7,7,7,7,7,7,7,7,7,7,7,7,7,7,7,7,7,7,7,7,7,7,7,7,7,7,7,7,7,7,7,7,7,7,7,7,7,7,7,7,7,7,7,7,7,7,7,7,7,7,7,7,7,7,7,7,7,7,7,7,7,8,8,8,8,8,8,8,8,8,8,8,8,8,8,8,8,8,8,8,8,8,8,8,8,8,8,8,8,8,8,8,8,8,8,8,8,8,8,8,8,8,8,8,8,8,8,8,8,8,8,8,8,8,8,8,8,8,8,8,8,8,8,8,8,8,8,8,8,8,8,8,8,8,8,8,8,8,8,8,8,8,8,8,8,8,8,8,8,8,8,8,8,8,8,8,8,8,8,8,8,8,8,8,8,8,8,8,8,8,8,8,8,8,8,8,8,8,8,8,8,8,8,8,8,8,8,8,8]⟩
abbrev rwI:Sh:= .cl (.row 3 .int .unk)
namespace U
abbrev FC:=Int×Int×Unit->Int×Unit
abbrev vX (F:FC):Int->Int->Bool:=jl .int F
def jbx (p:Int×Int×Unit->List Prop) (l:List Int):Prop:=∀x∈l,∀y∈l,jL (p (x,y,()))
def je7 (n:Int):Int:=if n=0 then 0 else if n<2 then 1 else if n<4 then 2 else if n<8 then 3 else 4
end U
def jnQ:j9:=⟨[.val (.uint .u64)],[.int],false,fun d=>[0<=d.1/\d.1<=12],fun d=>(U.je7 d.1,())⟩
abbrev q74_0 (d:Int×Unit):=(d.1/(2:Int)^Int.toNat 32/(2:Int)^Int.toNat 16/(2:Int)^Int.toNat 8)
abbrev q74_1 (d:Int×Unit):=(d.1/(2:Int)^Int.toNat 32/(2:Int)^Int.toNat 16)
abbrev q74_2 (d:Int×Unit):=(d.1/(2:Int)^Int.toNat 32/(2:Int)^Int.toNat 8)
abbrev q74_3 (d:Int×Unit):=(d.1/(2:Int)^Int.toNat 16/(2:Int)^Int.toNat 8)
abbrev q74_4 (d:Int×Unit):=(256<=d.1/(2:Int)^Int.toNat 32/(2:Int)^Int.toNat 16)
def jnC:Prop:=∀(d:Int×Unit),0<=d.1/\d.1<=12->(decide (4294967296<=d.1)=true->(0:Int)<=32/\(32:Int)<=64/\(decide (65536<=d.1/(2:Int)^Int.toNat 32)=true->(0:Int)<=16/\(16:Int)<=64/\jz ((32:Int)+16)/\(decide (q74_4 d)=true->(0:Int)<=8/\(8:Int)<=64/\jz ((32:Int)+16+8)/\0<=d.1/(2:Int)^Int.toNat 32/(2:Int)^Int.toNat 16/(2:Int)^Int.toNat 8/\d.1/(2:Int)^Int.toNat 32/(2:Int)^Int.toNat 16/(2:Int)^Int.toNat 8<=255/\0<=d.1/(2:Int)^Int.toNat 32/(2:Int)^Int.toNat 16/(2:Int)^Int.toNat 8/\d.1/(2:Int)^Int.toNat 32/(2:Int)^Int.toNat 16/(2:Int)^Int.toNat 8<(U.len8tab.size:Int)/\jz (qH U.len8tab (q74_0 d).toNat)/\jz ((32:Int)+16+8+qH U.len8tab (q74_0 d).toNat)/\((32:Int)+16+8+qH U.len8tab (q74_0 d).toNat,())=(U.je7 d.1,()))/\(decide (q74_4 d)=false->0<=d.1/(2:Int)^Int.toNat 32/(2:Int)^Int.toNat 16/\d.1/(2:Int)^Int.toNat 32/(2:Int)^Int.toNat 16<=255/\0<=d.1/(2:Int)^Int.toNat 32/(2:Int)^Int.toNat 16/\d.1/(2:Int)^Int.toNat 32/(2:Int)^Int.toNat 16<(U.len8tab.size:Int)/\jz (qH U.len8tab (q74_1 d).toNat)/\jz ((32:Int)+16+qH U.len8tab (q74_1 d).toNat)/\((32:Int)+16+qH U.len8tab (q74_1 d).toNat,())=(U.je7 d.1,())))/\(decide (65536<=d.1/(2:Int)^Int.toNat 32)=false->(decide (256<=d.1/(2:Int)^Int.toNat 32)=true->(0:Int)<=8/\(8:Int)<=64/\jz ((32:Int)+8)/\0<=d.1/(2:Int)^Int.toNat 32/(2:Int)^Int.toNat 8/\d.1/(2:Int)^Int.toNat 32/(2:Int)^Int.toNat 8<=255/\0<=d.1/(2:Int)^Int.toNat 32/(2:Int)^Int.toNat 8/\d.1/(2:Int)^Int.toNat 32/(2:Int)^Int.toNat 8<(U.len8tab.size:Int)/\jz (qH U.len8tab (q74_2 d).toNat)/\jz ((32:Int)+8+qH U.len8tab (q74_2 d).toNat)/\((32:Int)+8+qH U.len8tab (q74_2 d).toNat,())=(U.je7 d.1,()))/\(decide (256<=d.1/(2:Int)^Int.toNat 32)=false->0<=d.1/(2:Int)^Int.toNat 32/\d.1/(2:Int)^Int.toNat 32<=255/\0<=d.1/(2:Int)^Int.toNat 32/\d.1/(2:Int)^Int.toNat 32<(U.len8tab.size:Int)/\jz (qH U.len8tab (d.1/(2:Int)^Int.toNat 32).toNat)/\jz ((32:Int)+qH U.len8tab (d.1/(2:Int)^Int.toNat 32).toNat)/\((32:Int)+qH U.len8tab (d.1/(2:Int)^Int.toNat 32).toNat,())=(U.je7 d.1,()))))/\(decide (4294967296<=d.1)=false->(decide (65536<=d.1)=true->(0:Int)<=16/\(16:Int)<=64/\jz ((0:Int)+16)/\(decide (256<=d.1/(2:Int)^Int.toNat 16)=true->(0:Int)<=8/\(8:Int)<=64/\jz ((0:Int)+16+8)/\0<=d.1/(2:Int)^Int.toNat 16/(2:Int)^Int.toNat 8/\d.1/(2:Int)^Int.toNat 16/(2:Int)^Int.toNat 8<=255/\0<=d.1/(2:Int)^Int.toNat 16/(2:Int)^Int.toNat 8/\d.1/(2:Int)^Int.toNat 16/(2:Int)^Int.toNat 8<(U.len8tab.size:Int)/\jz (qH U.len8tab (q74_3 d).toNat)/\jz ((0:Int)+16+8+qH U.len8tab (q74_3 d).toNat)/\((0:Int)+16+8+qH U.len8tab (q74_3 d).toNat,())=(U.je7 d.1,()))/\(decide (256<=d.1/(2:Int)^Int.toNat 16)=false->0<=d.1/(2:Int)^Int.toNat 16/\d.1/(2:Int)^Int.toNat 16<=255/\0<=d.1/(2:Int)^Int.toNat 16/\d.1/(2:Int)^Int.toNat 16<(U.len8tab.size:Int)/\jz (qH U.len8tab (d.1/(2:Int)^Int.toNat 16).toNat)/\jz ((0:Int)+16+qH U.len8tab (d.1/(2:Int)^Int.toNat 16).toNat)/\((0:Int)+16+qH U.len8tab (d.1/(2:Int)^Int.toNat 16).toNat,())=(U.je7 d.1,())))/\(decide (65536<=d.1)=false->(decide (256<=d.1)=true->(0:Int)<=8/\(8:Int)<=64/\jz ((0:Int)+8)/\0<=d.1/(2:Int)^Int.toNat 8/\d.1/(2:Int)^Int.toNat 8<=255/\0<=d.1/(2:Int)^Int.toNat 8/\d.1/(2:Int)^Int.toNat 8<(U.len8tab.size:Int)/\jz (qH U.len8tab (d.1/(2:Int)^Int.toNat 8).toNat)/\jz ((0:Int)+8+qH U.len8tab (d.1/(2:Int)^Int.toNat 8).toNat)/\((0:Int)+8+qH U.len8tab (d.1/(2:Int)^Int.toNat 8).toNat,())=(U.je7 d.1,()))/\(decide (256<=d.1)=false->0<=d.1/\d.1<=255/\0<=d.1/\d.1<(U.len8tab.size:Int)/\jz (qH U.len8tab d.1.toNat)/\jz ((0:Int)+qH U.len8tab d.1.toNat)/\((0:Int)+qH U.len8tab d.1.toNat,())=(U.je7 d.1,()))))
def jsN:j9:=⟨[.val (.uint .u64)],[.int],false,fun d=>[0<=d.1/\d.1<=12],fun d=>(U.je7 d.1,())⟩
def jsh:Prop:=∀(d:Int×Unit),0<=d.1/\d.1<=12->(false=true->False)/\(false=false->(0<=d.1/\d.1<=12)/\(U.je7 d.1,())=(U.je7 d.1,()))
def vj:zQ:=⟨[.own rwI true,.val .int,.val .int,.fn [.int,.int] [.int]],[],fun d=>[d.2.1=0/\d.2.2.1=(d.1.length:Int)/\d.1.length<=12,U.jbx d.2.2.2.1.pre d.1],fun d=>((),(U.jbA (U.vX d.2.2.2.1.F) d.1,()))⟩
def vG:Ann:=fun r=>match r with
 |1=>some fun σ=>{X:=Nat,sl:=fun i=>[(8,.dat .int (i:Int))],ob:=fun i=>[(1000000,some (.row 3 .int false .unk (U.gn (U.vX (gfn [.int,.int] [.int] σ 3)) (gr .int σ 1000000) i)))],inv:=fun i=>1<=i/\i<=max (gr .int σ 1000000).length 1,mu:=fun i=>(gr .int σ 1000000).length-i}
 |4=>some fun σ=>{X:=Nat×List Int,sl:=fun x=>[(9,.dat .int (x.1:Int))],ob:=fun x=>[(1000000,some (.row 3 .int false .unk x.2))],inv:=fun x=>(x.1:Int)<=gd .int σ 8/\x.2.Perm (gr .int σ 1000000)/\U.jdF (U.vX (gfn [.int,.int] [.int] σ 3)) x.2 x.1=U.jdF (U.vX (gfn [.int,.int] [.int] σ 3)) (gr .int σ 1000000) (gd .int σ 8).toNat,mu:=fun x=>x.1}
 |_=>none
abbrev q76_0 (a:Nat×List Int):=(nth a.2 (a.1:Int).toNat,nth a.2 ((a.1:Int)-1).toNat,())
abbrev q76_1 (d:List Int×Int×Int×FnD [Ty.int,Ty.int] [Ty.int]×Unit):=(U.vX d.2.2.2.1.2)
def vg:Prop:=∀(d:List Int×Int×Int×FnD [Ty.int,Ty.int] [Ty.int]×Unit),d.2.1=0/\d.2.2.1=(d.1.length:Int)/\d.1.length<=12->U.jbx d.2.2.2.1.1 d.1->jz (d.2.1+1)/\(∃(x:Nat),((d.2.1+1=(x:Int)/\True)/\d.1=U.gn (q76_1 d) d.1 x/\True)/\1<=x/\x<=max d.1.length 1)/\∀(x:Nat),1<=x/\x<=max d.1.length 1->(decide ((x:Int)<d.2.2.1)=true->(∃(a:Nat×List Int),(((x:Int)=(a.1:Int)/\True)/\U.gn (q76_1 d) d.1 x=a.2/\True)/\(a.1:Int)<=(x:Int)/\a.2.Perm (U.gn (q76_1 d) d.1 x)/\U.jdF (q76_1 d) a.2 a.1=U.jdF (q76_1 d) (U.gn (q76_1 d) d.1 x) (x:Int).toNat)/\∀(a:Nat×List Int),(a.1:Int)<=(x:Int)/\a.2.Perm (U.gn (q76_1 d) d.1 x)/\U.jdF (q76_1 d) a.2 a.1=U.jdF (q76_1 d) (U.gn (q76_1 d) d.1 x) (x:Int).toNat->(decide (d.2.1<(a.1:Int))=true->0<=(a.1:Int))/\(decide (d.2.1<(a.1:Int))=true->(a.1:Int)<(a.2.length:Int))/\(decide (d.2.1<(a.1:Int))=true->jz ((a.1:Int)-1))/\(decide (d.2.1<(a.1:Int))=true->0<=(a.1:Int)-1)/\(decide (d.2.1<(a.1:Int))=true->(a.1:Int)-1<(a.2.length:Int))/\jBC (decide (d.2.1<(a.1:Int))) (d.2.2.2.1.1 (q76_0 a)) (((decide (d.2.1<(a.1:Int))&&decide ((d.2.2.2.1.2 (q76_0 a)).1<0))=true->jz ((a.1:Int)-1)/\jz ((a.1:Int)-1)/\0<=(a.1:Int)-1/\(a.1:Int)-1<(a.2.length:Int)/\0<=(a.1:Int)/\(a.1:Int)<(a.2.length:Int)/\0<=(a.1:Int)/\(a.1:Int)<(a.2.length:Int)/\0<=(a.1:Int)-1/\(a.1:Int)-1<(↑(a.2.set (a.1:Int).toNat (nth a.2 ((a.1:Int)-1).toNat)).length:Int)/\jz ((a.1:Int)-1)/\∃(b:Nat×List Int),(((a.1:Int)-1=(b.1:Int)/\True)/\(a.2.set (a.1:Int).toNat (nth a.2 ((a.1:Int)-1).toNat)).set ((a.1:Int)-1).toNat (nth a.2 (a.1:Int).toNat)=b.2/\True)/\((b.1:Int)<=(x:Int)/\b.2.Perm (U.gn (q76_1 d) d.1 x)/\U.jdF (q76_1 d) b.2 b.1=U.jdF (q76_1 d) (U.gn (q76_1 d) d.1 x) (x:Int).toNat)/\b.1<a.1)/\((decide (d.2.1<(a.1:Int))&&decide ((d.2.2.2.1.2 (q76_0 a)).1<0))=false->jz ((x:Int)+1)/\∃(c:Nat),(((x:Int)+1=(c:Int)/\True)/\a.2=U.gn (q76_1 d) d.1 c/\True)/\(1<=c/\c<=max d.1.length 1)/\d.1.length-c<d.1.length-x)))/\(decide ((x:Int)<d.2.2.1)=false->()=()/\(U.gn (q76_1 d) d.1 x,())=(U.jbA (q76_1 d) d.1,()))
def gN:zQ:=⟨[.own rwI true,.val .int,.val .int,.val .int,.fn [.int,.int] [.int]],[],fun d=>[d.2.1=0/\d.2.2.1=(d.1.length:Int)/\d.1.length<=12,U.jbx d.2.2.2.2.1.pre d.1],fun d=>((),(U.jbA (U.vX d.2.2.2.2.1.F) d.1,()))⟩
def jaA:Ann:=fun r=>match r with
 |1000002=>some fun _=>{X:=Unit,sl:=fun _=>[],ob:=fun _=>[],inv:=fun _=>True,mu:=fun _=>0}
 |_=>none
def gE:Prop:=∀(d:List Int×Int×Int×Int×FnD [Ty.int,Ty.int] [Ty.int]×Unit),d.2.1=0/\d.2.2.1=(d.1.length:Int)/\d.1.length<=12->U.jbx d.2.2.2.2.1.1 d.1->jz (d.2.2.1-d.2.1)/\(decide (d.2.2.1-d.2.1<=12)=true->(d.2.1=0/\d.2.2.1=(d.1.length:Int)/\d.1.length<=12)/\U.jbx d.2.2.2.2.1.1 d.1/\()=()/\(U.jbA (U.vX d.2.2.2.2.1.2) d.1,())=(U.jbA (U.vX d.2.2.2.2.1.2) d.1,()))/\(decide (d.2.2.1-d.2.1<=12)=false->(decide (d.2.2.2.1=0)=true->False)/\(decide (d.2.2.2.1=0)=false->((!true)=true->False)/\((!true)=false->False)))
def z6:zQ:=⟨[.own rwI true,.fn [.int,.int] [.int]],[],fun d=>[d.1.length<=12,U.jbx d.2.1.pre d.1,wc (U.vX d.2.1.F) d.1],fun d=>((),(U.je (U.vX d.2.1.F) d.1,()))⟩
def jfo:Prop:=∀(d:List Int×FnD [Ty.int,Ty.int] [Ty.int]×Unit),d.1.length<=12->U.jbx d.2.1.1 d.1->wc (U.vX d.2.1.2) d.1->d.1.length<4611686018427387904->0<=(d.1.length:Int)/\(d.1.length:Int)<=18446744073709551615/\(0<=(d.1.length:Int)/\(d.1.length:Int)<=12)/\((0:Int)=0/\(d.1.length:Int)=(d.1.length:Int)/\d.1.length<=12)/\U.jbx d.2.1.1 d.1/\()=()/\(U.jbA (U.vX d.2.1.2) d.1,())=(U.je (U.vX d.2.1.2) d.1,())
def asI (l:List Int):List (Ty.st [.int]).Data:=l.map (fun x=>(x,()))
def LVi (d:PD [.ref (.slice .int)]) (xs:List (Ty.st [.int]).Data):Prop:=xs=asI d.1
def jgI:jjg (YS [.int]):=fun r=>match r with
 |1=>some fun σ ys=>{X:=Nat,sl:=fun i=>[(7,.dat .int (i:Int))],ob:=fun _=>[],ys:=fun i=>(asI ((gd (.slice .int) σ 5).take i),true),inv:=fun i=>i<=(gd (.slice .int) σ 5).length,mu:=fun i=>(gd (.slice .int) σ 5).length-i}
 |_=>none
abbrev q79_0 (d:List Int×Unit)(x:Nat):=(nth d.1 (x:Int).toNat,())
def yP:Prop:=∀(d:List Int×Unit) (l:Nat),d.1.length<4611686018427387904->(∃(x:Nat),((0=(x:Int)/\True)/\True)/\([],true)=(List.map (fun(f:Int)=>(f,())) (List.take x d.1),true)/\x<=d.1.length)/\∀(x:Nat),x<=d.1.length->(decide ((x:Int)<(d.1.length:Int))=true->0<=(x:Int)/\(x:Int)<(d.1.length:Int)/\l=l/\(∃(rest:List (Int×Unit)),List.map (fun(g:Int)=>(g,())) (List.take x d.1)++[(q79_0 d x)]++rest=List.map (fun(h:Int)=>(h,())) d.1)/\(((!true)=true->true=true->List.map (fun(i:Int)=>(i,())) (List.take x d.1)++[(q79_0 d x)]=List.map (fun(j:Int)=>(j,())) d.1)/\((!true)=false->jz ((x:Int)+1)/\∃(a:Nat),(((x:Int)+1=(a:Int)/\True)/\True)/\(List.map (fun(k:Int)=>(k,())) (List.take x d.1)++[(q79_0 d x)],true)=(List.map (fun(z6:Int)=>(z6,())) (List.take a d.1),true)/\a<=d.1.length/\d.1.length-a<d.1.length-x))/\((!false)=true->false=true->List.map (fun(z7:Int)=>(z7,())) (List.take x d.1)++[(q79_0 d x)]=List.map (fun(z8:Int)=>(z8,())) d.1)/\((!false)=false->jz ((x:Int)+1)/\∃(a:Nat),(((x:Int)+1=(a:Int)/\True)/\True)/\(List.map (fun(m:Int)=>(m,())) (List.take x d.1)++[(q79_0 d x)],false)=(List.map (fun(b:Int)=>(b,())) (List.take a d.1),true)/\a<=d.1.length/\d.1.length-a<d.1.length-x))/\(decide ((x:Int)<(d.1.length:Int))=false->true=true->List.map (fun(c:Int)=>(c,())) (List.take x d.1)=List.map (fun(e:Int)=>(e,())) d.1)
theorem jbX:(jB9 (ctx 16 [] []) (z8 Tryz.f152) [.int] [.ref (.slice .int)] LVi (fun _=>[]) (fun _ _=>jgI) (fun d l=>hkY [.int] l [13] (fun q=>∃rest,LVi d (q++rest)) (fun _=>none)))=yP:=by kernel_rfl
def kc:jfi:=⟨[.val (.slice .int)],fun _=>[],152,[.slice .int],fun d=>(d.1,())⟩
def jbo:Prop:=∀(d:List Int×Unit),d=d
theorem jef:(jBw (ctx 4 [] []) (fun _=>none) Tryz.f110 (z8 Tryz.f110) kc)=jbo:=by kernel_rfl
def yl:jrH [.int]:={ps:=[.own (.box 33 [.row 3 .int .unk]) true],slots:=[2],dst:=20,pre:=fun _=>[],G:=fun d q=>((d.1.1++q.map (·.1),()),()),seq:=fun sv=>match sv with
 | .clo 152 [.ep t m]=>(match zA t (.slice .int) m with
  |some a=>some (True,fun xs=>xs=asI a)
  |none=>none)
 |_=>none}
def qd:Nat->Option ((ts:List Ty)×jrH ts):=fun r=>match r with
 |3=>some ⟨[.int],yl⟩
 |_=>none
def ky:jff:=⟨[none,some (152,1)],[.nil false,.ref (.slice .int)],[rwI],fun d=>[d.2.1.length<=12],fun d r=>r.1.1=d.2.1⟩
def kU:jff:=⟨[some (152,1)],[.ref (.slice .int)],[rwI],fun d=>[d.1.length<=12],fun d r=>r.1.1=d.1⟩
def kg:jff:=⟨[some (152,1),none],[.ref (.slice .int),.fn [.int,.int] [.int]],[rwI],fun d=>[d.1.length<=12,U.jbx d.2.1.pre d.1,wc (U.vX d.2.1.F) d.1],fun d r=>r.1.1=U.je (U.vX d.2.1.F) d.1⟩
def je9 (d:OD ky.ps):List SV:=[.lit (.slice none 0 0),.clo 152 [.ep (.slice .int) d.2.1]]
def yd:Prop:=∀(d:Unit×List Int×Unit),d.2.1.length<=12/\True->True/\True/\(([]++List.map (fun(a:Int×Unit)=>a.1) [],()),())=(([],()),())/\(∀(q:List (Int×Unit)) (x:Int×Unit) (rest:List (Int×Unit)),q++x::rest=List.map (fun(b:Int)=>(b,())) d.2.1->wB (fun(i:List (Int×Unit))=>false) q->(([]++List.map (fun(e:Int×Unit)=>e.1) q).length+[x.1].length)*8<=140737488355328/\false=false/\(([]++List.map (fun(f:Int×Unit)=>f.1) q++[x.1],()),())=(([]++List.map (fun(g:Int×Unit)=>g.1) (q++[x]),()),()))/\(∀(xs:List (Int×Unit)),xs=List.map (fun(z6:Int)=>(z6,())) d.2.1->wB (fun(z7:List (Int×Unit))=>false) xs->∃(k:Unit),[]++List.map (fun(z8:Int×Unit)=>z8.1) xs=d.2.1)/\∀(q:List (Int×Unit)) (x:Int×Unit) (rest:List (Int×Unit)),q++x::rest=List.map (fun(h:Int)=>(h,())) d.2.1->wB (fun(c:List (Int×Unit))=>false) q->false=true->∃(k:Unit),[]=d.2.1
theorem jbI:(jzj (ctx 13 [] []) (fun _=>none) (hkC (ctx 13 [] []) (fun _=>none) qd [] []) Tryz.f178 (z8 Tryz.f178) ky je9)=yd:=by kernel_rfl
def jhJ (d:OD kU.ps):List SV:=[.clo 152 [.ep (.slice .int) d.1]]
def gI:Prop:=∀(d:List Int×Unit),d.1.length<=12/\True->(d.1.length<=12/\True)/\∀(r:(List Int×Unit)×Unit),r.1.1=d.1->∃(k:Unit),r.1.1=d.1
theorem jdz:(jzj (ctx 5 [] []) (fun _=>none) (hkC (ctx 5 [] []) (fun _=>none) jEm [4] [(178,20,ky)]) Tryz.f150 (z8 Tryz.f150) kU jhJ)=gI:=by kernel_rfl
def jdQ (d:OD kg.ps):List SV:=[.clo 152 [.ep (.slice .int) d.1],.fn [.int,.int] [.int] d.2.1.pre d.2.1.F]
def vN:Prop:=∀(d:List Int×FnD [Ty.int,Ty.int] [Ty.int]×Unit),d.1.length<=12/\U.jbx d.2.1.1 d.1/\wc (U.vX d.2.1.2) d.1/\True->(d.1.length<=12/\True)/\∀(r:(List Int×Unit)×Unit),r.1.1=d.1->r.1.1.length<=12/\U.jbx d.2.1.1 r.1.1/\wc (U.vX d.2.1.2) r.1.1/\∃(k:Unit),U.je (U.vX d.2.1.2) r.1.1=U.je (U.vX d.2.1.2) d.1
theorem jaL:(jzj (ctx 12 [] [(151,z6)]) (fun _=>none) (hkC (ctx 12 [] [(151,z6)]) (fun _=>none) jEm [7] [(150,20,kU)]) Tryz.f109 (z8 Tryz.f109) kg jdQ)=vN:=by kernel_rfl
end Go.X
namespace Go.X
open Go.Proofs
theorem jyf {γ:Bool} {l:List Prop} {k:Prop} (h:γ=true->U.jL l) (hk:k):jBC γ l k:=by
 induction l with
 |nil=>exact hk
 |cons p l b=>exact⟨fun a=>(h a).1,b (fun a=>(h a).2)⟩
theorem jHy:∀n:Nat,n<13->qH U.len8tab n=U.je7 (n:Int):=by decide+kernel
theorem jFx (n:Int):0<=U.je7 n/\U.je7 n<=4:=by
 unfold U.je7
 split
 .omega
 split
 .omega
 split
 .omega
 split<;>omega
theorem jqX:jnC:=by
 unfold jnC q74_4 q74_3 q74_2 q74_1 q74_0;rintro⟨n,⟨⟩⟩ ⟨a,b⟩;have a:0<=n:=a;have b:n<=12:=b;refine⟨fun h=>absurd (of_decide_eq_true h) (by simp only;omega),fun _=>⟨fun h=>absurd (of_decide_eq_true h) (by simp only;omega),fun _=>⟨fun h=>absurd (of_decide_eq_true h) (by simp only;omega),fun _=> ?_⟩⟩⟩;have c:=jHy n.toNat (by omega);rw[Int.toNat_of_nonneg a] at c;have d:=jFx n;simp only;rw[c];refine⟨by omega,by omega,by omega,?_,by unfold jz;omega,by unfold jz;omega,by rw[Int.zero_add]⟩;have:U.len8tab.size=256:=(by decide+kernel);omega
theorem jog:zm PR 176 jnQ:=j8 jqX Tryz.func176 kcN koN
theorem jxA:jsh:=by
 rintro⟨n,⟨⟩⟩ h;exact⟨fun e=>(by cases e),fun _=>⟨h,rfl⟩⟩
theorem jtt:zm PR 143 jsN:=j8 jxA Tryz.func143 (kcC jog kcN) koN
theorem vK:vg:=by
 unfold vg q76_1 q76_0;rintro⟨l,a,b,⟨pre,c⟩,⟨⟩⟩ x y;obtain⟨z,n,E⟩:a=0/\b=(l.length:Int)/\l.length<=12:=x;have s:U.jbx pre l:=y;subst z n;simp only;refine⟨by unfold jz;omega,⟨1,⟨⟨rfl,trivial⟩,rfl,trivial⟩,jHM _,by omega⟩,fun i hi=>⟨fun h=> ?_,fun h=> ?_⟩⟩
 .have h:i<l.length:=(by have:=of_decide_eq_true h;omega);have u:=IS.part_perm (lt:=U.vX c) (l:=l) i (by omega);refine⟨⟨(i,U.gn (U.vX c) l i),⟨⟨rfl,trivial⟩,rfl,trivial⟩,jIA _,List.Perm.refl _,rfl⟩,?_⟩;rintro⟨j,m⟩ ⟨v,o,p⟩;have v:(j:Int)<=i:=v;have o:m.Perm (U.gn (U.vX c) l i):=o;have p:U.jdF (U.vX c) m j=U.jdF (U.vX c) (U.gn (U.vX c) l i) i:=p;have C:m.length=l.length:=(o.trans u).length_eq;have g:∀{k:Nat},k<m.length->nth m k∈l:=fun hk=>(o.trans u).mem_iff.1 (L.mem_nth hk)
  simp only[jHQ];refine⟨fun _=>by omega,fun f=>by have:=of_decide_eq_true f;omega,fun f=>by have:=of_decide_eq_true f;unfold jz;omega,fun f=>by have:=of_decide_eq_true f;omega,fun f=>by have:=of_decide_eq_true f;omega,jyf (fun f=> ?_) ⟨fun n=> ?_,fun n=> ?_⟩⟩
  .have f:=of_decide_eq_true f;exact s _ (g (by omega)) _ (g (by omega))
  .simp only[jHK,decide_eq_true_eq] at n;obtain⟨D,q⟩:=n;obtain⟨d,rfl⟩:∃d,j=d+1:=⟨j-1,by omega⟩;have r:((d+1:Nat):Int)-1=(d:Int):=(by omega);rw[r] at q⊢;simp only[jHQ] at q⊢;have t:=IS.swap_perm (l:=m) (j:=d+1) (k:=d) (by omega) (by omega);have e:jz (d:Int):=(by unfold jz;omega);refine⟨e,e,by omega,by omega,by omega,by omega,by omega,by omega,by omega,by simp;omega,e,⟨(d,U.jwj m (d+1) d),⟨⟨rfl,trivial⟩,rfl,trivial⟩,⟨by simp only;omega,t.trans o,?_⟩,by simp⟩⟩;rw[<-p];show _=(if U.vX c (nth m (d+1)) (nth m d)=true then U.jdF (U.vX c) (U.jwj m (d+1) d) d else m);have w:U.vX c (nth m (d+1)) (nth m d)=true:=decide_eq_true q;rw[if_pos w]
  .have B:m=U.gn (U.vX c) l (i+1):=by
    rw[IS.part_succ,<-p];cases j with
    |zero=>rfl
    |succ d=>
     unfold U.jdF;rw[if_neg];intro A;refine absurd n (by
      rw[Bool.and_eq_false_iff];rintro(h|h)
      .exact absurd (of_decide_eq_false h) (by simp)
      .refine of_decide_eq_false h ?_;have r:((d+1:Nat):Int)-1=(d:Int):=(by omega);rw[r];exact of_decide_eq_true A)
   exact⟨by unfold jz;omega,i+1,⟨⟨by simp,trivial⟩,B,trivial⟩,by omega,by omega⟩
 .have h:l.length<=i:=(by have:=of_decide_eq_false h;omega);exact⟨trivial,by rw[IS.part_isort hi.1 hi.2 h]⟩
theorem vq:qb PR 200 vj:=jdY vG vK Tryz.func200 kcN koN
theorem ja6:gE:=by
 rintro⟨l,a,b,lim,⟨pre,c⟩,⟨⟩⟩ e d;obtain⟨f,g,i⟩:a=0/\b=(l.length:Int)/\l.length<=12:=e;subst f g;refine⟨by unfold jz;simp only;omega,fun _=>⟨⟨rfl,rfl,by simp only;omega⟩,d,rfl,rfl⟩,fun h=>absurd (of_decide_eq_false h) (by simp only;omega)⟩
theorem gY:qb PR 179 gN:=jdY jaA ja6 Tryz.func179 kcN (koC vq koN)
theorem jhq:jfo:=by
 rintro⟨l,⟨pre,c⟩,⟨⟩⟩ a b d _;have a:l.length<=12:=a;exact⟨by simp only;omega,by simp only;omega,⟨by simp only;omega,by simp only;omega⟩,⟨rfl,rfl,a⟩,b,rfl,congrArg (·,()) (IS.isort_sort d)⟩
theorem jfZ:qb PR 151 z6:=jkr jhq Tryz.func151 (kcC jtt kcN) (koC gY koN)
theorem jDp {l:List Int} {i:Nat} (h:i<l.length):asI (l.take (i+1))=asI (l.take i)++[(nth l i,())]:=by
 unfold asI;rw[L.take_succ h,jIz];rfl
theorem jhp:yP:=by
 unfold yP q79_0;rintro⟨l,⟨⟩⟩ y b;have b:l.length<4611686018427387904:=b;refine⟨⟨0,⟨⟨rfl,trivial⟩,trivial⟩,rfl,jHR _⟩,fun x c=>⟨fun h=> ?_,fun h _=> ?_⟩⟩
 .have h:(x:Int)<(l.length:Int):=of_decide_eq_true h;have a:x<l.length:=(by omega);have e:=jDp a;unfold asI at e;simp only[jHQ];refine⟨by omega,h,trivial,⟨asI (l.drop (x+1)),?_⟩,⟨fun h=>(by cases h),fun _=>⟨L.in64 (by omega) (by omega),x+1,⟨⟨by simp,trivial⟩,trivial⟩,?_,by show x+1<=l.length;omega,by show l.length-(x+1)<l.length-x;omega⟩⟩,fun _ h=>(by cases h),fun h=>(by cases h)⟩
  .rw[<-e];unfold asI;rw[<-jIz,jI5]
  .rw[e]
 .have h:¬(x:Int)<(l.length:Int):=of_decide_eq_false h;have c:x<=l.length:=c;rw[jID (by show l.length<=x;omega)]
theorem jwD {H:Imm} {lb:Array Value} {d:PD [.ref (.slice .int)]} (e:pvs PR H [.ref (.slice .int)] lb.toList d):jDt PR H [.int] (LVi d) (.func (.func 152) #[] lb):=
 jDG (C:=ctx 16 [] []) (jle trivial trivial) mixed Tryz.func152 (by kernel_rfl) (by kernel_rfl) (by kernel_rfl) (by kernel_rfl) (by decide) (jbX.mpr jhp) (fun d l B0 R f a b c=>jGc a c) e trivial
theorem jkN:jbo:=by intro d;rfl
theorem jiH:jrK PR 110 kc:=jGd (jef.mpr jkN) Tryz.func110 (by kernel_rfl) (by kernel_rfl) (by kernel_rfl) (by kernel_rfl) trivial trivial
theorem jFC (l:List Int):(asI l).map (fun(x:Int×Unit)=>x.1)=l:=by
 unfold asI;rw[List.map_map];exact List.map_id l
theorem jgm:yd:=by
 intro d ⟨a,_⟩;refine⟨trivial,trivial,rfl,fun q x rest h _=>⟨?_,rfl,?_⟩,fun xs h _=>⟨(),?_⟩,fun _ _ _ _ _ h=>(by cases h)⟩
 .have b:=congrArg List.length h;simp only[jIL,jH2,jIi] at b;have a:d.2.1.length<=12:=a;simp only[jIa,jIL,jIi,jIq];omega
 .simp
 .rw[h,jIa];exact jFC d.2.1
theorem jiO:gI:=fun d a=>⟨a,fun r h=>⟨(),h⟩⟩
theorem jeR:vN:=fun d ⟨a,b,c,_⟩=>⟨⟨a,trivial⟩,fun r h=>by rw[h];exact⟨a,b,c,(),rfl⟩⟩
theorem jvA {P:Program} {ρ:Env} {H:Imm} (b:ρ.H=H) {g:Nat} {t:Ty} {d:t.Data} {lb:Array Value} {w:World} {bs:List Nat} (a:jaE P H w [.ref t] lb.toList (d,()) bs):SV.den P ρ (.clo g [.ep t d]) (.func (.func g) #[] lb):=by
 subst b
 match e:lb.toList,a with
 |[],a=>exact a.elim
 |[x],⟨_,_,_,⟨c,_⟩,_⟩=>
  simp only[SV.den,SV.denL];exact⟨lb,rfl,x,[],e,c,rfl⟩
 |x::y::r,⟨_,_,_,_,h2⟩=>cases h2.1
theorem jtd {lb:Array Value} (h:lb.size=1):∃x,lb.toList=[x]:=by
 have a:lb.toList.length=1:=(by rw[jIh];exact h);exact List.length_eq_one_iff.1 a
theorem jzG {g n:Nat} {s:jff} (h:ROK PR g s):∀(f:Nat) (p:Nat×jff),jJ [(g,n,s)] f=some p->ROK PR f p.2:=by
 intro f p a;simp only[jJ] at a
 split at a
 .rename_i b;have:=jHH b;subst this;simp at a;subst a;exact h
 .cases a
theorem jDj (n:Nat):(ctx n [] []).ok PR:=jle trivial trivial
theorem jdJ:ROK PR 178 ky:=by
 refine jzi (body:=z8 Tryz.f178) (C:=ctx 13 [] []) (hk:=hkC (ctx 13 [] []) (fun _=>none) qd [] []) (jDj 13) mixed Tryz.func178 (by kernel_rfl) (by kernel_rfl) (by kernel_rfl) (fun B=>jm3 (jDj 13) mixed ?_ jEO B) rfl (fun H w vals fl d bs c b ρ f=> ?_) (fun d=>rfl) (jbI.mpr jgm)
 .intro k t rs sv A L v ρ hk a p g;unfold qd at hk
  split at hk
  case h_2=>cases hk
  simp only[Option.some.injEq] at hk;cases hk;simp only[yl] at a
  split at a
  case h_2=>cases a
  rename_i t m
  split at a
  case h_2=>cases a
  rename_i z o;simp only[Option.some.injEq,Prod.mk.injEq] at a;obtain⟨rfl,rfl⟩:=a;obtain⟨e,rfl⟩:=jq o;subst e;simp only[SV.den,SV.denL] at g;obtain⟨lb,rfl,x,r,n,j,l⟩:=g;exact jwD (d:=(m,())) (by rw[n,l];exact⟨j,rfl⟩)
 .obtain⟨v,q,h,rfl,rfl,lb,s,i,rfl,rfl,_,rfl,rfl⟩:=c;obtain⟨u,y,_,⟨rfl,_⟩,b⟩:=b;rw[jIc] at b;refine⟨_,_,rfl,rfl,_,_,rfl,jvA f b,rfl⟩
theorem jfT:ROK PR 150 kU:=by
 refine jzi (body:=z8 Tryz.f150) (C:=ctx 5 [] []) (hk:=hkC (ctx 5 [] []) (fun _=>none) jEm [4] [(178,20,ky)]) (jDj 5) mixed Tryz.func150 (by kernel_rfl) (by kernel_rfl) (by kernel_rfl) (fun B=>jm3 (jDj 5) mixed jsn (jzG jdJ) B) rfl (fun H w vals fl d bs a c ρ b=> ?_) (fun d=>rfl) (jdz.mpr jiO);obtain⟨lb,f,e,rfl,rfl,_,rfl,rfl⟩:=a;rw[jIc] at c;exact⟨_,_,rfl,jvA b c,rfl⟩
theorem jnf:(ctx 12 [] [(151,z6)]).ok PR:=jle trivial ⟨jfZ,trivial⟩
theorem jcg:ROK PR 109 kg:=by
 refine jzi (body:=z8 Tryz.f109) (C:=ctx 12 [] [(151,z6)]) (hk:=hkC (ctx 12 [] [(151,z6)]) (fun _=>none) jEm [7] [(150,20,kU)]) jnf mixed Tryz.func109 (by kernel_rfl) (by kernel_rfl) (by kernel_rfl)
  (fun B=>jm3 jnf mixed jsn (jzG jfT) B) rfl (fun H w vals fl d bs a e ρ c=> ?_) (fun d=>rfl) (jaL.mpr jeR)
 obtain⟨lb,k,g,rfl,rfl,b,v,l,h,rfl,rfl,rfl,rfl⟩:=a;obtain⟨x,f⟩:=jtd b;rw[f] at e;obtain⟨m,n,_,⟨i,_⟩,c1,c2,_,⟨j,_⟩,_⟩:=e;subst c;refine⟨_,_,rfl,⟨lb,rfl,x,[],f,i,rfl⟩,_,_,rfl,j,rfl⟩
end Go.X
namespace Go.X
open Go.Proofs
abbrev tRo:Ty:= .st [tDy,.slice .int,.slice (.slice .int),.slice .int]
abbrev RoD:Type:=DyD×List Int×List (List Int)×List Int×Unit
namespace U
def ro (o:Option RoD):RoD:=jQ (Ty.dflt tRo) o
def rd (r:RoD):DyD:=r.1
def ja3 (r:RoD):List Int:=r.2.1
def jY (r:RoD):List (List Int):=r.2.2.1
def jGS (r:RoD):List Int:=r.2.2.2.1
def kr (d:DyD) (b:Int):Prop:=0<=b/\b<((ju d).length:Int)
def jcx (d:DyD) (l:List Int):Prop:=l.length<=12/\∀b∈l,kr d b
def jcw (d:DyD):Prop:=js (jc d)=true/\jxe d=true/\zK d=true
def jae (r:RoD):Prop:=jcw (rd r)/\(ja3 r).length=(ju (rd r)).length
def ji1 (d:DyD) (p:Int):Prop:=0<=p/\p<((jh (jc d)).length:Int)
def jgC (d:DyD) (a b:Int):Int:=wY [jaz (ve (bk d a)) (ve (bk d b)),jaz a b]
def jg (d:DyD) (l:List Int):List Int:=je (wQ d) l
def kz (d:DyD) (s:List Int) (n:Nat):Int:=jon d (s.take n)
def joh (d:DyD) (kI:List Int) (p:Int) (s:List Int) (i:Nat):Bool:= !(decide (qL (nth kI (nth s i).toNat/2^p.toNat) 1=0)||(s.drop (i+1)).any (fun c=>decide (qj d (nth s i) c<0)))
def jFr (d:DyD) (kI:List Int) (p:Int) (s:List Int):Bool:=(List.range s.length).all (joh d kI p s)&&decide (jon d s<=jCB d)
def jun (d:DyD) (kI:List Int) (p:Int) (l:List Int):Bool:=jFr d kI p (jg d l)
def gC (r:RoD) (p:Int) (l:List Int):Bool:=jun (rd r) (ja3 r) p l
def qS (on:List (List Int)) (b:Int) (n:Nat):Int:=(List.range n).foldl (fun s p=>if(nth on p).any (fun x=>decide (x=b))=true then bor s (1*2^p) else s) 0
def jI (on:List (List Int)) (b:Int):Int:=qS on b on.length
def jd1 (d:DyD) (b t:Int):Bool:=(decide (vi (jc d) (yG (bk d b)) t=0)&&decide (jFU (jc d) (yG (bk d b)) t=0))&&decide (t≠0)
def vT (l:List PeD) (t:Int) (n:Nat):Int:=(List.range n).foldl (fun s i=>s+qL (t/2^i) 1*fe (nth l i)) 0
def wh (d:DyD) (t:Int):Int:=vT (jh (jc d)) t (jh (jc d)).length
def jkY (r:RoD) (b:Int) (p:Nat):Bool:= !((nth (jY r) p).any (fun x=>decide (x=b)))&&gC r (p:Int) (nth (jY r) p++[b])
def kA (r:RoD) (b:Int) (n:Nat):List Int:=((List.range n).filter (jkY r b)).map (fun(p:Nat)=>(p:Int))
def jv (r:RoD) (b:Int):List Int:=kA r b (jY r).length
def jtu (r:RoD):Prop:=(jY r).length=(jh (jc (rd r))).length/\∀l∈jY r,l.length<=11/\∀b∈l,kr (rd r) b
end U
def jgX:j9:=⟨[.val (.ptr tRo),.val .int,.val .int],[.int],false,fun d=>[d.1.isSome=true,U.jcw (U.rd (U.ro d.1)),U.kr (U.rd (U.ro d.1)) d.2.1,U.kr (U.rd (U.ro d.1)) d.2.2.1],fun d=>(U.qj (U.rd (U.ro d.1)) d.2.1 d.2.2.1,())⟩
abbrev q84_0 (d:Option RoD×Int×Int×Unit):=(jQ ((((0:Int),[],[],()),[],[],(0:Int),(0:Int),[],()),[],[],[],()) d.1)
abbrev q84_1 (d:Option RoD×Int×Int×Unit):=(nth (q84_0 d).1.2.2.1 d.2.1.toNat)
abbrev q84_2 (d:Option RoD×Int×Int×Unit):=(nth (q84_0 d).1.2.2.1 d.2.2.1.toNat)
def jgS:Prop:=∀(d:Option RoD×Int×Int×Unit),d.1.isSome=true->U.jcw (U.rd (U.ro d.1))->U.kr (U.rd (U.ro d.1)) d.2.1->U.kr (U.rd (U.ro d.1)) d.2.2.1->d.1.isSome=true/\0<=d.2.1/\d.2.1<(↑(q84_0 d).1.2.2.1.length:Int)/\d.1.isSome=true/\0<=d.2.2.1/\d.2.2.1<(↑(q84_0 d).1.2.2.1.length:Int)/\jz ((q84_2 d).2.2.1-(q84_1 d).2.2.2.1)/\d.1.isSome=true/\jz ((q84_2 d).2.2.1-(q84_1 d).2.2.2.1-(q84_0 d).1.2.2.2.1)/\d.1.isSome=true/\(0:Int)<=(q84_1 d).2.1/\(q84_1 d).2.1<(↑(q84_0 d).1.2.1.length:Int)/\(0:Int)<=(q84_2 d).2.1/\(q84_2 d).2.1<(↑(nth (q84_0 d).1.2.1 (q84_1 d).2.1.toNat).length:Int)/\jz ((q84_2 d).2.2.1-(q84_1 d).2.2.2.1-(q84_0 d).1.2.2.2.1-(nth (nth (q84_0 d).1.2.1 (q84_1 d).2.1.toNat) (q84_2 d).2.1.toNat).2.1)/\((q84_2 d).2.2.1-(q84_1 d).2.2.2.1-(q84_0 d).1.2.2.2.1-(nth (nth (q84_0 d).1.2.1 (q84_1 d).2.1.toNat) (q84_2 d).2.1.toNat).2.1,())=(U.qj (U.rd (U.ro d.1)) d.2.1 d.2.2.1,())
def zH:j9:=⟨[.val .int,.val .int,.ref (.ptr tRo)],[.int],false,fun d=>[d.2.2.1.isSome=true,U.kr (U.rd (U.ro d.2.2.1)) d.1,U.kr (U.rd (U.ro d.2.2.1)) d.2.1],fun d=>(U.jgC (U.rd (U.ro d.2.2.1)) d.1 d.2.1,())⟩
abbrev q85_0 (d:Int×Int×Option RoD×Unit):=(jQ ((((0:Int),[],[],()),[],[],(0:Int),(0:Int),[],()),[],[],[],()) d.2.2.1)
def jdA:Prop:=∀(d:Int×Int×Option RoD×Unit),d.2.2.1.isSome=true->U.kr (U.rd (U.ro d.2.2.1)) d.1->U.kr (U.rd (U.ro d.2.2.1)) d.2.1->d.2.2.1.isSome=true/\0<=d.1/\d.1<(↑(q85_0 d).1.2.2.1.length:Int)/\d.2.2.1.isSome=true/\0<=d.2.1/\d.2.1<(↑(q85_0 d).1.2.2.1.length:Int)/\(U.wY [U.jaz (nth (q85_0 d).1.2.2.1 d.1.toNat).2.2.1 (nth (q85_0 d).1.2.2.1 d.2.1.toNat).2.2.1,U.jaz d.1 d.2.1],())=(U.jgC (U.rd (U.ro d.2.2.1)) d.1 d.2.1,())
def yT:j9:=⟨[.val (.ptr tRo),.val (.slice .int)],[.slice .int],false,fun d=>[d.1.isSome=true,U.jcx (U.rd (U.ro d.1)) d.2.1],fun d=>(U.jg (U.rd (U.ro d.1)) d.2.1,())⟩
def yQ:Prop:=∀(d:Option RoD×List Int×Unit),d.1.isSome=true->U.jcx (U.rd (U.ro d.1)) d.2.1->(d.2.1.length<=12/\U.jbx (fun(a:Int×Int×Unit)=>[d.1.isSome=true,U.kr (U.rd (U.ro d.1)) a.1,U.kr (U.rd (U.ro d.1)) a.2.1]) d.2.1/\wc (U.vX fun(b:Int×Int×Unit)=>(U.jgC (U.rd (U.ro d.1)) b.1 b.2.1,())) d.2.1/\True)/\∀(r:(List Int×Unit)×Unit),r.1.1=U.je (U.vX fun(c:Int×Int×Unit)=>(U.jgC (U.rd (U.ro d.1)) c.1 c.2.1,())) d.2.1->r.1=(U.jg (U.rd (U.ro d.1)) d.2.1,())
theorem jb0:(jEB (jrS 9 [(111,zH)] [] [(110,kc)] []) (fun _=>none) (hkC (jrS 9 [(111,zH)] [] [(110,kc)] []) (fun _=>none) jEm [8] [(109,20,kg)]) Tryz.f58 (z8 Tryz.f58) yT)=yQ:=by kernel_rfl
def jgY:j9:=⟨[.val .int,.ref (.ptr tRo),.ref .int],[.bool],false,fun d=>[d.2.1.isSome=true,U.jcw (U.rd (U.ro d.2.1)),U.kr (U.rd (U.ro d.2.1)) d.1,U.kr (U.rd (U.ro d.2.1)) d.2.2.1],fun d=>(decide (U.qj (U.rd (U.ro d.2.1)) d.2.2.1 d.1<0),())⟩
def jgT:Prop:=∀(d:Int×Option RoD×Int×Unit),d.2.1.isSome=true->U.jcw (U.rd (U.ro d.2.1))->U.kr (U.rd (U.ro d.2.1)) d.1->U.kr (U.rd (U.ro d.2.1)) d.2.2.1->d.2.1.isSome=true/\U.jcw (U.rd (U.ro d.2.1))/\U.kr (U.rd (U.ro d.2.1)) d.2.2.1/\U.kr (U.rd (U.ro d.2.1)) d.1/\(decide (U.qj (U.rd (U.ro d.2.1)) d.2.2.1 d.1<0),())=(decide (U.qj (U.rd (U.ro d.2.1)) d.2.2.1 d.1<0),())
def jb8:j9:=⟨[.val (.ptr tRo),.val .int,.val (.slice .int)],[.bool],false,fun d=>[d.1.isSome=true,U.jae (U.ro d.1),U.ji1 (U.rd (U.ro d.1)) d.2.1,U.jcx (U.rd (U.ro d.1)) d.2.2.1],fun d=>(U.gC (U.ro d.1) d.2.1 d.2.2.1,())⟩
def jlu:Ann:=fun r=>match r with
 |4=>some fun σ=>{X:=Nat,sl:=fun i=>[(16,.dat .int (i:Int)),(7,.dat .int (U.kz (U.rd (U.ro (gd (.ptr tRo) σ 0))) (gd (.slice .int) σ 14) i))],ob:=fun _=>[],inv:=fun i=>i<=(gd (.slice .int) σ 14).length/\∀b:Nat,b<i->U.joh (U.rd (U.ro (gd (.ptr tRo) σ 0))) (U.ja3 (U.ro (gd (.ptr tRo) σ 0))) (gd .int σ 1) (gd (.slice .int) σ 14) b=true,mu:=fun i=>(gd (.slice .int) σ 14).length-i}
 |_=>none
abbrev q88_0 (d:Option RoD×Int×List Int×Unit):=(jQ ((((0:Int),[],[],()),[],[],(0:Int),(0:Int),[],()),[],[],[],()) d.1)
abbrev q88_5 (d:Option RoD×Int×List Int×Unit):=(U.rd (U.ro d.1))
abbrev q88_1 (d:Option RoD×Int×List Int×Unit):=(U.jg (q88_5 d) d.2.2.1)
abbrev q88_4 (d:Option RoD×Int×List Int×Unit):=(↑(q88_1 d).length:Int)
abbrev q88_6 (d:Option RoD×Int×List Int×Unit)(x:Nat):=(nth (q88_1 d) (x:Int).toNat)
abbrev q88_2 (d:Option RoD×Int×List Int×Unit)(x:Nat):=(qL (nth (q88_0 d).2.1 (q88_6 d x).toNat/(2:Int)^d.2.1.toNat) (1:Int)=0)
abbrev q88_3 (d:Option RoD×Int×List Int×Unit)(x:Nat):=((nth (q88_0 d).1.2.2.1 (q88_6 d x).toNat).2.2.2.1-(nth (q88_0 d).1.2.2.1 (q88_6 d x).toNat).2.2.1)
abbrev q88_7 (d:Option RoD×Int×List Int×Unit)(x:Nat):=(List.take ((q88_4 d).toNat-((x:Int)+1).toNat) (List.drop ((x:Int)+1).toNat (q88_1 d)))
def jjr:Prop:=∀(d:Option RoD×Int×List Int×Unit),d.1.isSome=true->U.jae (U.ro d.1)->U.ji1 (q88_5 d) d.2.1->U.jcx (q88_5 d) d.2.2.1->d.1.isSome=true/\U.jcx (q88_5 d) d.2.2.1/\((q88_1 d).length<4611686018427387904->(∃(x:Nat),((0=(x:Int)/\0=U.kz (q88_5 d) (q88_1 d) x/\True)/\True)/\x<=(q88_1 d).length/\∀(b:Nat),b<x->U.joh (q88_5 d) (U.ja3 (U.ro d.1)) d.2.1 (q88_1 d) b=true)/\∀(x:Nat),(x<=(q88_1 d).length/\∀(b:Nat),b<x->U.joh (q88_5 d) (U.ja3 (U.ro d.1)) d.2.1 (q88_1 d) b=true)->(decide ((x:Int)<(q88_4 d))=true->0<=(x:Int)/\(x:Int)<(q88_4 d)/\d.1.isSome=true/\0<=nth (q88_1 d) (x:Int).toNat/\nth (q88_1 d) (x:Int).toNat<(↑(q88_0 d).1.2.2.1.length:Int)/\d.1.isSome=true/\0<=nth (q88_1 d) (x:Int).toNat/\nth (q88_1 d) (x:Int).toNat<(↑(q88_0 d).1.2.2.1.length:Int)/\jz (q88_3 d x)/\jz (U.kz (q88_5 d) (q88_1 d) x+(q88_3 d x))/\d.1.isSome=true/\0<=nth (q88_1 d) (x:Int).toNat/\nth (q88_1 d) (x:Int).toNat<(↑(q88_0 d).2.1.length:Int)/\0<=d.2.1/\d.2.1<=64/\((!decide (q88_2 d x))=true->jz ((x:Int)+1))/\((!decide (q88_2 d x))=true->0<=(x:Int)+1)/\((!decide (q88_2 d x))=true->(x:Int)+1<=(q88_4 d))/\((!decide (q88_2 d x))=true->(q88_4 d)<=(q88_4 d))/\((!decide (q88_2 d x))=true->∀(g:Int),g∈List.take ((q88_4 d).toNat-((x:Int)+1).toNat) (List.drop ((x:Int)+1).toNat (q88_1 d))->U.jL [d.1.isSome=true,U.jcw (q88_5 d),U.kr (q88_5 d) g,U.kr (q88_5 d) (q88_6 d x)])/\((decide (q88_2 d x)||(q88_7 d x).any (U.jd fun(c:Int×Unit)=>(decide (U.qj (q88_5 d) (q88_6 d x) c.1<0),())))=true->(false,())=(U.gC (U.ro d.1) d.2.1 d.2.2.1,()))/\((decide (q88_2 d x)||(q88_7 d x).any (U.jd fun(e:Int×Unit)=>(decide (U.qj (q88_5 d) (q88_6 d x) e.1<0),())))=false->jz ((x:Int)+1)/\∃(a:Nat),(((x:Int)+1=(a:Int)/\U.kz (q88_5 d) (q88_1 d) x+(q88_3 d x)=U.kz (q88_5 d) (q88_1 d) a/\True)/\True)/\(a<=(q88_1 d).length/\∀(b:Nat),b<a->U.joh (q88_5 d) (U.ja3 (U.ro d.1)) d.2.1 (q88_1 d) b=true)/\(q88_1 d).length-a<(q88_1 d).length-x))/\(decide ((x:Int)<(q88_4 d))=false->d.1.isSome=true/\(decide (U.kz (q88_5 d) (q88_1 d) x<=(q88_0 d).1.2.2.2.2.1),())=(U.gC (U.ro d.1) d.2.1 d.2.2.1,())))
def jit:j9:=⟨[.val (.ptr tRo),.val .int],[.int],false,fun d=>[d.1.isSome=true,(U.jY (U.ro d.1)).length<=60],fun d=>(U.jI (U.jY (U.ro d.1)) d.2.1,())⟩
def jiW:Ann:=fun r=>match r with
 |2=>some fun σ=>{X:=Nat,sl:=fun i=>[(12,.dat .int (i:Int)),(4,.dat .int (U.qS (U.jY (U.ro (gd (.ptr tRo) σ 0))) (gd .int σ 1) i))],ob:=fun _=>[],inv:=fun i=>i<=(U.jY (U.ro (gd (.ptr tRo) σ 0))).length,mu:=fun i=>(U.jY (U.ro (gd (.ptr tRo) σ 0))).length-i}
 |_=>none
abbrev q89_0 (d:Option RoD×Int×Unit):=(jQ ((((0:Int),[],[],()),[],[],(0:Int),(0:Int),[],()),[],[],[],()) d.1)
abbrev q89_1 (d:Option RoD×Int×Unit):=(U.jY (U.ro d.1))
def jij:Prop:=∀(d:Option RoD×Int×Unit),d.1.isSome=true->(q89_1 d).length<=60->d.1.isSome=true/\((q89_0 d).2.2.1.length<4611686018427387904->(∃(x:Nat),((0=(x:Int)/\0=U.qS (q89_1 d) d.2.1 x/\True)/\True)/\x<=(q89_1 d).length)/\∀(x:Nat),x<=(q89_1 d).length->(decide ((x:Int)<(↑(q89_0 d).2.2.1.length:Int))=true->0<=(x:Int)/\(x:Int)<(↑(q89_0 d).2.2.1.length:Int)/\(((nth (q89_0 d).2.2.1 (x:Int).toNat).any fun(b:Int)=>decide (b=d.2.1))=true->0<=(x:Int)/\(x:Int)<=64/\jz ((1:Int)*2^(x:Int).toNat)/\jz ((x:Int)+1)/\∃(a:Nat),(((x:Int)+1=(a:Int)/\bor (U.qS (q89_1 d) d.2.1 x) ((1:Int)*2^(x:Int).toNat)=U.qS (q89_1 d) d.2.1 a/\True)/\True)/\a<=(q89_1 d).length/\(q89_1 d).length-a<(q89_1 d).length-x)/\(((nth (q89_0 d).2.2.1 (x:Int).toNat).any fun(c:Int)=>decide (c=d.2.1))=false->jz ((x:Int)+1)/\∃(a:Nat),((U.qS (q89_1 d) d.2.1 x=U.qS (q89_1 d) d.2.1 a/\(x:Int)+1=(a:Int)/\True)/\True)/\a<=(q89_1 d).length/\(q89_1 d).length-a<(q89_1 d).length-x))/\(decide ((x:Int)<(↑(q89_0 d).2.2.1.length:Int))=false->(U.qS (q89_1 d) d.2.1 x,())=(U.jI (q89_1 d) d.2.1,())))
def jiv:j9:=⟨[.val (.ptr tRo),.val .int,.val .int],[.bool],false,fun d=>[d.1.isSome=true,U.kr (U.rd (U.ro d.1)) d.2.1],fun d=>(U.jd1 (U.rd (U.ro d.1)) d.2.1 d.2.2.1,())⟩
abbrev q90_0 (d:Option RoD×Int×Int×Unit):=(jQ ((((0:Int),[],[],()),[],[],(0:Int),(0:Int),[],()),[],[],[],()) d.1)
def jil:Prop:=∀(d:Option RoD×Int×Int×Unit),d.1.isSome=true->U.kr (U.rd (U.ro d.1)) d.2.1->d.1.isSome=true/\d.1.isSome=true/\0<=d.2.1/\d.2.1<(↑(q90_0 d).1.2.2.1.length:Int)/\(decide (U.vi (q90_0 d).1.1 (nth (q90_0 d).1.2.2.1 d.2.1.toNat).1 d.2.2.1=0)&&decide (U.jFU (q90_0 d).1.1 (nth (q90_0 d).1.2.2.1 d.2.1.toNat).1 d.2.2.1=0)&&decide (d.2.2.1≠0),())=(U.jd1 (U.rd (U.ro d.1)) d.2.1 d.2.2.1,())
def jb7:j9:=⟨[.val (.ptr tRo),.val .int],[.int],false,fun d=>[d.1.isSome=true,U.js (U.jc (U.rd (U.ro d.1)))=true,0<=d.2.1,d.2.1<=1000000],fun d=>(U.wh (U.rd (U.ro d.1)) d.2.1,())⟩
def jlt:Ann:=fun r=>match r with
 |2=>some fun σ=>{X:=Nat,sl:=fun i=>[(14,.dat .int (i:Int)),(4,.dat .int (U.vT (U.jh (U.jc (U.rd (U.ro (gd (.ptr tRo) σ 0))))) (gd .int σ 1) i))],ob:=fun _=>[],inv:=fun i=>i<=(U.jh (U.jc (U.rd (U.ro (gd (.ptr tRo) σ 0))))).length,mu:=fun i=>(U.jh (U.jc (U.rd (U.ro (gd (.ptr tRo) σ 0))))).length-i}
 |_=>none
abbrev q91_0 (d:Option RoD×Int×Unit):=(jQ ((((0:Int),[],[],()),[],[],(0:Int),(0:Int),[],()),[],[],[],()) d.1)
abbrev q91_1 (d:Option RoD×Int×Unit):=(U.jh (U.jc (U.rd (U.ro d.1))))
def jjq:Prop:=∀(d:Option RoD×Int×Unit),d.1.isSome=true->U.js (U.jc (U.rd (U.ro d.1)))=true->0<=d.2.1->d.2.1<=1000000->d.1.isSome=true/\((q91_0 d).1.1.2.1.length<4611686018427387904->(∃(x:Nat),((0=(x:Int)/\0=U.vT (q91_1 d) d.2.1 x/\True)/\True)/\x<=(q91_1 d).length)/\∀(x:Nat),x<=(q91_1 d).length->(decide ((x:Int)<(↑(q91_0 d).1.1.2.1.length:Int))=true->0<=(x:Int)/\(x:Int)<(↑(q91_0 d).1.1.2.1.length:Int)/\0<=(x:Int)/\(x:Int)<=64/\jz (qL (d.2.1/(2:Int)^(x:Int).toNat) (1:Int)*(nth (q91_0 d).1.1.2.1 (x:Int).toNat).2.2.2.2.2.1)/\jz (U.vT (q91_1 d) d.2.1 x+qL (d.2.1/(2:Int)^(x:Int).toNat) (1:Int)*(nth (q91_0 d).1.1.2.1 (x:Int).toNat).2.2.2.2.2.1)/\jz ((x:Int)+1)/\∃(a:Nat),(((x:Int)+1=(a:Int)/\U.vT (q91_1 d) d.2.1 x+qL (d.2.1/(2:Int)^(x:Int).toNat) (1:Int)*(nth (q91_0 d).1.1.2.1 (x:Int).toNat).2.2.2.2.2.1=U.vT (q91_1 d) d.2.1 a/\True)/\True)/\a<=(q91_1 d).length/\(q91_1 d).length-a<(q91_1 d).length-x)/\(decide ((x:Int)<(↑(q91_0 d).1.1.2.1.length:Int))=false->(U.vT (q91_1 d) d.2.1 x,())=(U.wh (U.rd (U.ro d.1)) d.2.1,())))
def jjL:zQ:=⟨[.val (.slice .int)],[rwI],fun d=>[d.1.length<=100000],fun d=>((d.1,()),())⟩
def jjp:Prop:=∀(d:List Int×Unit),d.1.length<=100000->∀(a:Bool),(a=true->d.1=[])->(a=true->([],())=d/\()=())/\(a=false->(0+d.1.length)*8<=140737488355328/\([]++d.1,())=d/\()=())
def jiu:j9:=⟨[.val (.ptr tRo),.val .int],[.slice .int],false,fun d=>[d.1.isSome=true,U.jae (U.ro d.1),U.jtu (U.ro d.1),U.kr (U.rd (U.ro d.1)) d.2.1],fun d=>(U.jv (U.ro d.1) d.2.1,())⟩
def jiX:Ann:=fun r=>match r with
 |3=>some fun σ=>{X:=Nat,sl:=fun i=>[(13,.dat .int (i:Int)),(5,.own 5 .int)],ob:=fun i=>[(5,some (.row 3 .int false .yes (U.kA (U.ro (gd (.ptr tRo) σ 0)) (gd .int σ 1) i)))],inv:=fun i=>i<=(U.jY (U.ro (gd (.ptr tRo) σ 0))).length,mu:=fun i=>(U.jY (U.ro (gd (.ptr tRo) σ 0))).length-i}
 |3000005=>some fun _=>{X:=Unit,sl:=fun _=>[],ob:=fun _=>[],inv:=fun _=>True,mu:=fun _=>0}
 |_=>none
abbrev q93_0 (d:Option RoD×Int×Unit):=(jQ ((((0:Int),[],[],()),[],[],(0:Int),(0:Int),[],()),[],[],[],()) d.1)
abbrev q93_1 (d:Option RoD×Int×Unit)(x:Nat):=(nth (q93_0 d).2.2.1 (x:Int).toNat)
abbrev q93_2 (d:Option RoD×Int×Unit):=(U.jY (U.ro d.1))
abbrev q93_3 (x:Nat)(a:Nat)(d:Option RoD×Int×Unit):=(((x:Int)+1=(a:Int)/\True/\True)/\U.kA (U.ro d.1) d.2.1 x++[(x:Int)]=U.kA (U.ro d.1) d.2.1 a/\True)
abbrev q93_4 (x:Nat)(a:Nat)(d:Option RoD×Int×Unit):=((True/\(x:Int)+1=(a:Int)/\True)/\U.kA (U.ro d.1) d.2.1 x=U.kA (U.ro d.1) d.2.1 a/\True)
abbrev q93_5 (d:Option RoD×Int×Unit)(x:Nat):=(nth (q93_0 d).2.2.1 (x:Int).toNat++[d.2.1])
def jik:Prop:=∀(d:Option RoD×Int×Unit),d.1.isSome=true->U.jae (U.ro d.1)->U.jtu (U.ro d.1)->U.kr (U.rd (U.ro d.1)) d.2.1->d.1.isSome=true/\((q93_0 d).2.2.1.length<4611686018427387904->(∃(x:Nat),((0=(x:Int)/\True/\True)/\U.kA (U.ro d.1) d.2.1 x=[]/\True)/\x<=(q93_2 d).length)/\∀(x:Nat),x<=(q93_2 d).length->(decide ((x:Int)<(↑(q93_0 d).2.2.1.length:Int))=true->0<=(x:Int)/\(x:Int)<(↑(q93_0 d).2.2.1.length:Int)/\((!(q93_1 d x).any fun(k:Int)=>decide (k=d.2.1))=true->(!(q93_1 d x).any fun(l:Int)=>decide (l=d.2.1))=true/\(!(q93_1 d x).any fun(m:Int)=>decide (m=d.2.1))=true/\(!(q93_1 d x).any fun(n:Int)=>decide (n=d.2.1))=true/\(q93_1 d x).length<=100000/\(!(q93_1 d x).any fun(o:Int)=>decide (o=d.2.1))=true/\(!(q93_1 d x).any fun(p:Int)=>decide (p=d.2.1))=true/\(!(q93_1 d x).any fun(z6:Int)=>decide (z6=d.2.1))=true/\((q93_1 d x).length+[d.2.1].length)*8<=140737488355328/\(!(q93_1 d x).any fun(z7:Int)=>decide (z7=d.2.1))=true/\d.1.isSome=true/\U.jae (U.ro d.1)/\U.ji1 (U.rd (U.ro d.1)) (x:Int)/\U.jcx (U.rd (U.ro d.1)) (q93_5 d x)/\(!(q93_1 d x).any fun(z8:Int)=>decide (z8=d.2.1))=true/\(U.gC (U.ro d.1) (x:Int) (q93_5 d x)=true->((U.kA (U.ro d.1) d.2.1 x).length+[(x:Int)].length)*8<=140737488355328/\jz ((x:Int)+1)/\∃(a:Nat),(q93_3 x a d)/\a<=(q93_2 d).length/\(q93_2 d).length-a<(q93_2 d).length-x)/\(U.gC (U.ro d.1) (x:Int) (q93_5 d x)=false->jz ((x:Int)+1)/\∃(a:Nat),(q93_4 x a d)/\a<=(q93_2 d).length/\(q93_2 d).length-a<(q93_2 d).length-x))/\((!(q93_1 d x).any fun(q:Int)=>decide (q=d.2.1))=false->(!(q93_1 d x).any fun(b:Int)=>decide (b=d.2.1))=false/\(!(q93_1 d x).any fun(c:Int)=>decide (c=d.2.1))=false/\(!(q93_1 d x).any fun(e:Int)=>decide (e=d.2.1))=false/\(!(q93_1 d x).any fun(f:Int)=>decide (f=d.2.1))=false/\(!(q93_1 d x).any fun(g:Int)=>decide (g=d.2.1))=false/\(!(q93_1 d x).any fun(h:Int)=>decide (h=d.2.1))=false/\(!(q93_1 d x).any fun(i:Int)=>decide (i=d.2.1))=false/\(!(q93_1 d x).any fun(j:Int)=>decide (j=d.2.1))=false/\(false=true->((U.kA (U.ro d.1) d.2.1 x).length+[(x:Int)].length)*8<=140737488355328/\jz ((x:Int)+1)/\∃(a:Nat),(q93_3 x a d)/\a<=(q93_2 d).length/\(q93_2 d).length-a<(q93_2 d).length-x)/\(false=false->jz ((x:Int)+1)/\∃(a:Nat),(q93_4 x a d)/\a<=(q93_2 d).length/\(q93_2 d).length-a<(q93_2 d).length-x)))/\(decide ((x:Int)<(↑(q93_0 d).2.2.1.length:Int))=false->(U.kA (U.ro d.1) d.2.1 x,())=(U.jv (U.ro d.1) d.2.1,())))
def jes:j9:=⟨[.val (.ptr tRo),.val .int],[.bool],false,fun d=>[d.1.isSome=true,(U.ju (U.rd (U.ro d.1))).length<=4],fun d=>(U.ja d.2.1 0 (((U.ju (U.rd (U.ro d.1))).length:Int)-1),())⟩
abbrev q94_0 (d:Option RoD×Int×Unit):=(jQ ((((0:Int),[],[],()),[],[],(0:Int),(0:Int),[],()),[],[],[],()) d.1)
def jek:Prop:=∀(d:Option RoD×Int×Unit),d.1.isSome=true->(U.ju (U.rd (U.ro d.1))).length<=4->d.1.isSome=true/\((q94_0 d).1.2.2.1.length<4611686018427387904->jz ((↑(q94_0 d).1.2.2.1.length:Int)-1)/\(U.ja d.2.1 (0:Int) ((↑(q94_0 d).1.2.2.1.length:Int)-1),())=(U.ja d.2.1 (0:Int) ((↑(U.ju (U.rd (U.ro d.1))).length:Int)-1),()))
def jfF:j9:=⟨[.val (.ptr tRo),.val .int],[.bool],false,fun d=>[d.1.isSome=true,(U.jh (U.jc (U.rd (U.ro d.1)))).length<=8],fun d=>(U.ja d.2.1 0 (((U.jh (U.jc (U.rd (U.ro d.1)))).length:Int)-1),())⟩
abbrev q95_0 (d:Option RoD×Int×Unit):=(jQ ((((0:Int),[],[],()),[],[],(0:Int),(0:Int),[],()),[],[],[],()) d.1)
def jfs:Prop:=∀(d:Option RoD×Int×Unit),d.1.isSome=true->(U.jh (U.jc (U.rd (U.ro d.1)))).length<=8->d.1.isSome=true/\((q95_0 d).1.1.2.1.length<4611686018427387904->jz ((↑(q95_0 d).1.1.2.1.length:Int)-1)/\(U.ja d.2.1 (0:Int) ((↑(q95_0 d).1.1.2.1.length:Int)-1),())=(U.ja d.2.1 (0:Int) ((↑(U.jh (U.jc (U.rd (U.ro d.1)))).length:Int)-1),()))
end Go.X
namespace Go.X
open Go.Proofs
theorem zb {d:DyD} (h:U.zK d=true):(U.ju d).length<=4/\(1<=(U.jZ d).length/\(U.jZ d).length<=5)/\(0<=U.jcj d/\U.jcj d<=300)/\(0<=U.jCB d/\U.jCB d<=1440)/\(U.zc d).length<=30/\
 (∀r∈U.jZ d,U.yu (U.jZ d).length r=true)/\(∀b∈U.ju d,U.jdN (U.jZ d).length b=true)/\∀s∈U.zc d,U.jcv (U.ju d).length (U.jh (U.jc d)).length s=true:=by
 unfold U.zK at h;simp only[jHK,decide_eq_true_eq,jIl] at h;obtain⟨⟨e,f,g,i,j,k,l,m⟩,n,a,c⟩:=h;exact⟨e,⟨f,g⟩,⟨i,j⟩,⟨k,l⟩,m,n,a,c⟩
theorem jGH {d:DyD} {b:Int} (h:U.kr d b):U.bk d b∈U.ju d:=by
 unfold U.bk;exact L.mem_nth (by unfold U.kr at h;omega)
theorem qB {d:DyD} (h:U.zK d=true) {b:Int} (a:U.kr d b):(0<=U.jrT (U.bk d b)/\U.jrT (U.bk d b)<((U.jZ d).length:Int))/\0<=U.ve (U.bk d b)/\U.ve (U.bk d b)<U.jnm (U.bk d b)/\U.jnm (U.bk d b)<=1440:=by
 have:=(zb h).2.2.2.2.2.2.1 _ (jGH a);unfold U.jdN at this;have:=of_decide_eq_true this;omega
theorem jcd {d:DyD} (h:U.zK d=true) {i:Nat} (hi:i<(U.jZ d).length):(nth (U.jZ d) i).length=(U.jZ d).length/\∀j,j<(U.jZ d).length->0<=U.lo (nth (nth (U.jZ d) i) j)/\U.lo (nth (nth (U.jZ d) i) j)<=U.hi (nth (nth (U.jZ d) i) j)/\U.hi (nth (nth (U.jZ d) i) j)<=300:=by
 have:=(zb h).2.2.2.2.2.1 _ (L.mem_nth hi);unfold U.yu at this;rw[jHK,decide_eq_true_eq,jIl] at this;refine⟨this.1,fun j b=> ?_⟩;have a:=this.2 _ (L.mem_nth (l:=nth (U.jZ d) i) (i:=j) (by omega));unfold U.jf6 at a;exact of_decide_eq_true a
theorem jgv {d:DyD} (h:U.zK d=true) {a b:Int} (c:U.kr d a) (e:U.kr d b):0<=U.jrc d a b/\U.jrc d a b<=300:=by
 have f:=(qB h c).1;have g:=(qB h e).1;have:=(jcd h (i:=(U.jrT (U.bk d a)).toNat) (by omega)).2 (U.jrT (U.bk d b)).toNat (by omega);unfold U.jrc;omega
theorem jiR:jgS:=by
 unfold jgS q84_2 q84_1 q84_0;rintro⟨(_|r),a,b,⟨⟩⟩ h c d e
 .cases h
 obtain⟨c1,c2,c⟩:U.jcw (U.rd r):=c;have d:U.kr (U.rd r) a:=d;have e:U.kr (U.rd r) b:=e;have g:=qB c d;have j:=qB c e;have k:=jgv c d e;have l:=(zb c).2.2.1;have m:=(jcd c (i:=(U.jrT (U.bk (U.rd r) a)).toNat) (by omega)).1;have f:(0<=a/\a<((U.ju (U.rd r)).length:Int))/\0<=b/\b<((U.ju (U.rd r)).length:Int):=⟨d,e⟩;refine⟨rfl,f.1.1,f.1.2,rfl,f.2.1,f.2.2,?_,rfl,?_,rfl,g.1.1,g.1.2,j.1.1,?_,?_,rfl⟩
 .show jz (U.ve (U.bk (U.rd r) b)-U.jnm (U.bk (U.rd r) a));exact L.in64 (by omega) (by omega)
 .show jz (U.ve (U.bk (U.rd r) b)-U.jnm (U.bk (U.rd r) a)-U.jcj (U.rd r));exact L.in64 (by omega) (by omega)
 .show U.jrT (U.bk (U.rd r) b)<((nth (U.jZ (U.rd r)) (U.jrT (U.bk (U.rd r) a)).toNat).length:Int);omega
 .show jz (U.ve (U.bk (U.rd r) b)-U.jnm (U.bk (U.rd r) a)-U.jcj (U.rd r)-U.jrc (U.rd r) a b);exact L.in64 (by omega) (by omega)
theorem jad:zm PR 59 jgX:=j8 jiR Tryz.func59 kcN koN
theorem jeT:jdA:=by
 unfold jdA q85_0;rintro⟨a,b,(_|r),⟨⟩⟩ e c d
 .cases e
 have c:U.kr (U.rd r) a:=c;have d:U.kr (U.rd r) b:=d;exact⟨rfl,c.1,c.2,rfl,d.1,d.2,rfl⟩
theorem jdL:zm PR 111 zH:=j8 jeT Tryz.func111 (kcC qv (kcC ja0 kcN)) koN
theorem jFm (d:DyD):jbS (U.jgC d):=by
 have e:U.jgC d=jBS (fun a b=>U.jaz (U.ve (U.bk d a)) (U.ve (U.bk d b))) U.jaz:=by
  funext a b;unfold U.jgC;rw[zJ,wM];rfl
 rw[e];exact jhk (jhX jgB (fun a=>U.ve (U.bk d a))) jgB
theorem jBo {d:DyD} {a b:Int} (h:U.jgC d a b=0):a=b:=by
 unfold U.jgC at h;rw[zJ] at h
 split at h
 .contradiction
 .rw[wM] at h;exact vY.1 h
theorem jBp (d:DyD) (a b:Int):decide (U.jgC d a b<0)=U.wQ d a b:=by
 unfold U.jgC U.wQ;rw[zJ,wM];refine decide_eq_decide.2 ?_;by_cases c:U.ve (U.bk d a)<U.ve (U.bk d b)
 .have e:U.jaz (U.ve (U.bk d a)) (U.ve (U.bk d b))= -1:=(by unfold U.jaz;rw[if_pos c]);rw[e];simp;omega
 .by_cases f:U.ve (U.bk d b)<U.ve (U.bk d a)
  .have e:U.jaz (U.ve (U.bk d a)) (U.ve (U.bk d b))=1:=(by unfold U.jaz;rw[if_neg c,if_pos f]);rw[e];simp;omega
  .have e:U.jaz (U.ve (U.bk d a)) (U.ve (U.bk d b))=0:=(by unfold U.jaz;rw[if_neg c,if_neg f]);rw[e];unfold U.jaz;simp only[ne_eq,not_true_eq_false,if_false]
   split<;>(try split)<;>omega
theorem jHB (d:DyD) (l:List Int):wc (U.wQ d) l:=by
 have:=jn7 (t:= .int) (jFm d) (l:=l) (fun _ _ _ _ h=>jBo h);have e:(U.jl .int fun(x:Int×Int×Unit)=>(U.jgC d x.1 x.2.1,()))=U.wQ d:=by
  funext a b;exact jBp d a b
 rw[e] at this;exact this
theorem ltK (d:DyD):(U.vX fun(x:Int×Int×Unit)=>(U.jgC d x.1 x.2.1,()))=U.wQ d:=by
 funext a b;exact jBp d a b
theorem jht:yQ:=by
 rintro⟨(_|r),l,⟨⟩⟩ c f
 .cases c
 obtain⟨d,b⟩:U.jcx (U.rd r) l:=f;refine⟨⟨d,fun x g y h=>⟨rfl,b x g,b y h,trivial⟩,?_,trivial⟩,fun q a=> ?_⟩
 .have e:=ltK (U.rd r);show wc (U.vX fun(x:Int×Int×Unit)=>(U.jgC (U.rd r) x.1 x.2.1,())) l;rw[e];exact jHB _ l
 .have e:=ltK (U.rd r);have a:q.1.1=U.je (U.vX fun(x:Int×Int×Unit)=>(U.jgC (U.rd r) x.1 x.2.1,())) l:=a;rw[e] at a;obtain⟨⟨q,⟨⟩⟩,⟨⟩⟩:=q;rw[show q=_ from a];rfl
theorem jro:(jrS 9 [(111,zH)] [] [(110,kc)] []).ok PR:=juk ⟨fun _=>jdL,trivial⟩ trivial ⟨jiH,trivial⟩ trivial
theorem yW:zm PR 58 yT:=
 jF4 (body:=z8 Tryz.f58) (C:=jrS 9 [(111,zH)] [] [(110,kc)] []) (hk:=hkC (jrS 9 [(111,zH)] [] [(110,kc)] []) (fun _=>none) jEm [8] [(109,20,kg)]) jro mixed Tryz.func58 (by kernel_rfl) (by kernel_rfl) (by kernel_rfl) (by decide)
  (fun B=>jm3 jro mixed jsn (jzG jcg) B) (jb0.mpr jht)
theorem jiS:jgT:=by
 rintro⟨b,(_|r),a,⟨⟩⟩ c f e d
 .cases c
 exact⟨rfl,f,d,e,rfl⟩
theorem jhd:zm PR 123 jgY:=j8 jiS Tryz.func123 (kcC jad kcN) koN
theorem jeK {d:DyD} {s:List Int} {i:Nat} (h:i<s.length):U.kz d s (i+1)=U.kz d s i+(U.jnm (U.bk d (nth s i))-U.ve (U.bk d (nth s i))):=by
 unfold U.kz U.jon;rw[L.take_succ h,jIz,jH8];rfl
theorem jtx {d:DyD} (a:U.zK d=true) {s:List Int} (c:∀b∈s,U.kr d b):∀i,i<=s.length->0<=U.kz d s i/\U.kz d s i<=1440*(i:Int)
 |0,_=>⟨jIA _,jIA _⟩
 |i+1,hi=>by
  have f:=jtx a c i (by omega)
  have e:=qB a (c _ (L.mem_nth (l:=s) (i:=i) (by omega)))
  rw[jeK (by omega)]
  omega
theorem jjH {d:DyD} {l:List Int} {b:Int}:b∈U.jg d l↔b∈l:=(zB l).mem_iff
theorem jjI (d:DyD) (l:List Int):(U.jg d l).length=l.length:=(zB l).length_eq
theorem jl8:jjr:=by
 unfold jjr q88_7 q88_3 q88_2 q88_6 q88_4 q88_1 q88_5 q88_0;rintro⟨(_|r),p,l,⟨⟩⟩ D v q K
 .cases D
 obtain⟨⟨c1,c2,u⟩,v⟩:U.jae r:=v;have q:U.ji1 (U.rd r) p:=q;obtain⟨z,A⟩:U.jcx (U.rd r) l:=K;have N:=(jy c1).2.2.1;refine⟨rfl,⟨z,A⟩,fun _=> ?_⟩;obtain⟨s,o⟩:∃s,s=U.jg (U.rd r) l:=⟨_,rfl⟩;have O:s.length<=12:=(by rw[o,jjI];exact z);have k:∀b∈s,U.kr (U.rd r) b:=fun b d=>A b (by rw[o] at d;exact jjH.1 d)
 have t:U.ro (some r)=r:=rfl;simp only[t,<-o];refine⟨⟨0,⟨⟨rfl,rfl,trivial⟩,trivial⟩,jHR _,fun b d=>by omega⟩,fun x w=>⟨fun h=> ?_,fun h=> ?_⟩⟩
 .have h:(x:Int)<(s.length:Int):=of_decide_eq_true h;have a:x<s.length:=(by omega);have d:=k _ (L.mem_nth a);have H:=qB u d;have M:=jtx u k x (by omega);have C:((x:Int)+1).toNat=x+1:=(by omega);have B:(s.drop (x+1)).take (s.length-(x+1))=s.drop (x+1):=jID (by rw[jIy];omega);have I:U.ve (U.bk (U.rd r) (nth s x))=(nth (U.ju (U.rd r)) (nth s x).toNat).2.2.1:=rfl;simp only[jHQ,C,B];have n:(nth s x)<((U.ja3 r).length:Int):=(by rw[v];exact d.2);have m:U.joh (U.rd r) (U.ja3 r) p s x= !(decide (qL (nth (U.ja3 r) (nth s x).toNat/2^p.toNat) 1=0)||(s.drop (x+1)).any (fun c=>decide (U.qj (U.rd r) (nth s x) c<0))):=rfl;have j:((s.drop (x+1)).any (U.jd fun(y:Int×Unit)=>(decide (U.qj (U.rd r) (nth s x) y.fst<0),())))=(s.drop (x+1)).any (fun c=>decide (U.qj (U.rd r) (nth s x) c<0)):=rfl;unfold U.ji1 at q;refine⟨by omega,h,rfl,d.1,d.2,rfl,d.1,d.2,?_,?_,rfl,d.1,n,q.1,by omega,fun _=>L.in64 (by omega) (by omega),fun _=>by omega,fun _=>by omega,fun _=>by omega,fun _ g J=>⟨rfl,⟨c1,c2,u⟩,k g (jI6 J),d,trivial⟩,fun f=> ?_,fun f=>⟨L.in64 (by omega) (by omega),x+1,⟨⟨by simp,(jeK a).symm,trivial⟩,trivial⟩,⟨by omega,fun b G=> ?_⟩,by omega⟩⟩
  .show jz (U.jnm (U.bk (U.rd r) (nth s x))-U.ve (U.bk (U.rd r) (nth s x)));exact L.in64 (by omega) (by omega)
  .show jz (U.kz (U.rd r) s x+(U.jnm (U.bk (U.rd r) (nth s x))-U.ve (U.bk (U.rd r) (nth s x))));exact L.in64 (by omega) (by omega)
  .have f:(decide (qL (nth (U.ja3 r) (nth s x).toNat/2^p.toNat) 1=0)||((s.drop (x+1)).any (U.jd fun(y:Int×Unit)=>(decide (U.qj (U.rd r) (nth s x) y.fst<0),()))))=true:=f;have f:U.joh (U.rd r) (U.ja3 r) p s x=false:=(by rw[m,<-j,f];rfl);have:U.gC r p l=false:=by
    unfold U.gC U.jun U.jFr;rw[<-o];have:(List.range s.length).all (U.joh (U.rd r) (U.ja3 r) p s)=false:=by
     rw[jIT];exact⟨x,by simpa using a,by rw[f];simp⟩
    rw[this];rfl
   rw[this]
  .by_cases e:b=x
   .subst e;have f:(decide (qL (nth (U.ja3 r) (nth s b).toNat/2^p.toNat) 1=0)||((s.drop (b+1)).any (U.jd fun(y:Int×Unit)=>(decide (U.qj (U.rd r) (nth s b) y.fst<0),()))))=false:=f;rw[m,<-j,f];rfl
   .exact w.2 b (by omega)
 .have h:¬(x:Int)<(s.length:Int):=of_decide_eq_false h;have a:x=s.length:=(by have:=w.1;omega);refine⟨rfl,?_⟩;have E:(List.range s.length).all (U.joh (U.rd r) (U.ja3 r) p s)=true:=by
   rw[jIl];intro i hi;exact w.2 i (by rw[a];simpa using hi)
  have F:U.kz (U.rd r) s x=U.jon (U.rd r) s:=by
   unfold U.kz;rw[a,jID (jHM _)]
  rw[F];have:U.gC r p l=decide (U.jon (U.rd r) s<=U.jCB (U.rd r)):=by
   unfold U.gC U.jun U.jFr;rw[<-o,E,Bool.true_and]
  rw[this];rfl
theorem yq:zm PR 83 jb8:=kH jlu jl8 Tryz.func83 (kcC yW (kcC jhd (kcC qO kcN))) koN
theorem jjw (on:List (List Int)) (b:Int) (n:Nat):U.qS on b (n+1)=if(nth on n).any (fun x=>decide (x=b))=true then bor (U.qS on b n) (1*2^n) else U.qS on b n:=by
 unfold U.qS;rw[jIe,jH8];rfl
theorem wj (n:Nat):(1:Int)*2^n=2^n:=Int.one_mul _
theorem jkQ:jij:=by
 unfold jij q89_1 q89_0;rintro⟨(_|r),b,⟨⟩⟩ g d
 .cases g
 have d:(U.jY r).length<=60:=d;have c:U.ro (some r)=r:=rfl;refine⟨rfl,fun _=>⟨⟨0,⟨⟨rfl,rfl,trivial⟩,trivial⟩,jHR _⟩,fun x f=>⟨fun h=> ?_,fun h=> ?_⟩⟩⟩
 .have h:(x:Int)<((U.jY r).length:Int):=of_decide_eq_true h;have e:=jjw (U.jY r) b x;have i:BT.Set' ((2:Int)^x):=BT.two_set (by omega);unfold BT.Set' at i;simp only[jHQ,c];refine⟨by omega,h,fun a=>⟨by omega,by omega,by rw[wj];exact L.in64 (by omega) (by omega),L.in64 (by omega) (by omega),x+1,⟨⟨by simp,?_,trivial⟩,trivial⟩,by omega,by omega⟩,fun a=>⟨L.in64 (by omega) (by omega),x+1,⟨⟨?_,by simp,trivial⟩,trivial⟩,by omega,by omega⟩⟩
  .rw[e];have a:((nth (U.jY r) x).any fun y=>decide (y=b))=true:=a;rw[if_pos a]
  .rw[e];have a:((nth (U.jY r) x).any fun y=>decide (y=b))=false:=a;rw[if_neg (by rw[a];simp)]
 .have h:¬(x:Int)<((U.jY r).length:Int):=of_decide_eq_false h;have f:x<=(U.jY r).length:=f;rw[show x=(U.jY r).length by omega];rfl
theorem jbu:zm PR 53 jit:=kH jiW jkQ Tryz.func53 (kcC qt kcN) koN
theorem jkS:jil:=by
 unfold jil q90_0;rintro⟨(_|r),b,t,⟨⟩⟩ c a
 .cases c
 have a:U.kr (U.rd r) b:=a;exact⟨rfl,rfl,a.1,a.2,rfl⟩
theorem jbw:zm PR 40 jiv:=j8 jkS Tryz.func40 (kcC jtf kcN) koN
theorem jnb (l:List PeD) (t:Int) (n:Nat):U.vT l t (n+1)=U.vT l t n+qL (t/2^n) 1*U.fe (nth l n):=by
 unfold U.vT;rw[jIe,jH8];rfl
theorem jja {c:CrD} (h:U.js c=true) {i:Nat} (hi:i<(U.jh c).length):0<=U.fe (nth (U.jh c) i)/\U.fe (nth (U.jh c) i)<=1000:=by
 have:=(jy h).2.2.2.2.1 _ (L.mem_nth hi);unfold U.gw at this;simp only[jHK,decide_eq_true_eq] at this;obtain⟨⟨_,_,_,_,_,_,a,b⟩,_⟩:=this;exact⟨a,b⟩
theorem jBz {z f:Int} (a:0<=f/\f<=1000):0<=qL z 1*f/\qL z 1*f<=1000:=by
 rcases jvJ z with h|h
 .rw[h,Int.zero_mul];omega
 .rw[h,Int.one_mul];omega
theorem joM {c:CrD} (h:U.js c=true) (t:Int):∀i,i<=(U.jh c).length->0<=U.vT (U.jh c) t i/\U.vT (U.jh c) t i<=1000*(i:Int)
 |0,_=>⟨jIA _,jIA _⟩
 |i+1,hi=>by
  have a:=joM h t i (by omega)
  have:=jBz (z:=t/2^i) (jja h (i:=i) (by omega))
  rw[jnb]
  omega
theorem jl7:jjq:=by
 unfold jjq q91_1 q91_0;rintro⟨(_|r),t,⟨⟩⟩ d a f g
 .cases d
 have a:U.js (U.jc (U.rd r))=true:=a;have l:=(jy a).2.2.1;have b:U.ro (some r)=r:=rfl;refine⟨rfl,fun _=>⟨⟨0,⟨⟨rfl,rfl,trivial⟩,trivial⟩,jHR _⟩,fun x c=>⟨fun h=> ?_,fun h=> ?_⟩⟩⟩
 .have h:(x:Int)<((U.jh (U.jc (U.rd r))).length:Int):=of_decide_eq_true h;have e:=jnb (U.jh (U.jc (U.rd r))) t x;have j:=joM a t x (by omega);have k:=jBz (z:=t/2^x) (jja a (i:=x) (by omega));simp only[jHQ,b];refine⟨by omega,h,by omega,by omega,L.in64 (by show _<=qL (t/2^x) 1*U.fe (nth (U.jh (U.jc (U.rd r))) x);omega) (by show qL (t/2^x) 1*U.fe (nth (U.jh (U.jc (U.rd r))) x)<=_;omega),L.in64 (by show _<=U.vT _ t x+qL (t/2^x) 1*U.fe (nth (U.jh (U.jc (U.rd r))) x);omega) (by show U.vT _ t x+qL (t/2^x) 1*U.fe (nth (U.jh (U.jc (U.rd r))) x)<=_;omega),L.in64 (by omega) (by omega),x+1,⟨⟨by simp,e.symm,trivial⟩,trivial⟩,by omega,by omega⟩
 .have h:¬(x:Int)<((U.jh (U.jc (U.rd r))).length:Int):=of_decide_eq_false h;have c:x<=(U.jh (U.jc (U.rd r))).length:=c;rw[show x=(U.jh (U.jc (U.rd r))).length by omega];rfl
theorem jcq:zm PR 68 jb7:=kH jlt jl7 Tryz.func68 kcN koN
theorem jl6:jjp:=by
 rintro⟨l,⟨⟩⟩ b c a;have b:l.length<=100000:=b;refine⟨fun h=>⟨?_,rfl⟩,fun _=>⟨by simp only;omega,by simp,rfl⟩⟩;have:l=[]:=a h;rw[this]
theorem jkb:qb PR 82 jjL:=jkr jl6 Tryz.func82 kcN koN
theorem jtZ (r:RoD) (b:Int) (n:Nat):U.kA r b (n+1)=U.kA r b n++(if U.jkY r b n=true then[(n:Int)] else[]):=by
 unfold U.kA;rw[L.range_filter_succ,jIz];by_cases h:U.jkY r b n=true
 .rw[if_pos h,if_pos h];rfl
 .rw[if_neg h,if_neg h];rfl
theorem jm7 (r:RoD) (b:Int) (n:Nat):(U.kA r b n).length<=n:=by
 unfold U.kA;rw[jIL];exact jHW (jIH _ _) (by simp)
theorem jkR:jik:=by
 unfold jik q93_5 q93_4 q93_3 q93_2 q93_1 q93_0;rintro⟨(_|r),b,⟨⟩⟩ t j u o
 .cases t
 have j:U.jae r:=j;obtain⟨o1,o2⟩:U.jtu r:=u;have o:U.kr (U.rd r) b:=o;have w:=(jy j.1.1).2.2.1;have n:U.ro (some r)=r:=rfl;refine⟨rfl,fun _=>⟨⟨0,⟨⟨rfl,trivial,trivial⟩,rfl,trivial⟩,jHR _⟩,fun x q=>⟨fun h=> ?_,fun h=> ?_⟩⟩⟩
 .have h:(x:Int)<((U.jY r).length:Int):=of_decide_eq_true h;have p:=jtZ r b x;have z:=jm7 r b x;obtain⟨s,v⟩:=o2 _ (L.mem_nth (l:=U.jY r) (i:=x) (by omega));have s:(nth r.2.2.1 x).length<=11:=s;have on:∀{k:Bool},U.jkY r b x=k->(k=true->U.kA r b x++[(x:Int)]=U.kA r b (x+1))/\(k=false->U.kA r b x=U.kA r b (x+1)):=by
   intro k g;refine⟨fun e=> ?_,fun e=> ?_⟩
   .rw[p,if_pos (g.trans e)]
   .rw[p,if_neg (by rw[g,e];simp),jIc]
  have m:U.jkY r b x=(!((nth r.2.2.1 x).any fun y=>decide (y=b))&&U.gC r (x:Int) (nth r.2.2.1 x++[b])):=rfl;simp only[jHQ,n,jQ];refine⟨by omega,h,fun a=>⟨a,a,a,by omega,a,a,a,by simp only[jIi,jIq];omega,a,rfl,j,⟨by omega,by omega⟩,⟨by simp only[jH2,jIi,jIq];omega,fun c d=> ?_⟩,a,fun f=>⟨by simp only[jIi,jIq];omega,L.in64 (by omega) (by omega),x+1,⟨⟨by simp,trivial,trivial⟩,?_,trivial⟩,by omega,by omega⟩,fun f=>⟨L.in64 (by omega) (by omega),x+1,⟨⟨trivial,by simp,trivial⟩,?_,trivial⟩,by omega,by omega⟩⟩,
   fun a=>⟨a,a,a,a,a,a,a,a,fun f=>(by cases f),fun _=>⟨L.in64 (by omega) (by omega),x+1,⟨⟨trivial,by simp,trivial⟩,?_,trivial⟩,by omega,by omega⟩⟩⟩
  .rcases jHT.1 d with d|d
   .exact v c d
   .simp at d;subst d;exact o
  .exact(on (by rw[m,a,f];rfl)).1 rfl
  .exact(on (by rw[m,a,f];rfl)).2 rfl
  .exact(on (by rw[m,a];rfl)).2 rfl
 .have h:¬(x:Int)<((U.jY r).length:Int):=of_decide_eq_false h;have q:x<=(U.jY r).length:=q;rw[show x=(U.jY r).length by omega];rfl
theorem jbv:zm PR 64 jiu:=kH jiX jkR Tryz.func64 (kcC qt (kcC yq kcN)) (koC jkb koN)
theorem jgn:jek:=by
 unfold jek q94_0;rintro⟨(_|r),b,⟨⟩⟩ a c
 .cases a
 have d:(r.1.2.2.1.length)<=4:=c;exact⟨rfl,fun _=>⟨L.in64 (by simp only[jQ];omega) (by simp only[jQ];omega),rfl⟩⟩
theorem yr:zm PR 63 jes:=j8 jgn Tryz.func63 (kcC yp kcN) koN
theorem jhu:jfs:=by
 unfold jfs q95_0;rintro⟨(_|r),b,⟨⟩⟩ a c
 .cases a
 have d:(r.1.1.2.1.length)<=8:=c;exact⟨rfl,fun _=>⟨L.in64 (by simp only[jQ];omega) (by simp only[jQ];omega),rfl⟩⟩
theorem jf1:zm PR 57 jfF:=j8 jhu Tryz.func57 (kcC yp kcN) koN
end Go.X
namespace Go.X
theorem je0 {l:List ShD} {s:ShD}:s∈U.zj l↔s∈l:=by
 have e:U.zj l=U.vM (fun a b=>decide (a=b)) (U.je (U.jl tSh fun x=>(U.y6 x.1 x.2.1,())) l):=by
  unfold U.zj;congr 1
 rw[e,L.comp_mem];exact(zB l).mem_iff
theorem jrl (l:List ShD):(U.zj l).Nodup:=by
 have e:U.zj l=U.vM (fun a b=>decide (a=b)) (U.je (U.jl tSh fun x=>(U.y6 x.1 x.2.1,())) l):=by
  unfold U.zj;congr 1
 rw[e];refine L.asc_nodup (lt:=U.jl tSh fun x=>(U.y6 x.1 x.2.1,())) (fun x=> ?_) (L.comp_asc (jCn _) (gM (jCn l)));exact(jCn [x]).irrefl x (List.mem_singleton.2 rfl)
theorem jDY (l:List ShD):∀i,i<=l.length->∀k,wl 0 (zW .int k (U.wv [] l i))=(((l.take i).countP (fun s=>decide (U.wI s=k)):Nat):Int)
 |0,_,k=>rfl
 |i+1,hi,k=>by
  have a:=jDY l i (by omega)
  rw[jax (by omega),L.take_succ (by omega),jJd]
  unfold U.jdu
  by_cases e:k=U.wI (nth l i)
  .rw[e]
   rw[M.mfind_mput (kt:= .int) (U.wI (nth l i)) (wl 0 (zW .int (U.wI (nth l i)) (U.wv [] l i))+1) (U.wv [] l i)]
   show wl 0 (zW .int (U.wI (nth l i)) (U.wv [] l i))+1=_
   rw[a]
   simp
  .rw[M.mfind_mput_ne (kt:= .int) (k:=U.wI (nth l i)) (k':=k) e (wl 0 (zW .int (U.wI (nth l i)) (U.wv [] l i))+1) (U.wv [] l i),a]
   have:decide (U.wI (nth l i)=k)=false:=decide_eq_false fun h=>e h.symm
   simp[this]
theorem jvQ {l:List ShD} {i:Nat} (h:i<l.length):U.jgK [] l i=(l.take i).any (fun s=>decide (U.wI s=U.wI (nth l i))):=by
 unfold U.jgK U.jvR;rw[<-jax h,jDY l (i+1) (by omega),L.take_succ h,jJd];rw[jId,decide_eq_true_eq,jIn];have b:List.countP (fun s=>decide (U.wI s=U.wI (nth l i))) [nth l i]=1:=(by simp);rw[b];constructor
 .intro a;have:0<(l.take i).countP (fun s=>decide (U.wI s=U.wI (nth l i))):=(by omega);rw[List.countP_pos_iff] at this;exact this
 .intro a;have:0<(l.take i).countP (fun s=>decide (U.wI s=U.wI (nth l i))):=List.countP_pos_iff.2 a;omega
theorem jFf (l:List ShD):U.jyl l=false↔(l.map U.wI).Nodup:=by
 have g:U.jyl l=false↔∀i,i<l.length->U.jgK [] l i=false:=by
  unfold U.jyl;constructor
  .intro h i hi;cases k:U.jgK [] l i with
   |false=>rfl
   |true=>
    exfalso;have b:(List.range l.length).findIdx? (U.jgK [] l)≠none:=by
     intro f;rw[List.findIdx?_eq_none_iff] at f;have:=f i (jHZ.2 hi);rw[k] at this;cases this
    unfold U.jcY U.jaF at h;cases d:(List.range l.length).findIdx? (U.jgK [] l) with
    |none=>exact b d
    |some j=>
     rw[d] at h;have h:=of_decide_eq_false h;exact h (jH4 j)
  .intro h;rw[(jnq h).1];rfl
 rw[g,List.nodup_iff_pairwise_ne,jJa,jIM];constructor
 .intro h i j hi a m e;have:=h j a;rw[jvQ a,jIv] at this;have c:=this (l[i]) (by rw[jIr];exact⟨i,by omega,rfl⟩);rw[L.nth_lt a] at c;simp[e] at c
 .intro h i hi;rw[jvQ hi,jIv];intro s b;rw[jIr] at b;obtain⟨j,a,rfl⟩:=b;have:=h j i (by omega) hi (by omega);rw[L.nth_lt hi];simpa using this
theorem jBa (l:List ShD):U.jyl (U.zj l)=false↔∀a∈l,∀b∈l,U.wI a=U.wI b->a=b:=by
 rw[jFf];constructor
 .intro h a c b d e;exact L.nodup_inj h (je0.2 c) (je0.2 d) e
 .intro h;rw[List.nodup_iff_pairwise_ne,jJa];exact(List.Pairwise.imp_of_mem (fun{a b} c d f e=>f (h a (je0.1 c) b (je0.1 d) e)) (jrl l))
theorem jBr (l:List ShD):U.vU l=false↔∀a∈l,∀b∈l,U.wI a=U.wI b->a=b:=by
 have k:U.vU l=false↔∀i,i<l.length->∀j,j<i->U.jlh (nth l i) (nth l j)=false:=by
  unfold U.vU U.qy U.jjd;rw[jIv];constructor
  .intro h i hi j d;have:=h i (jHZ.2 hi);rw[Bool.not_eq_true,jIv] at this;have:=this (nth l j) (by rw[jIr];exact⟨j,by omega,(L.nth_lt (by omega)).symm⟩);simpa using this
  .intro h i hi;have hi:=jHZ.1 hi;rw[Bool.not_eq_true,jIv];intro s g;rw[jIr] at g;obtain⟨j,d,rfl⟩:=g;have:=h i hi j (by omega);rw[L.nth_lt (l:=l) (i:=j) (by omega)] at this;simpa using this
 rw[k];have f:∀a b:ShD,U.jlh a b=false↔(U.wI a=U.wI b->a=b):=by
  intro a b;unfold U.jlh;rw[Bool.and_eq_false_iff];simp only[decide_eq_false_iff_not,jIC,decide_eq_true_eq];constructor
  .rintro(h|h) e
   .exact absurd e h
   .exact h
  .intro h;by_cases e:U.wI a=U.wI b
   .exact .inr (h e)
   .exact .inl e
 constructor
 .intro h a m b n e;obtain⟨i,hi,rfl⟩:=L.mem_iff.1 m;obtain⟨j,d,rfl⟩:=L.mem_iff.1 n;rcases Nat.lt_trichotomy i j with c|rfl|c
  .exact((f _ _).1 (h j d i c) e.symm).symm
  .rfl
  .exact(f _ _).1 (h i hi j c) e
 .intro h i hi j d;exact(f _ _).2 (h _ (L.mem_nth hi) _ (L.mem_nth (by omega)))
theorem jBb (l:List ShD):U.jyl (U.zj l)=U.vU l:=by
 have:=(jBa l).trans (jBr l).symm;cases a:U.jyl (U.zj l) with
 |false=>exact(this.1 a).symm
 |true=>
  cases b:U.vU l with
  |false=>rw[this.2 b] at a;cases a
  |true=>rfl
theorem qz (d:DyD):U.jU d=U.wt d:=by
 unfold U.jU U.jlj U.wt;rw[jBb]
 split
 .rfl
 .split
  .rfl
  .rw[if_neg (by simp)]
end Go.X
