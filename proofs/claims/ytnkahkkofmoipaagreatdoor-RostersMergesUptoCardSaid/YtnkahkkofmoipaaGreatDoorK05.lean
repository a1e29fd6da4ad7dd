/-
  Part 5 of the road: a checked reading of bodies, and what the functions on it do (T L BT BS NL DF RC FX A1 P1 A2 P2 A4 P4 A5 P5 A3 P6 CM MP O1 B1 P7 IS B2 P8 B3 P9 DI B4).
-/
import Derived.Test.YtnkahkkofmoipaaGreatDoorK04
import Derived.Test.YtnkahkkofmoipaaGreatDoorProg
import Derived.KernelRfl
import Derived.Shelf.SlSortCmp.WholeK
import Derived.Shelf.Sort.Plain
namespace Go.X
open Go.Proofs
abbrev bT:=true
abbrev bF:=false
abbrev vO:Value:=.int .i64 0
abbrev qy0:Ty:=.ptr (.uint .u8)
abbrev qy1:Ty:=.st [.int,.int]
abbrev qy2:Ty:=.ptr (.uint .u64)
abbrev qy3:Ty:=.slice (.slice .int)
abbrev qy4:Ty:=.st [.int,.int,.bool]
abbrev qy5:Ty:=.slice qy1
abbrev qy6:Ty:=.slice qy4
abbrev qy7:Ty:=.st [.int,.int,.int,.int,.int]
abbrev qy8:Ty:=.st [.int,.int,.bool,.uint .u8]
abbrev qy9:Ty:=.slice qy5
abbrev qy10:Ty:=.st [.int,.int,.int,.int,.int,.int]
abbrev qy11:Ty:=.slice qy7
abbrev qy12:Ty:=.slice qy10
abbrev qy13:Ty:=.slice qy11
abbrev qy14:Ty:=.st [.slice .int,.int,.int,.slice .int,.bool,.int]
abbrev qy15:Ty:=.map qy1 qy7
abbrev qy16:Ty:=.st [qy10,.int,.int,.int]
abbrev qy17:Ty:=.slice qy14
abbrev qy18:Ty:=.slice qy16
abbrev qy19:Ty:=.st [.int,qy17,qy6]
abbrev qy20:Ty:=.st [qy19,qy10,qy4]
abbrev qy21:Ty:=.ptr qy20
abbrev qy22:Ty:=.st [qy19,qy9,qy18,.int,.int,qy11]
abbrev qy23:Ty:=.slice qy22
abbrev qy24:Ty:=.st [qy22,.slice .int,qy3,.slice .int]
abbrev qy25:Ty:=.ptr qy24
abbrev qy26:Ty:=.st [qy25,qy3,.slice .int,.slice .int,.int,.bool]
abbrev qy27:Ty:=.ptr qy26
def rr (i:Nat)(t:Ty)(n:Nat)(a:Bool)(f:List (Nat×Nat))(s:Bool)(e b:Nat)(z:List Value)(c m:Bool)(k:Nat)(q:Bool):TI:=⟨i,t,n,a,f,s,e,b,z,c,m,k,q,false,false,false⟩
def rf (i:Nat):TI:=⟨i,.unit,1,false,[],false,0,8,[.nilFunc],false,false,0,false,false,false,true⟩
def rq (i:Nat):TI:=⟨i,.unit,1,false,[],false,0,8,[.pointer none],false,false,0,false,false,true,false⟩
def ti:List TI:=[
 rf 1,
 rr 2 .int 1 bF [] bF 0 8 [vO] bF bF 0 bT,
 rr 3 .int 1 bF [] bF 0 8 [vO] bF bF 0 bT,
 rr 4 .bool 1 bF [] bF 0 1 [.bool false] bT bF 0 bF,
 rr 5 (.uint .u8) 1 bF [] bF 0 1 [.int .u8 0] bF bF 0 bF,
 rr 6 (.uint .u8) 1 bF [] bF 0 1 [.int .u8 0] bF bF 0 bF,
 rr 7 qy8 4 bT [(0,2),(1,3),(2,4),(3,6)] bF 0 24 [vO,vO,.bool false,.int .u8 0] bT bF 0 bT,
 rr 8 qy8 4 bT [(0,2),(1,3),(2,4),(3,6)] bF 0 24 [vO,vO,.bool false,.int .u8 0] bT bF 0 bT,
 rr 12 (.uint .u64) 1 bF [] bF 0 8 [.int .u64 0] bF bF 0 bF,
 rq 15,
 rq 16,
 rq 17,
 rr 18 .unit 1 bT [(0,17)] bF 0 8 [.pointer none] bF bF 0 bF,
 rr 19 .unit 1 bT [(0,17)] bF 0 8 [.pointer none] bF bF 0 bF,
 rr 21 (.uint .i32) 1 bF [] bF 0 4 [.int .i32 0] bF bF 0 bF,
 rr 22 qy17 1 bF [] bT 102 24 [.slice none 0 0] bF bF 0 bF,
 rr 23 qy6 1 bF [] bT 104 24 [.slice none 0 0] bF bF 0 bF,
 rr 24 qy19 3 bT [(0,3),(1,22),(2,23)] bF 0 56 [vO,.slice none 0 0,.slice none 0 0] bF bF 0 bF,
 rr 25 qy19 3 bT [(0,3),(1,22),(2,23)] bF 0 56 [vO,.slice none 0 0,.slice none 0 0] bF bF 0 bF,
 rr 26 qy9 1 bF [] bT 75 24 [.slice none 0 0] bF bF 0 bF,
 rr 27 qy18 1 bF [] bT 62 24 [.slice none 0 0] bF bF 0 bF,
 rr 28 qy11 1 bF [] bT 54 24 [.slice none 0 0] bF bF 0 bF,
 rr 29 qy22 8 bT [(0,25),(3,26),(4,27),(5,3),(6,3),(7,28)] bF 0 144 [vO,.slice none 0 0,.slice none 0 0,.slice none 0 0,.slice none 0 0,vO,vO,.slice none 0 0] bF bF 0 bF,
 rr 30 qy22 8 bT [(0,25),(3,26),(4,27),(5,3),(6,3),(7,28)] bF 0 144 [vO,.slice none 0 0,.slice none 0 0,.slice none 0 0,.slice none 0 0,vO,vO,.slice none 0 0] bF bF 0 bF,
 rf 31,
 rf 32,
 rr 33 (.slice .int) 1 bF [] bT 3 24 [.slice none 0 0] bF bF 0 bF,
 rr 34 .int 1 bF [] bF 0 8 [vO] bF bF 0 bT,
 rf 36,
 rf 37,
 rf 38,
 rf 39,
 rf 41,
 rr 42 qy1 2 bT [(0,3),(1,3)] bF 0 16 [vO,vO] bT bF 0 bT,
 rr 43 qy1 2 bT [(0,3),(1,3)] bF 0 16 [vO,vO] bT bF 0 bT,
 rf 44,
 rf 45,
 rf 47,
 rf 48,
 rf 50,
 rf 51,
 rf 52,
 rr 53 qy7 5 bT [(0,3),(1,3),(2,3),(3,3),(4,3)] bF 0 40 [vO,vO,vO,vO,vO] bT bF 0 bT,
 rr 54 qy7 5 bT [(0,3),(1,3),(2,3),(3,3),(4,3)] bF 0 40 [vO,vO,vO,vO,vO] bT bF 0 bT,
 rf 55,
 rf 56,
 rf 57,
 rf 58,
 rr 59 qy10 6 bT [(0,3),(1,3),(2,3),(3,3),(4,3),(5,3)] bF 0 48 [vO,vO,vO,vO,vO,vO] bT bF 0 bT,
 rr 60 qy10 6 bT [(0,3),(1,3),(2,3),(3,3),(4,3),(5,3)] bF 0 48 [vO,vO,vO,vO,vO,vO] bT bF 0 bT,
 rr 61 qy16 9 bT [(0,60),(6,3),(7,3),(8,3)] bF 0 72 [vO,vO,vO,vO,vO,vO,vO,vO,vO] bT bF 0 bT,
 rr 62 qy16 9 bT [(0,60),(6,3),(7,3),(8,3)] bF 0 72 [vO,vO,vO,vO,vO,vO,vO,vO,vO] bT bF 0 bT,
 rf 63,
 {rr 64 qy25 1 bF [] bF 0 8 [.pointer none] bF bF 0 bF with pt:=true},
 rf 66,
 {rr 67 qy27 1 bF [] bF 0 8 [.pointer none] bF bF 0 bF with pt:=true},
 rr 68 qy3 1 bF [] bT 33 24 [.slice none 0 0] bF bF 0 bF,
 rr 69 qy26 6 bT [(0,64),(1,68),(2,33),(3,33),(4,3),(5,4)] bF 0 96 [.pointer none,.slice none 0 0,.slice none 0 0,.slice none 0 0,vO,.bool false] bF bF 0 bF,
 rr 70 qy26 6 bT [(0,64),(1,68),(2,33),(3,33),(4,3),(5,4)] bF 0 96 [.pointer none,.slice none 0 0,.slice none 0 0,.slice none 0 0,vO,.bool false] bF bF 0 bF,
 rr 71 qy24 11 bT [(0,30),(8,33),(9,68),(10,33)] bF 0 216 [vO,.slice none 0 0,.slice none 0 0,.slice none 0 0,.slice none 0 0,vO,vO,.slice none 0 0,.slice none 0 0,.slice none 0 0,.slice none 0 0] bF bF 0 bF,
 rr 72 qy24 11 bT [(0,30),(8,33),(9,68),(10,33)] bF 0 216 [vO,.slice none 0 0,.slice none 0 0,.slice none 0 0,.slice none 0 0,vO,vO,.slice none 0 0,.slice none 0 0,.slice none 0 0,.slice none 0 0] bF bF 0 bF,
 rf 73,
 rf 74,
 rr 75 qy5 1 bF [] bT 92 24 [.slice none 0 0] bF bF 0 bF,
 rf 76,
 rf 77,
 rf 78,
 rf 79,
 rf 80,
 rf 81,
 rf 82,
 rf 84,
 rf 85,
 rf 86,
 rf 87,
 rf 88,
 rf 89,
 rf 90,
 rr 91 qy1 2 bT [(0,3),(1,3)] bF 0 16 [vO,vO] bT bF 0 bT,
 rr 92 qy1 2 bT [(0,3),(1,3)] bF 0 16 [vO,vO] bT bF 0 bT,
 rf 93,
 rf 94,
 rr 95 (.uint .u64) 1 bF [] bF 0 8 [.int .u64 0] bF bF 0 bF,
 rf 96,
 rr 97 qy23 1 bF [] bT 30 24 [.slice none 0 0] bF bF 0 bF,
 rf 98,
 rf 99,
 rf 100,
 rr 101 qy14 6 bT [(0,33),(1,3),(2,3),(3,33),(4,4),(5,3)] bF 0 80 [.slice none 0 0,vO,vO,.slice none 0 0,.bool false,vO] bF bF 0 bF,
 rr 102 qy14 6 bT [(0,33),(1,3),(2,3),(3,33),(4,4),(5,3)] bF 0 80 [.slice none 0 0,vO,vO,.slice none 0 0,.bool false,vO] bF bF 0 bF,
 rr 103 qy4 3 bT [(0,3),(1,3),(2,4)] bF 0 24 [vO,vO,.bool false] bT bF 0 bT,
 rr 104 qy4 3 bT [(0,3),(1,3),(2,4)] bF 0 24 [vO,vO,.bool false] bT bF 0 bT,
 rf 105,
 rf 106,
 rr 107 qy12 1 bF [] bT 60 24 [.slice none 0 0] bF bF 0 bF,
 rf 109,
 rf 110,
 rf 111,
 rf 113,
 rf 114,
 rf 115,
 rf 116,
 rf 117,
 rf 118,
 rf 119,
 rf 120,
 rf 121,
 rf 122,
 rf 123,
 rf 124,
 rr 125 (.map .int .int) 1 bF [] bF 3 8 [.map none] bF bT 3 bF,
 rf 126,
 rf 127,
 rf 128,
 rf 129,
 rf 130,
 rf 131,
 rf 132,
 rf 133,
 rf 134,
 rf 135,
 rf 136,
 rr 137 qy13 1 bF [] bT 28 24 [.slice none 0 0] bF bF 0 bF,
 rf 138,
 rf 139,
 rf 140,
 rf 141,
 rf 142,
 {rr 143 qy21 1 bF [] bF 0 8 [.pointer none] bF bF 0 bF with pt:=true},
 rf 145,
 rr 146 (.uint .u64) 1 bF [] bF 0 8 [.int .u64 0] bF bF 0 bF,
 rf 147,
 rr 148 qy15 1 bF [] bF 54 8 [.map none] bF bT 150 bF,
 rr 149 qy1 2 bT [(0,3),(1,3)] bF 0 16 [vO,vO] bT bF 0 bT,
 rr 150 qy1 2 bT [(0,3),(1,3)] bF 0 16 [vO,vO] bT bF 0 bT,
 rf 151,
 rf 152,
 rf 153,
 rf 154,
 rf 155,
 rf 156,
 rf 157,
 rf 158,
 rf 159,
 rf 160,
 rf 161,
 rf 162,
 rf 163,
 rf 164,
 rf 165,
 rf 166,
 rr 167 qy20 12 bT [(0,25),(3,60),(9,104)] bF 0 128 [vO,.slice none 0 0,.slice none 0 0,vO,vO,vO,vO,vO,vO,vO,vO,.bool false] bF bF 0 bF,
 rr 168 qy20 12 bT [(0,25),(3,60),(9,104)] bF 0 128 [vO,.slice none 0 0,.slice none 0 0,vO,vO,vO,vO,vO,vO,vO,vO,.bool false] bF bF 0 bF,
 rf 169,
 rf 170,
 rf 171,
 rf 172,
 rf 173,
 rf 174,
 rf 175,
 rf 176,
 rf 177,
 rf 178,
 rf 179,
 rr 180 .int 1 bF [] bF 0 8 [vO] bF bF 0 bT,
 rf 182,
 rf 183,
 rf 184,
 rf 186,
 rf 187,
 rr 188 (.uint .u32) 1 bF [] bF 0 4 [.int .u32 0] bF bF 0 bF,
 rf 189,
 rr 190 (.uint .u64) 1 bF [] bF 0 8 [.int .u64 0] bF bF 0 bF,
 rf 191,
 rf 192,
 rf 193,
 rf 194,
 rf 195,
 rf 196,
 rf 197,
 rf 198,
 rf 199,
 rf 200,
 rf 201,
 rf 202,
 rr 203 (.uint .u64) 1 bF [] bF 0 8 [.int .u64 0] bF bF 0 bF,
 rf 204,
 rf 205,
 rf 206,
 {rr 207 (.ptr .int) 1 bF [] bF 0 8 [.pointer none] bF bF 0 bF with pt:=true},
 rf 208,
 rf 209,
 rf 210,
 rf 211,
 rf 212,
 rf 213,
 rf 214,
 rf 215,
 rf 217,
 {rr 218 qy2 1 bF [] bF 0 8 [.pointer none] bF bF 0 bF with pt:=true},
 rf 220,
 rf 221,
 rf 222,
 rf 223,
 rf 225,
 rf 227,
 rf 228,
 rf 229,
 rr 233 .unit 0 bT [(0,232)] bF 0 0 [] bF bF 0 bF,
 rr 234 .unit 0 bT [(0,232)] bF 0 0 [] bF bF 0 bF,
 rr 235 (.uint .u8) 1 bF [] bF 0 1 [.int .u8 0] bF bF 0 bF,
 rr 236 (.uint .u8) 1 bF [] bF 0 1 [.int .u8 0] bF bF 0 bF,
 rf 237,
 {rr 238 qy0 1 bF [] bF 0 8 [.pointer none] bF bF 0 bF with pt:=true},
 rr 239 (.uint .i32) 1 bF [] bF 0 4 [.int .i32 0] bF bF 0 bF,
 rr 240 (.uint .i32) 1 bF [] bF 0 4 [.int .i32 0] bF bF 0 bF,
 rr 241 .unit 11 bT [(0,12),(1,12),(2,188),(3,235),(4,5),(5,5),(6,236),(7,237),(8,238),(9,239),(10,240)] bF 0 48 [.int .u64 0,.int .u64 0,.int .u32 0,.int .u8 0,.int .u8 0,.int .u8 0,.int .u8 0,.nilFunc,.pointer none,.int .i32 0,.int .i32 0] bF bF 0 bF,
 rr 242 .unit 11 bT [(0,12),(1,12),(2,188),(3,235),(4,5),(5,5),(6,236),(7,237),(8,238),(9,239),(10,240)] bF 0 48 [.int .u64 0,.int .u64 0,.int .u32 0,.int .u8 0,.int .u8 0,.int .u8 0,.int .u8 0,.nilFunc,.pointer none,.int .i32 0,.int .i32 0] bF bF 0 bF,
 rf 243,
 rf 245]
def strs:List Nat:=[9,10,11]
noncomputable abbrev PR:Program:=Tryz.prog
theorem jAm:ti.all (jCM PR)=true:=by kernel_rfl
def jA2 (P:Program) (k:Nat):Bool:=match P.underlying k with|some .string=>true|_=>false
theorem jwP {P:Program} {l:List Nat} (a:l.all (jA2 P)=true) (T:Nat) (h:vu l T=true):P.underlying T=some .string:=by
 have:=jEp.1 a T ((zQ _ _).1 h);unfold jA2 at this
 split at this
 .assumption
 .cases this
theorem jAq:strs.all (jA2 PR)=true:=by kernel_rfl
theorem jvo:∀T,vu strs T=true->PR.underlying T=some .string:=jwP jAq
theorem mixed:PR.follows .mixedOrders=true:=by kernel_rfl
def jDf (n:Nat) (fs:List (Nat×jO)):Ctx:=⟨n,ti,fs,fun _ _ _ _=>none,strs,false⟩
def ctx (n:Nat) (fs:List (Nat×jO)) (os:List (Nat×zr)):Ctx:=⟨n,ti,fs,jC4 (jDf n fs) os,strs,false⟩
def jdY:List (Nat×jO)->Prop
 |[]=>True
 |p::r=>(p.2.own=false->ze PR p.1 p.2)/\jdY r
def ye:List (Nat×zr)->Prop
 |[]=>True
 |p::r=>wE PR p.1 p.2/\ye r
theorem jb2:∀{l:List (Nat×jO)},jdY l->∀f s,js l f=some s->s.own=false->ze PR f s
 |[],_,f,s,h,_=>by simp[js] at h
 | (j,x)::r,hk,f,s,h,ho=>by
  simp only[js] at h
  cases a:Nat.beq j f with
  |true=>rw[a] at h;simp at h;subst h;have:=jDI a;subst this;exact hk.1 ho
  |false=>rw[a] at h;exact jb2 hk.2 f s h ho
theorem jdt:∀{l:List (Nat×zr)},ye l->∀f s,js l f=some s->wE PR f s
 |[],_,f,s,h=>by simp[js] at h
 | (j,x)::r,hk,f,s,h=>by
  simp only[js] at h
  cases a:Nat.beq j f with
  |true=>rw[a] at h;simp at h;subst h;have:=jDI a;subst this;exact hk.1
  |false=>rw[a] at h;exact jdt hk.2 f s h
theorem jxE {n:Nat} {fs:List (Nat×jO)} (h:jdY fs):(jDf n fs).ok PR:=
 ⟨jvi jAm,jb2 h,jvo,rfl,fun _ _ _ _ _ a=>by cases a⟩
theorem jjW {n:Nat} {fs:List (Nat×jO)} {os:List (Nat×zr)} (h:jdY fs) (b:ye os):(ctx n fs os).ok PR:=
 ⟨jvi jAm,jb2 h,jvo,rfl,fun f dst σ svs out a=>jt5 (jxE h) (jdt b) a⟩
def gd (t:Ty) (σ:St) (s:Nat):t.Data:=match σ.get s with
 | .dat a d=>(match j0 a t d with|some x=>x|none=>t.dflt)
 |_=>t.dflt
def gr (t:Ty) (σ:St) (o:Nat):List t.Data:=match σ.obj o with
 |some (.row _ a _ _ l)=>(match j0 (.slice a) (.slice t) l with|some l'=>l'|none=>[])
 |_=>[]
def gfn (ps rs:List Ty) (σ:St) (s:Nat):(Ty.st ps).Data->(Ty.st rs).Data:=match σ.get s with
 | .fn a b _ F=>if h:a=ps/\b=rs then h.1▸h.2▸F else fun _=>(Ty.st rs).dflt
 |_=>fun _=>(Ty.st rs).dflt
def zw (fn:Func):Code:=match fn.body with|some c=>c|none=> .skip
theorem jDt {f:Nat} {fn:Func} {n:Nat} {fs:List (Nat×jO)} {os:List (Nat×zr)} {s:jO} {A:Ann} (h:jCs (ctx n fs os) A fn (zw fn) s) (d:PR.funcs[f]? =some fn) (c:fn.body=some (zw fn)) (a:(fn.name== "runtime.NumGoroutine")=false)
 (e:fn.ntmps=n) (b:Nat.ble s.ps.length n=true) (hk:jdY fs) (g:ye os):ze PR f s:=
 jDb (jjW hk g) mixed d c a e (jDY b) A h
theorem jAR {f:Nat} {fn:Func} {n:Nat} {fs:List (Nat×jO)} {os:List (Nat×zr)} {s:zr} {A:Ann} (h:jt4 (ctx n fs os) A fn (zw fn) s) (e:PR.funcs[f]? =some fn) (d:fn.body=some (zw fn)) (a:(fn.name== "runtime.NumGoroutine")=false)
 (g:fn.ntmps=n) (c:Nat.ble s.ps.length n=true) (b:wz (jrd s.ps 0)=true) (hk:jdY fs) (i:ye os):wE PR f s:=
 jB8 (jjW hk i) mixed e d a g (jDY c) b A h
theorem kcC {f:Nat} {s:jO} {fs:List (Nat×jO)} (h:ze PR f s) (hk:jdY fs):jdY ((f,s)::fs):=⟨fun _=>h,hk⟩
theorem kcN:jdY []:=trivial
theorem koC {f:Nat} {s:zr} {fs:List (Nat×zr)} (h:wE PR f s) (hk:ye fs):ye ((f,s)::fs):=⟨h,hk⟩
theorem koN:ye []:=trivial
theorem wa (A:Ann) {f:Nat} {fn:Func} {fs:List (Nat×jO)} {os:List (Nat×zr)} {s:jO} {P:Prop} (h:P) (e:PR.funcs[f]? =some fn) (hk:jdY fs) (g:ye os) (d:jCs (ctx fn.ntmps fs os) A fn (zw fn) s=P:=by kernel_rfl) (c:fn.body=some (zw fn):=by kernel_rfl) (a:(fn.name== "runtime.NumGoroutine")=false:=by kernel_rfl) (b:Nat.ble s.ps.length fn.ntmps=true:=by kernel_rfl):ze PR f s:=jDt (d.mpr h) e c a rfl b hk g
theorem jL {f:Nat} {fn:Func} {fs:List (Nat×jO)} {os:List (Nat×zr)} {s:jO} {P:Prop} (h:P) (e:PR.funcs[f]? =some fn) (hk:jdY fs) (g:ye os) (d:jCs (ctx fn.ntmps fs os) (fun _=>none) fn (zw fn) s=P:=by kernel_rfl) (c:fn.body=some (zw fn):=by kernel_rfl) (a:(fn.name== "runtime.NumGoroutine")=false:=by kernel_rfl) (b:Nat.ble s.ps.length fn.ntmps=true:=by kernel_rfl):ze PR f s:=jDt (d.mpr h) e c a rfl b hk g
theorem ji9 (A:Ann) {f:Nat} {fn:Func} {fs:List (Nat×jO)} {os:List (Nat×zr)} {s:zr} {P:Prop} (h:P) (g:PR.funcs[f]? =some fn) (hk:jdY fs) (i:ye os) (e:jt4 (ctx fn.ntmps fs os) A fn (zw fn) s=P:=by kernel_rfl) (d:fn.body=some (zw fn):=by kernel_rfl) (a:(fn.name== "runtime.NumGoroutine")=false:=by kernel_rfl) (c:Nat.ble s.ps.length fn.ntmps=true:=by kernel_rfl) (b:wz (jrd s.ps 0)=true:=by kernel_rfl):wE PR f s:=jAR (e.mpr h) g d a rfl c b hk i
theorem jgN {f:Nat} {fn:Func} {fs:List (Nat×jO)} {os:List (Nat×zr)} {s:zr} {P:Prop} (h:P) (g:PR.funcs[f]? =some fn) (hk:jdY fs) (i:ye os) (e:jt4 (ctx fn.ntmps fs os) (fun _=>none) fn (zw fn) s=P:=by kernel_rfl) (d:fn.body=some (zw fn):=by kernel_rfl) (a:(fn.name== "runtime.NumGoroutine")=false:=by kernel_rfl) (c:Nat.ble s.ps.length fn.ntmps=true:=by kernel_rfl) (b:wz (jrd s.ps 0)=true:=by kernel_rfl):wE PR f s:=jAR (e.mpr h) g d a rfl c b hk i
def jpX (n:Nat) (fs:List (Nat×jO)) (os:List (Nat×zr)) (cs:List (Nat×jdZ)) (vs:List (Nat×jnq)):Ctx:=⟨n,ti,fs,jCX (jDf n fs) os cs vs,strs,false⟩
def jx5:List (Nat×jdZ)->Prop
 |[]=>True
 |p::r=>jpR PR p.1 p.2/\jx5 r
def jx4:List (Nat×jnq)->Prop
 |[]=>True
 |p::r=>VOK PR p.1 p.2/\jx4 r
theorem jjl:∀{l:List (Nat×jdZ)},jx5 l->∀f s,js l f=some s->jpR PR f s
 |[],_,f,s,h=>by simp[js] at h
 | (j,x)::r,hk,f,s,h=>by
  simp only[js] at h
  cases a:Nat.beq j f with
  |true=>rw[a] at h;simp at h;subst h;have:=jDI a;subst this;exact hk.1
  |false=>rw[a] at h;exact jjl hk.2 f s h
theorem jjk:∀{l:List (Nat×jnq)},jx4 l->∀f s,js l f=some s->VOK PR f s
 |[],_,f,s,h=>by simp[js] at h
 | (j,x)::r,hk,f,s,h=>by
  simp only[js] at h
  cases a:Nat.beq j f with
  |true=>rw[a] at h;simp at h;subst h;have:=jDI a;subst this;exact hk.1
  |false=>rw[a] at h;exact jjk hk.2 f s h
theorem jrT {n:Nat} {fs:List (Nat×jO)} {os:List (Nat×zr)} {cs:List (Nat×jdZ)} {vs:List (Nat×jnq)} (h:jdY fs) (c:ye os) (a:jx5 cs) (d:jx4 vs):(jpX n fs os cs vs).ok PR:=
 ⟨jvi jAm,jb2 h,jvo,rfl,fun f dst σ svs out b=>jtg (jxE h) (jdt c) (jjl a) (jjk d) b⟩
theorem jCa {f:Nat} {fn:Func} {n:Nat} {fs:List (Nat×jO)} {os:List (Nat×zr)} {s:jdZ} {A:Ann} (h:jxN (ctx n fs os) A fn (zw fn) s) (d:PR.funcs[f]? =some fn) (c:fn.body=some (zw fn)) (a:(fn.name== "runtime.NumGoroutine")=false)
 (e:fn.ntmps=n) (b:Nat.ble s.ps.length n=true) (hk:jdY fs) (g:ye os):jpR PR f s:=
 jCD (jjW hk g) mixed d c a e (jDY b) A h
end Go.X
namespace Go.X
namespace L
theorem nth_lt {α:Type} [Inhabited α] {l:List α} {i:Nat} (h:i<l.length):nth l i=l[i]:=by
 unfold nth;simp[h]
theorem take_succ {α:Type} [Inhabited α] {l:List α} {i:Nat} (h:i<l.length):l.take (i+1)=l.take i++[nth l i]:=by
 rw[nth_lt h];exact List.take_succ_eq_append_getElem h
theorem mem_nth {α:Type} [Inhabited α] {l:List α} {i:Nat} (h:i<l.length):nth l i∈l:=by
 rw[nth_lt h];exact List.getElem_mem h
theorem mem_iff {α:Type} [Inhabited α] {l:List α} {x:α}:x∈l↔∃i,i<l.length/\nth l i=x:=by
 constructor
 .intro h;obtain⟨i,hi,e⟩:=List.getElem_of_mem h;exact⟨i,hi,by rw[nth_lt hi,e]⟩
 .rintro⟨i,hi,rfl⟩;exact mem_nth hi
theorem all_false {α:Type} [Inhabited α] {l:List α} {i:Nat} {p:α->Bool} (h:i<l.length) (a:p (nth l i)=false):l.all p=false:=by
 rw[jEQ];exact⟨nth l i,mem_nth h,by simp[a]⟩
theorem in64 {x:Int} (a: -9223372036854775808<=x) (b:x<=9223372036854775807):jA x:=⟨a,b⟩
end L
end Go.X
namespace Go.X
namespace BT
theorem two_nat (k:Nat):(2:Int)^k=((2^k:Nat):Int):=by simp
theorem div_nat (n k:Nat):(n:Int)/2^k=((n/2^k:Nat):Int):=by simp
theorem pow63 {k:Nat} (h:k<=62):2^k<2^63:=Nat.pow_lt_pow_right (by decide) (by omega)
theorem ofInt_nat {n:Nat} (a:n<2^63):(BitVec.ofInt 64 (n:Int)).toNat=n:=by
 simp only[BitVec.toNat_ofInt];omega
theorem wrap_nat {n:Nat} (h:n<2^63):IntKind.i64.wrap (n:Int)=(n:Int):=by
 unfold IntKind.wrap;simp[IntKind.signed,IntKind.bits];omega
theorem wrapU_nat {n:Nat} (h:n<2^63):IntKind.u64.wrap (n:Int)=(n:Int):=by
 unfold IntKind.wrap;simp[IntKind.signed,IntKind.bits];omega
theorem band_nat {a b:Nat} (c:a<2^63) (d:b<2^63):vG (a:Int) (b:Int)=((a&&&b:Nat):Int):=by
 unfold vG;rw[BitVec.toNat_and,ofInt_nat c,ofInt_nat d];exact wrap_nat (Nat.lt_of_le_of_lt Nat.and_le_left c)
theorem uand_nat {a b:Nat} (c:a<2^63) (d:b<2^63):wg (a:Int) (b:Int)=((a&&&b:Nat):Int):=by
 unfold wg;rw[BitVec.toNat_and,ofInt_nat c,ofInt_nat d];exact wrapU_nat (Nat.lt_of_le_of_lt Nat.and_le_left c)
theorem bor_nat {a b:Nat} (c:a<2^63) (d:b<2^63):bor (a:Int) (b:Int)=((a|||b:Nat):Int):=by
 unfold bor;rw[BitVec.toNat_or,ofInt_nat c,ofInt_nat d,wrap_nat (Nat.or_lt_two_pow c d)]
def Set' (s:Int):Prop:=0<=s/\s<2^62
def has (s:Int) (p:Nat):Bool:=s.toNat.testBit p
theorem nat_of {s:Int} (h:Set' s):∃n:Nat,s=(n:Int)/\n<2^62:=⟨s.toNat,by unfold Set' at h;omega,by unfold Set' at h;omega⟩
theorem lt63 {n:Nat} (h:n<2^62):n<2^63:=by omega
theorem has_shr {s:Int} (h:Set' s) (p:Nat):decide (vG (s/2^p) 1=1)=has s p:=by
 obtain⟨n,rfl,b⟩:=nat_of h;unfold has;rw[jDN,div_nat];have a:n/2^p<2^63:=Nat.lt_of_le_of_lt (Nat.div_le_self _ _) (lt63 b);rw[show(1:Int)=((1:Nat):Int) from rfl,band_nat a (by decide),Nat.and_one_is_mod,Nat.testBit_eq_decide_div_mod_eq];exact decide_eq_decide.2 ⟨fun h=>by omega,fun h=>by omega⟩
theorem bit_num {s:Int} (h:Set' s) (p:Nat):vG (s/2^p) 1=if has s p=true then 1 else 0:=by
 obtain⟨n,rfl,b⟩:=nat_of h;unfold has;rw[jDN,div_nat];have a:n/2^p<2^63:=Nat.lt_of_le_of_lt (Nat.div_le_self _ _) (lt63 b);rw[show(1:Int)=((1:Nat):Int) from rfl,band_nat a (by decide),Nat.and_one_is_mod,Nat.testBit_eq_decide_div_mod_eq]
 split
 .rename_i h;have:=of_decide_eq_true h;omega
 .rename_i h;have:¬(n/2^p%2=1):=fun e=>h (decide_eq_true e);omega
theorem has_zero (p:Nat):has 0 p=false:=by unfold has;simp
theorem has_two (k p:Nat):has ((2:Int)^k) p=decide (k=p):=by
 unfold has;rw[two_nat,jDN,Nat.testBit_two_pow]
theorem has_bor {a b:Int} (c:Set' a) (d:Set' b) (p:Nat):has (bor a b) p=(has a p||has b p):=by
 obtain⟨n,rfl,f⟩:=nat_of c;obtain⟨m,rfl,e⟩:=nat_of d;unfold has;rw[bor_nat (lt63 f) (lt63 e)];simp only[jDN,Nat.testBit_or]
theorem bor_set {a b:Int} (e:Set' a) (f:Set' b):Set' (bor a b):=by
 obtain⟨n,rfl,d⟩:=nat_of e;obtain⟨m,rfl,c⟩:=nat_of f;rw[bor_nat (lt63 d) (lt63 c)];have:n|||m<2^62:=Nat.or_lt_two_pow d c;unfold Set';omega
theorem zero_set:Set' 0:=by unfold Set';omega
theorem two_set {k:Nat} (h:k<=61):Set' ((2:Int)^k):=by
 rw[two_nat];have:2^k<2^62:=Nat.pow_lt_pow_right (by decide) (by omega);obtain⟨q,a⟩:∃q,q=2^k:=⟨_,rfl⟩;rw[<-a] at this⊢;unfold Set';omega
theorem ext {a b:Int} (c:Set' a) (d:Set' b) (h:∀p,has a p=has b p):a=b:=by
 obtain⟨n,rfl,f⟩:=nat_of c;obtain⟨m,rfl,e⟩:=nat_of d;have:n=m:=Nat.eq_of_testBit_eq (fun i=>by have:=h i;unfold has at this;simpa using this);rw[this]
theorem has_lt {s:Int} {k:Nat} (c:0<=s) (h:s<2^k) {p:Nat} (b:has s p=true):p<k:=by
 obtain⟨n,rfl⟩:∃n:Nat,s=(n:Int):=⟨s.toNat,by omega⟩;rw[two_nat] at h;unfold has at b;rw[jDN] at b;have d:=Nat.ge_two_pow_of_testBit b;rcases Nat.lt_or_ge p k with a|a
 .exact a
 .have:=Nat.pow_le_pow_right (n:=2) (by decide) a;omega
theorem or_two {n p:Nat} (h:n.testBit p=false):n+2^p=n|||2^p:=by
 have g:n=2^(p+1)*(n/2^(p+1))+n%2^(p+1):=(Nat.div_add_mod _ _).symm;have c:n%2^(p+1)<2^p:=by
  have b:n%2^(p+1)<2^(p+1):=Nat.mod_lt _ (Nat.pow_pos (by decide));rcases Nat.lt_or_ge (n%2^(p+1)) (2^p) with a|a
  .exact a
  .exfalso;have:(n%2^(p+1)).testBit p=true:=Nat.testBit_of_two_pow_le_and_two_pow_add_one_gt a b;rw[Nat.testBit_mod_two_pow,h] at this;simp at this
 apply Nat.eq_of_testBit_eq;intro i;rw[Nat.testBit_or,Nat.testBit_two_pow];have e:n+2^p=2^(p+1)*(n/2^(p+1))+(2^p+n%2^(p+1)):=(by omega);have j:2^p+n%2^(p+1)<2^(p+1):=jEG (Nat.add_lt_add_left c _) (by rw[Nat.pow_succ];omega);rw[e,Nat.testBit_two_pow_mul_add _ j]
 conv=>rhs;rw[g,Nat.testBit_two_pow_mul_add _ (Nat.mod_lt _ (Nat.pow_pos (by decide)))]
 have f:2^p+n%2^(p+1)=2^p*1+n%2^(p+1):=(by omega);by_cases hi:i<p+1
 .rw[if_pos hi,if_pos hi,f,Nat.testBit_two_pow_mul_add _ c];by_cases d:i<p
  .rw[if_pos d,decide_eq_false (by omega),Bool.or_false]
  .have:i=p:=(by omega);subst this;rw[if_neg d,Nat.sub_self,decide_eq_true rfl,Bool.or_true];simp
 .rw[if_neg hi,if_neg hi,decide_eq_false (by omega),Bool.or_false]
theorem add_two {s:Int} (b:Set' s) {p:Nat} (c:p<=61) (h:has s p=false):s+2^p=bor s (2^p):=by
 obtain⟨n,rfl,a⟩:=nat_of b;rw[two_nat,bor_nat (lt63 a) (pow63 (by omega))];unfold has at h;rw[jDN] at h;rw[<-or_two h];omega
def size (s:Int):Int:=(((List.range 62).countP (fun p=>has s p):Nat):Int)
theorem size_zero:size 0=0:=by
 unfold size;have:(List.range 62).countP (fun p=>has 0 p)=0:=jE0.2 (fun p _=>by rw[has_zero];simp);rw[this];rfl
theorem size_le (s:Int):0<=size s/\size s<=62:=by
 have:=List.countP_le_length (l:=List.range 62) (p:=fun p=>has s p);rw[List.length_range] at this;unfold size;omega
theorem has_half {s:Int} (a:Set' s) (p:Nat):has (s/2) p=has s (p+1):=by
 obtain⟨n,rfl,b⟩:=nat_of a;unfold has;have:((n:Int)/2).toNat=n/2:=(by omega);rw[this,jDN,Nat.testBit_succ]
theorem size_half {s:Int} (d:Set' s):size s=s%2+size (s/2):=by
 obtain⟨n,e,i⟩:=nat_of d;have b:has (s/2) 61=false:=by
  rw[has_half d];subst e;unfold has;rw[jDN];exact Nat.testBit_lt_two_pow i
 have j:(List.range 62)=0::(List.range 61).map (·+1):=by
  rw[show(62:Nat)=61+1 from rfl,List.range_succ_eq_map]
 have c:(List.range 62)=List.range 61++[61]:=(by rw[show(62:Nat)=61+1 from rfl,jEz]);have f:(has s 0=true)↔s%2=1:=by
  subst e;unfold has;rw[jDN,Nat.testBit_zero];simp only[decide_eq_true_eq];omega
 have g:(List.range 62).countP (fun p=>has (s/2) p)=(List.range 61).countP (fun p=>has s (p+1)):=by
  rw[c,jE9];simp only[jE7,List.countP_nil,b];simp only[has_half d];simp
 unfold size;rw[g]
 conv=>lhs;rw[j]
 rw[jE7,List.countP_map];have h:((fun p=>has s p)∘fun(x:Nat)=>x+1)=fun p=>has s (p+1):=rfl
 rw[h];by_cases a:has s 0=true
 .rw[if_pos a];have:=f.1 a;omega
 .rw[if_neg a];have:¬s%2=1:=fun e=>a (f.2 e);omega
end BT
end Go.X
namespace Go.X
namespace BT
theorem uor_nat {a b:Nat} (c:a<2^63) (d:b<2^63):uor (a:Int) (b:Int)=((a|||b:Nat):Int):=by
 unfold uor;rw[BitVec.toNat_or,ofInt_nat c,ofInt_nat d,wrapU_nat (Nat.or_lt_two_pow c d)]
theorem has_uor {a b:Int} (c:Set' a) (d:Set' b) (p:Nat):has (uor a b) p=(has a p||has b p):=by
 obtain⟨n,rfl,f⟩:=nat_of c;obtain⟨m,rfl,e⟩:=nat_of d;unfold has;rw[uor_nat (lt63 f) (lt63 e)];simp only[jDN,Nat.testBit_or]
theorem uor_set {a b:Int} (e:Set' a) (f:Set' b):Set' (uor a b):=by
 obtain⟨n,rfl,d⟩:=nat_of e;obtain⟨m,rfl,c⟩:=nat_of f;rw[uor_nat (lt63 d) (lt63 c)];have:n|||m<2^62:=Nat.or_lt_two_pow d c;unfold Set';omega
theorem pred_odd (k:Nat):(2*k+1)&&&(2*k+1-1)=2*k:=by
 apply Nat.eq_of_testBit_eq;intro i;rw[Nat.testBit_and,Nat.add_sub_cancel];cases i with
 |zero=>simp
 |succ i=>
  rw[Nat.testBit_succ,Nat.testBit_succ];have:(2*k+1)/2=k:=(by omega);have a:(2*k)/2=k:=(by omega);rw[this,a,Bool.and_self]
theorem pred_even (k:Nat) (h:k≠0):(2*k)&&&(2*k-1)=2*(k&&&(k-1)):=by
 apply Nat.eq_of_testBit_eq;intro i;rw[Nat.testBit_and];cases i with
 |zero=>simp
 |succ i=>
  rw[Nat.testBit_succ,Nat.testBit_succ,Nat.testBit_succ];have:(2*k)/2=k:=(by omega);have a:(2*k-1)/2=k-1:=(by omega);have b:(2*(k&&&(k-1)))/2=k&&&(k-1):=(by omega);rw[this,a,b,Nat.testBit_and]
theorem size_dbl {k:Nat} (h:k<2^61):size ((2*k:Nat):Int)=size (k:Int):=by
 rw[size_half (s:=((2*k:Nat):Int)) (by unfold Set';omega)];have a:((2*k:Nat):Int)%2=0:=(by omega);have b:((2*k:Nat):Int)/2=(k:Int):=(by omega);rw[a,b];omega
theorem size_odd {k:Nat} (h:k<2^61):size ((2*k+1:Nat):Int)=1+size (k:Int):=by
 rw[size_half (s:=((2*k+1:Nat):Int)) (by unfold Set';omega)];have a:((2*k+1:Nat):Int)%2=1:=(by omega);have b:((2*k+1:Nat):Int)/2=(k:Int):=(by omega);rw[a,b]
theorem pred_nat:∀(n:Nat),n≠0->n<2^62->(n&&&(n-1))<n/\size ((n&&&(n-1):Nat):Int)+1=size (n:Int)
 |n,b,d=>by
  rcases Nat.mod_two_eq_zero_or_one n with e|e
  .obtain⟨k,rfl⟩:∃k,n=2*k:=⟨n/2,by omega⟩
   have hk:k≠0:=by omega
   obtain⟨c,a⟩:=pred_nat k hk (by omega)
   rw[pred_even k hk]
   exact⟨by omega,by rw[size_dbl (by omega),size_dbl (by omega)];exact a⟩
  .obtain⟨k,rfl⟩:∃k,n=2*k+1:=⟨n/2,by omega⟩
   rw[pred_odd]
   exact⟨by omega,by rw[size_dbl (by omega),size_odd (by omega)];omega⟩
termination_by n=>n
theorem pred {s:Int} (d:Set' s) (h:s≠0):Set' (wg s (s-1))/\wg s (s-1)<s/\size (wg s (s-1))+1=size s:=by
 obtain⟨n,rfl,a⟩:=nat_of d;have b:n≠0:=(by omega);have e:(n:Int)-1=((n-1:Nat):Int):=(by omega);rw[e,uand_nat (lt63 a) (by omega)];obtain⟨f,c⟩:=pred_nat n b a;exact⟨by unfold Set';omega,by omega,c⟩
end BT
end Go.X
namespace Go.X
namespace U
def y9 {α:Type} (eq:α->α->Bool) (p:α):List α->List α
 |[]=>[]
 |y::r=>if eq y p=true then y9 eq y r else y::y9 eq y r
def qC {α:Type} (eq:α->α->Bool):List α->List α
 |[]=>[]
 |x::r=>x::y9 eq x r
def jA3 {α:Type} (eq:α->α->Bool) (l:List α) (i:Nat):Prop:=1<=i/\i<=l.length/\qC eq (l.take i)=l.take i
def jcC {α:Type} (eq:α->α->Bool) (l:List α) (n:Nat):Int:=((qC eq (l.take n)).length:Int)
def jri {α:Type} (eq:α->α->Bool) (l:List α) (i k:Nat) (r:List α):Prop:=1<=k/\i+k<=l.length/\r.length=l.length/\qC eq (l.take (i+k))=r.take (qC eq (l.take (i+k))).length/\r.drop (i+k-1)=l.drop (i+k-1)/\(qC eq (l.take (i+k))).length<i+k
end U
namespace L
theorem nodup_len {α:Type}:∀(a b:List α),a.Nodup->(∀x∈a,x∈b)->a.length<=b.length
 |[],_,_,_=>by simp
 |x::a,b,hn,h=>by
  obtain⟨e,f,rfl⟩:=List.append_of_mem (h x (by simp))
  rw[jEy] at hn
  have:=nodup_len a (e++f) hn.2 (fun y d=>by
   have:=h y (by simp[d])
   rw[jDU,jDL] at this
   rw[jDU]
   rcases this with c|c|c
   .exact .inl c
   .subst c;exact absurd d hn.1
   .exact .inr c)
  simp at this⊢
  omega
theorem perm_of_nodup {α:Type} [DecidableEq α]:∀{a b:List α},a.Nodup->b.Nodup->(∀n,n∈a↔n∈b)->a.Perm b
 |[],b,_,_,h=>by
  have:b=[]:=by
   cases b with
   |nil=>rfl
   |cons x r=>exact absurd ((h x).2 (by simp)) (by simp)
  rw[this]
 |x::r,b,ha,hb,h=>by
  have i:x∈b:=(h x).1 (by simp);have f:=List.perm_cons_erase i;refine(List.Perm.cons x (perm_of_nodup (jEy.1 ha).2 (hb.erase x) (fun n=> ?_))).trans f.symm;rw[hb.mem_erase_iff];constructor
  .intro c;exact⟨fun e=>by subst e;exact(jEy.1 ha).1 c,(h n).1 (jDS _ c)⟩
  .rintro⟨d,c⟩;rcases jDL.1 ((h n).2 c) with e|g
   .exact absurd e d
   .exact g
theorem nodup_inj {α d:Type} {f:α->d}:∀{l:List α},(l.map f).Nodup->∀{x y:α},x∈l->y∈l->f x=f y->x=y
 |[],_,_,_,h,_,_=>by simp at h
 |a::r,hn,x,y,hx,hy,e=>by
  simp only[jEL,jEy] at hn
  rcases jDL.1 hx with rfl|c
  .rcases jDL.1 hy with rfl|b
   .rfl
   .exact absurd (jEl.2 ⟨y,b,e.symm⟩) hn.1
  .rcases jDL.1 hy with rfl|b
   .exact absurd (jEl.2 ⟨x,c,e⟩) hn.1
   .exact nodup_inj hn.2 c b e
theorem nth_take {α:Type} [Inhabited α] {l:List α} {i n:Nat} (h:i<n):nth (l.take n) i=nth l i:=by
 unfold nth;rw[jEh,jEh,jD5 h]
theorem nth_drop {α:Type} [Inhabited α] {l r:List α} {a n:Nat} (h:l.drop a=r.drop a) (b:a<=n):nth l n=nth r n:=by
 have e:=congrArg (fun x=>x[n-a]?) h;simp only[jEk] at e;rw[show a+(n-a)=n by omega] at e;unfold nth;rw[jEh,jEh,e]
theorem nth_map {α a:Type} [Inhabited α] [Inhabited a] {f:α->a} {l:List α} {i:Nat} (h:i<l.length):nth (l.map f) i=f (nth l i):=by
 rw[nth_lt (by simpa using h),nth_lt h];simp
theorem nth_set {α:Type} [Inhabited α] {l:List α} {i j:Nat} {x:α} (h:i<l.length):nth (l.set i x) j=if i=j then x else nth l j:=by
 unfold nth;rw[jEh,jEh,List.getElem?_set]
 split
 .rename_i e;subst e;simp[h]
 .rfl
theorem nth_rep {α:Type} [Inhabited α] {n i:Nat} {x:α} (h:i<n):nth (List.replicate n x) i=x:=by
 unfold nth;rw[jEh,List.getElem?_replicate,if_pos h];rfl
theorem ext_nth {α:Type} [Inhabited α] {a b:List α} (h:a.length=b.length) (d:∀i,i<a.length->nth a i=nth b i):a=b:=by
 apply List.ext_getElem h;intro i c e;rw[<-nth_lt c,<-nth_lt e];exact d i c
theorem range_map_nth {α:Type} [Inhabited α] (l:List α):(List.range l.length).map (nth l)=l:=by
 apply ext_nth
 .simp
 .intro i hi;rw[nth_map (by simpa using hi)];congr 1;rw[nth_lt (by simpa using hi)];simp
section
variable {α:Type} [Inhabited α] {eq:α->α->Bool}
theorem compT_snoc (y:α):∀(r:List α) (p:α),U.y9 eq p (r++[y])=U.y9 eq p r++(if eq y (nth (p::r) r.length)=true then[] else[y])
 |[],p=>rfl
 |z::r,p=>by
  have e:nth (p::z::r) (z::r).length=nth (z::r) r.length:=rfl
  rw[e]
  simp only[jD9,U.y9]
  split
  .exact compT_snoc y r z
  .rw[compT_snoc y r z];rfl
theorem comp_snoc (y:α) {l:List α} (h:l≠[]):U.qC eq (l++[y])=U.qC eq l++(if eq y (nth l (l.length-1))=true then[] else[y]):=by
 cases l with
 |nil=>exact absurd rfl h
 |cons x r=>
  show x::U.y9 eq x (r++[y])=_;rw[compT_snoc];have:(x::r).length-1=r.length:=(by simp);rw[this];rfl
theorem comp_take {l:List α} {n:Nat} (b:1<=n) (a:n<l.length):U.qC eq (l.take (n+1))=U.qC eq (l.take n)++(if eq (nth l n) (nth l (n-1))=true then[] else[nth l n]):=by
 rw[L.take_succ a,comp_snoc]
 .have e:(l.take n).length-1=n-1:=(by rw[jEf];omega);rw[e,nth_take (by omega)]
 .intro e;have:=congrArg List.length e;rw[jEf,jEx] at this;omega
end
theorem comp_short {α:Type} {eq:α->α->Bool} {l:List α} (h:l.length<2):U.qC eq l=l:=by
 match l,h with
 |[],_=>rfl
 |[x],_=>rfl
theorem comp_len {α:Type} {eq:α->α->Bool} (l:List α):(U.qC eq l).length<=l.length:=by
 have:∀(r:List α) (p:α),(U.y9 eq p r).length<=r.length:=by
  intro r
  induction r with
  |nil=>intro p;simp[U.y9]
  |cons y r a=>
   intro p;unfold U.y9
   split
   .have:=a y;simp;omega
   .have:=a y;simp;omega
 cases l with
 |nil=>simp[U.qC]
 |cons x r=>have:=this r x;simp[U.qC];omega
theorem inv9_next {α:Type} [Inhabited α] {eq:α->α->Bool} {l r:List α} {i k:Nat} (hi:1<=i) (h:U.jri eq l i k r) (g:i+k<l.length):
 (eq (nth r (i+k)) (nth r (i+k-1))=false->U.jcC eq l (i+(k+1))=U.jcC eq l (i+k)+1/\U.jri eq l i (k+1) (r.set (U.jcC eq l (i+k)).toNat (nth r (i+k))))/\
 (eq (nth r (i+k)) (nth r (i+k-1))=true->U.jcC eq l (i+(k+1))=U.jcC eq l (i+k)/\U.jri eq l i (k+1) r):=by
 obtain⟨t,u,j,d,e,q⟩:=h;have o:nth r (i+k)=nth l (i+k):=nth_drop e (by omega);have p:nth r (i+k-1)=nth l (i+k-1):=nth_drop e (by omega);have a:=comp_take (eq:=eq) (l:=l) (n:=i+k) (by omega) g;rw[show i+k+1=i+(k+1) by omega] at a;have m:r.drop (i+k)=l.drop (i+k):=by
  have:=congrArg (List.drop 1) e;rw[List.drop_drop,List.drop_drop,show i+k-1+1=i+k by omega] at this;exact this
 rw[o,p];obtain⟨c,b⟩:∃c,c=U.qC eq (l.take (i+k)):=⟨_,rfl⟩;rw[<-b] at a d q;have s:(U.jcC eq l (i+k))=(c.length:Int):=(by unfold U.jcC;rw[<-b]);rw[s];refine⟨fun f=> ?_,fun f=> ?_⟩
 .rw[if_neg (by rw[f];simp)] at a;refine⟨by unfold U.jcC;rw[a];simp,by omega,by omega,by simpa using j,?_,?_,?_⟩
  .rw[a];simp only[jDN,jD2,jEi,jEx];rw[List.take_add_one,List.getElem?_set_self (by omega)];rw[List.take_set_of_le (by omega),<-d];rfl
  .rw[show i+(k+1)-1=i+k by omega];simp only[jDN];rw[List.drop_set_of_lt (by omega)];exact m
  .rw[a];simp;omega
 .rw[if_pos f,jEg] at a;refine⟨by unfold U.jcC;rw[a],by omega,by omega,j,?_,?_,?_⟩
  .rw[a];exact d
  .rw[show i+(k+1)-1=i+k by omega];exact m
  .rw[a];omega
theorem compT_sub {α:Type} {eq:α->α->Bool}:∀(r:List α) (p x:α),x∈U.y9 eq p r->x∈r
 |[],_,_,h=>by simp[U.y9] at h
 |y::r,p,x,h=>by
  unfold U.y9 at h
  split at h
  .exact jDS _ (compT_sub r y x h)
  .rcases jDL.1 h with rfl|h
   .simp
   .exact jDS _ (compT_sub r y x h)
theorem comp_sub {α:Type} {eq:α->α->Bool} {l:List α} {x:α} (h:x∈U.qC eq l):x∈l:=by
 cases l with
 |nil=>simp[U.qC] at h
 |cons y r=>
  unfold U.qC at h;rcases jDL.1 h with rfl|h
  .simp
  .exact jDS _ (compT_sub r y x h)
theorem compT_mem {α:Type} [DecidableEq α]:∀(r:List α) (p x:α),x∈r->x=p\/x∈U.y9 (fun a b=>decide (a=b)) p r
 |y::r,p,x,h=>by
  unfold U.y9
  rcases jDL.1 h with rfl|h
  .by_cases e:x=p
   .exact .inl e
   .rw[if_neg (by simpa using e)];right;simp
  .rcases compT_mem r y x h with rfl|c
   .by_cases e:x=p
    .exact .inl e
    .rw[if_neg (by simpa using e)];right;simp
   .right
    split
    .exact c
    .exact jDS _ c
theorem comp_mem {α:Type} [DecidableEq α] {l:List α} {x:α}:x∈U.qC (fun a b=>decide (a=b)) l↔x∈l:=by
 refine⟨comp_sub,fun h=> ?_⟩;cases l with
 |nil=>simp at h
 |cons y r=>
  unfold U.qC;rcases jDL.1 h with rfl|h
  .simp
  .rcases compT_mem r y x h with rfl|c
   .simp
   .exact jDS _ c
theorem comp_asc {α:Type} [DecidableEq α] {lt:α->α->Bool}:∀{l:List α},kj lt l->jte lt l->(U.qC (fun a b=>decide (a=b)) l).Pairwise (fun a b=>lt a b=true):=by
 have i:∀(r:List α) (p:α),kj lt (p::r)->jte lt (p::r)->(p::U.y9 (fun a b=>decide (a=b)) p r).Pairwise (fun a b=>lt a b=true):=by
  intro r
  induction r with
  |nil=>intro p _ _;exact List.pairwise_singleton _ _
  |cons y r n=>
   intro p f j;have d:=jEv.1 j;have k:kj lt (y::r):=f.sub (fun z c=>jDS _ c);have hi:=n y k d.2;unfold U.y9;by_cases e:y=p
   .rw[if_pos (by simpa using e)];subst e;exact hi
   .rw[if_neg (by simpa using e)];refine jEv.2 ⟨fun z c=> ?_,hi⟩;have g:lt p y=true:=by
     cases h:lt p y with
     |true=>rfl
     |false=>exact absurd (f.total p y (by simp) (by simp) h (d.1 y (by simp))).symm e
    rcases jDL.1 c with rfl|c
    .exact g
    .have m:=compT_sub r y z c;exact f.trans p y z (by simp) (by simp) (by simp[m]) g ((jEv.1 hi).1 z c)
 intro l f j;cases l with
 |nil=>exact List.Pairwise.nil
 |cons p r=>exact i r p f j
theorem asc_nodup {α:Type} {lt:α->α->Bool} {l:List α} (hi:∀x,lt x x=false) (h:l.Pairwise (fun a b=>lt a b=true)):l.Nodup:=
 h.imp (fun{a b} h e=>by subst e;rw[hi] at h;cases h)
theorem filter_take {α:Type} [Inhabited α] {p:α->Bool} {l:List α} {i:Nat} (h:i<l.length):(l.take (i+1)).filter p=(l.take i).filter p++(if p (nth l i)=true then[nth l i] else[]):=by
 rw[take_succ h,List.filter_append];congr 1;by_cases e:p (nth l i)=true<;>simp[e]
theorem range_filter_succ {p:Nat->Bool} {n:Nat}:(List.range (n+1)).filter p=(List.range n).filter p++(if p n=true then[n] else[]):=by
 rw[jEz,List.filter_append];congr 1;by_cases e:p n=true<;>simp[e]
end L
end Go.X
namespace Go.X
abbrev tSp:Ty:= .st [.int,.int]
abbrev tPe:Ty:= .st [.slice .int,.int,.int,.slice .int,.bool,.int]
abbrev tLw:Ty:= .st [.int,.int,.bool]
abbrev tCr:Ty:= .st [.int,.slice tPe,.slice tLw]
abbrev tJb:Ty:= .st [.int,.int,.int,.int,.int,.int]
abbrev tBk:Ty:= .st [tJb,.int,.int,.int]
abbrev tSh:Ty:= .st [.int,.int,.int,.int,.int]
abbrev tDy:Ty:= .st [tCr,.slice (.slice tSp),.slice tBk,.int,.int,.slice tSh]
abbrev SpD:Type:=Int×Int×Unit
abbrev PeD:Type:=List Int×Int×Int×List Int×Bool×Int×Unit
abbrev LwD:Type:=Int×Int×Bool×Unit
abbrev CrD:Type:=Int×List PeD×List LwD×Unit
abbrev JbD:Type:=Int×Int×Int×Int×Int×Int×Unit
abbrev BkD:Type:=JbD×Int×Int×Int×Unit
abbrev ShD:Type:=Int×Int×Int×Int×Int×Unit
abbrev DyD:Type:=CrD×List (List SpD)×List BkD×Int×Int×List ShD×Unit
namespace U
def lo (s:SpD):Int:=s.1
def hi (s:SpD):Int:=s.2.1
def ja (n a b:Int):Bool:=decide (a<=n)&&decide (n<=b)
def lv (p:PeD):List Int:=p.1
def fd (p:PeD):Int:=p.2.1
def cl (p:PeD):Int:=p.2.2.1
def zN (p:PeD):List Int:=p.2.2.2.1
def deaf (p:PeD):Bool:=p.2.2.2.2.1
def fe (p:PeD):Int:=p.2.2.2.2.2.1
def jDu (l:LwD):Int:=l.1
def jC7 (l:LwD):Int:=l.2.1
def jDG (l:LwD):Bool:=l.2.2.1
def la (c:CrD):Int:=c.1
def jj (c:CrD):List PeD:=c.2.1
def zm (c:CrD):List LwD:=c.2.2.1
def jA1 (j:JbD):Int:=j.1
def jue (j:JbD):Int:=j.2.1
def jBT (j:JbD):Int:=j.2.2.1
def jBS (j:JbD):Int:=j.2.2.2.1
def jBR (j:JbD):Int:=j.2.2.2.2.1
def jC9 (j:JbD):Int:=j.2.2.2.2.2.1
def jfE (b:BkD):JbD:=b.1
def jBv (b:BkD):Int:=b.2.1
def jdP (b:BkD):Int:=b.2.2.1
def jzt (b:BkD):Int:=b.2.2.2.1
def zT (s:ShD):Int:=s.1
def jnu (s:ShD):Int:=s.2.1
def jyo (s:ShD):Int:=s.2.2.1
def joi (s:ShD):Int:=s.2.2.2.1
def jcA (s:ShD):Int:=s.2.2.2.2.1
def jf (d:DyD):CrD:=d.1
def jt (d:DyD):List (List SpD):=d.2.1
def jp (d:DyD):List BkD:=d.2.2.1
def jtN (d:DyD):Int:=d.2.2.2.1
def jAY (d:DyD):Int:=d.2.2.2.2.1
def jW (d:DyD):List ShD:=d.2.2.2.2.2.1
def zx (d:DyD) (l:List ShD):DyD:=(jf d,jt d,jp d,jtN d,jAY d,l,())
def yo (L:Int) (p:PeD):Bool:=decide (((lv p).length:Int)=L/\0<=fd p/\fd p<=255/\0<=cl p/\cl p<=255/\(zN p).length<=10/\0<=fe p/\fe p<=1000)&&((lv p).all (fun n=>ja n 0 5)&&(zN p).all (fun n=>ja n 0 99))
def yQ (l:LwD):Bool:=ja (jDu l) 1 5&&ja (jC7 l) 1 8
def ju (c:CrD):Bool:=decide (2<=la c/\la c<=5/\(jj c).length<=8/\(zm c).length=4)&&((jj c).all (yo (la c))&&(zm c).all yQ)
def zu (c:CrD) (j:JbD):Bool:=decide (0<=jA1 j/\jA1 j<=la c-1/\0<=jue j/\jue j<=la c-1/\jA1 j≠jue j/\0<=jBT j/\jBT j<=99/\0<=jBS j/\jBS j<=7/\0<=jBR j/\jBR j<=3/\1<=jC9 j/\jC9 j<=8)
def zP (c:CrD) (j:JbD):Int:=if ju c=false then 30 else if zu c j=false then 31 else 0
def jeO (s:SpD):Bool:=decide (0<=lo s/\lo s<=hi s/\hi s<=300)
def qP (n:Nat) (r:List SpD):Bool:=decide (r.length=n)&&r.all jeO
def jct (n:Nat) (b:BkD):Bool:=decide (0<=jBv b/\jBv b<=(n:Int)-1/\0<=jdP b/\jdP b<jzt b/\jzt b<=1440)
def jbn (nb a:Nat) (s:ShD):Bool:=decide (0<=zT s/\zT s<=99/\0<=jnu s/\jnu s<=9999/\1<=jyo s/\jyo s<=2/\0<=joi s/\joi s<=(nb:Int)-1/\0<=jcA s/\jcA s<=(a:Int)-1)
def zo (d:DyD):Bool:=decide ((jp d).length<=4/\1<=(jt d).length/\(jt d).length<=5/\0<=jtN d/\jtN d<=300/\0<=jAY d/\jAY d<=1440/\(jW d).length<=30)&&
 ((jt d).all (qP (jt d).length)&&((jp d).all (jct (jt d).length)&&(jW d).all (jbn (jp d).length (jj (jf d)).length)))
def jjZ (a b:ShD):Bool:=decide (zT a=zT b)&& !decide (a=b)
def jh8 (l:List ShD) (i:Nat):Bool:=(l.take i).any (jjZ (nth l i))
def wK (l:List ShD) (n:Nat):Bool:=(List.range n).any (jh8 l)
def zZ (l:List ShD):Bool:=wK l l.length
def jwN (d:DyD):Bool:=(jp d).all (fun b=>zu (jf d) (jfE b))
def qV (d:DyD):Int:=if ju (jf d)=false then 30 else if jwN d=false then 31 else if zo d=false then 50 else if zZ (jW d)=true then 51 else 0
def jbG (l:List ShD) (i:Nat):Bool:= !((l.take i).any (fun x=>decide (x=nth l i)))
def vH (l:List ShD) (n m:Nat):List ShD:=((List.range n).filter (fun i=>decide (zT (nth l i)=(m:Int))&&jbG l i)).map (nth l)
def zH (l:List ShD) (n:Nat):List ShD:=(List.range n).flatMap (vH l l.length)
def kA (l:List ShD):List ShD:=zH l 100
def jvh (p:PeD) (a:Int):Bool:=(zN p).any (fun t=>decide (t=a))
def jhG (s n:Int):Bool:=decide (vG (s/2^n.toNat) 1=1)
def jai (c:CrD) (j:JbD) (p:Int):Bool:= !(jvh (nth (jj c) p.toNat) (jBT j))&&jhG (fd (nth (jj c) p.toNat)) (jBS j)&&jhG (cl (nth (jj c) p.toNat)) (jBR j)
def bk (d:DyD) (b:Int):BkD:=nth (jp d) b.toNat
def jBc (d:DyD) (a b:Int):Int:=hi (nth (nth (jt d) (jBv (bk d a)).toNat) (jBv (bk d b)).toNat)
def yc (d:DyD) (a b:Int):Bool:=decide (jdP (bk d a)<jdP (bk d b)\/(jdP (bk d a)=jdP (bk d b)/\a<b))
def vg (d:DyD) (a b:Int):Int:=jdP (bk d b)-jzt (bk d a)-jtN d-jBc d a b
def jaY (d:DyD) (a b:Int):Bool:=if yc d b a=true then decide (0<=vg d b a) else decide (0<=vg d a b)
def jrf (d:DyD) (l:List Int):Int:=(l.map (fun b=>jzt (bk d b)-jdP (bk d b))).foldl (·+·) 0
def jB5 (d:DyD) (l:List Int):Bool:=(List.range l.length).all (fun i=>(l.take i).all (fun b=>jaY d (nth l i) b))
def jay (d:DyD) (p:Int) (l:List Int):Bool:=l.all (fun b=>jai (jf d) (jfE (bk d b)) p)&&(jB5 d l&&decide (jrf d l<=jAY d))
def wB (a b:ShD):Bool:=decide (jnu b<jnu a\/(jnu a=jnu b/\zT b<zT a))
def jh6 (l:List ShD) (s:ShD):Bool:=decide (jyo s=1)&& !(l.any (fun t=>decide (joi t=joi s)&&decide (jcA t=jcA s)&&wB t s))
def jBz (a b:ShD):Bool:=wB b a
def jC3 (t:List Int) (p:Int) (n:Nat):List Int:=((List.range n).filter (fun b=>jhG (nth t b) p)).map (fun(b:Nat)=>(b:Int))
def on (t:List Int) (p:Int):List Int:=jC3 t p t.length
def jbT (d:DyD) (x:List Int×List Int) (s:ShD):List Int×List Int:=
 if jay d (jcA s) (on x.1 (jcA s)++[joi s])=true then(x.1.set (joi s).toNat (nth x.1 (joi s).toNat+2^(jcA s).toNat),x.2) else(x.1,x.2++[zT s])
def jyQ (c:CrD) (j:JbD):LwD:=nth (zm c) (jBR j).toNat
end U
end Go.X
namespace Go.X
inductive Rch (J:Nat->Nat->Bool) (n s:Nat):Nat->Prop where
 |base:Rch J n s s
 |step {a b:Nat}:Rch J n s a->b<n->J a b=true->Rch J n s b
namespace U
def jza (J:Nat->Nat->Bool) (r a:Nat) (out:List Int) (b:Nat):List Int:=if nth out a=(r:Int)/\nth out b<0/\J a b=true then out.set b ((r:Int)+1) else out
def jDc (J:Nat->Nat->Bool) (r a:Nat) (out:List Int) (k:Nat):List Int:=(List.range k).foldl (jza J r a) out
def jDd (J:Nat->Nat->Bool) (n r:Nat) (out:List Int) (k:Nat):List Int:=(List.range k).foldl (fun o a=>jDc J r a o n) out
def kM (n s:Nat):List Int:=(List.replicate n (-1:Int)).set s 0
def jCu (J:Nat->Nat->Bool) (n s k:Nat):List Int:=(List.range k).foldl (fun o r=>jDd J n r o n) (kM n s)
def jfs (J:Nat->Nat->Bool) (q:Nat) (x:List Int×List Int) (b:Nat):List Int×List Int:=if nth x.1 b<0/\J q b=true then(x.1.set b (nth x.1 q+1),x.2++[(b:Int)]) else x
def jft (J:Nat->Nat->Bool) (q:Nat) (x:List Int×List Int) (k:Nat):List Int×List Int:=(List.range k).foldl (jfs J q) x
def wM (J:Nat->Nat->Bool) (n:Nat) (x:List Int×List Int):List Int×List Int:=match x.2 with
 |[]=>x
 |q::_=>((jft J q.toNat x n).1,(jft J q.toNat x n).2.drop 1)
def qD (J:Nat->Nat->Bool) (n s:Nat):Nat->List Int×List Int
 |0=>(kM n s,[(s:Int)])
 |k+1=>wM J n (qD J n s k)
def bfs (J:Nat->Nat->Bool) (n s:Nat):List Int:=(qD J n s (n+1)).1
end U
theorem jjO (n s:Nat):(U.kM n s).length=n:=by unfold U.kM;simp
theorem jjN {n s x:Nat} (a:s<n) (b:x<n):nth (U.kM n s) x=if s=x then 0 else-1:=by
 unfold U.kM;rw[L.nth_set (by simpa using a),L.nth_rep b]
structure jx6 (J:Nat->Nat->Bool) (n s r a b:Nat) (out:List Int):Prop where
 len:out.length=n
 val:∀x,x<n->nth out x= -1\/(0<=nth out x/\nth out x<=(r:Int)+1)
 top:(a=0/\b=0)->∀x,x<n->nth out x<=(r:Int)
 zero:0<=nth out s
 rch:∀x,x<n->0<=nth out x->Rch J n s x
 lev:∀x,x<n->0<nth out x->∃y,y<n/\nth out y=nth out x-1
 cls:∀x y,x<n->y<n->0<=nth out x->(nth out x<(r:Int)\/(nth out x=(r:Int)/\(x<a\/(x=a/\y<b))))->J x y=true->0<=nth out y
theorem jxm {J:Nat->Nat->Bool} {n s r a b:Nat} {out:List Int} (B:s<n) (t:a<n) (u:b<n) (h:jx6 J n s r a b out):jx6 J n s r a (b+1) (U.jza J r a out b):=by
 unfold U.jza
 split
 .rename_i q;obtain⟨c1,c2,v⟩:=q;have p:b<out.length:=(by rw[h.len];exact u);have c:∀j,nth (out.set b ((r:Int)+1)) j=if b=j then(r:Int)+1 else nth out j:=fun j=>L.nth_set p
  have o:b≠a:=fun e=>by subst e;omega
  refine⟨by simpa using h.len,fun x g=> ?_,fun e=>by omega,?_,fun x g f=> ?_,fun x g f=> ?_,fun x y g k f d l=> ?_⟩
  .rw[c];split
   .right;omega
   .exact h.val x g
  .rw[c];split
   .omega
   .exact h.zero
  .rw[c] at f
   split at f
   .rename_i e;subst e;exact .step (h.rch a t (by omega)) u v
   .exact h.rch x g f
  .rw[c] at f⊢
   split at f
   .rename_i e;subst e;rw[if_pos rfl];exact⟨a,t,by rw[c,if_neg o];omega⟩
   .rename_i e;rw[if_neg e];obtain⟨y,k,w⟩:=h.lev x g f;refine⟨y,k,?_⟩;rw[c,if_neg (fun e=>by subst e;omega)];exact w
  .rw[c] at f d⊢
   split
   .omega
   .rename_i A
    split at f
    .rename_i e;rw[if_pos e] at d;omega
    .rename_i e;rw[if_neg e] at d;refine h.cls x y g k f ?_ l;rcases d with d|⟨d,i|⟨i,z⟩⟩
     .exact .inl d
     .exact .inr ⟨d,.inl i⟩
     .exact .inr ⟨d,.inr ⟨i,by omega⟩⟩
 .rename_i q;refine⟨h.len,h.val,fun e=>by omega,h.zero,h.rch,h.lev,fun x y g k f d l=> ?_⟩;rcases d with d|⟨d,i|⟨i,z⟩⟩
  .exact h.cls x y g k f (.inl d) l
  .exact h.cls x y g k f (.inr ⟨d,.inl i⟩) l
  .by_cases e:y=b
   .subst e;subst i;rcases Int.lt_or_le (nth out y) 0 with m|m
    .exact absurd ⟨d,m,l⟩ q
    .exact m
   .exact h.cls x y g k f (.inr ⟨d,.inr ⟨i,by omega⟩⟩) l
theorem jzZ {J:Nat->Nat->Bool} {n s r a:Nat} {out:List Int} (c:s<n) (b:a<n) (h:jx6 J n s r a 0 out):∀k,k<=n->jx6 J n s r a k (U.jDc J r a out k)
 |0,_=>h
 |k+1,hk=>by
  have:=jxm c b (show k<n by omega) (jzZ c b h k (by omega))
  unfold U.jDc at this⊢
  rw[jEz,jEo];exact this
theorem jBb {J:Nat->Nat->Bool} {n s r a:Nat} {out:List Int} (k:0<n) (h:jx6 J n s r a n out):jx6 J n s r (a+1) 0 out:=by
 refine⟨h.len,h.val,fun e=>by omega,h.zero,h.rch,h.lev,fun x y i c d b g=>h.cls x y i c d ?_ g⟩;rcases b with b|⟨b,f|⟨f,j⟩⟩
 .exact .inl b
 .by_cases e:x=a
  .exact .inr ⟨b,.inr ⟨e,c⟩⟩
  .exact .inr ⟨b,.inl (by omega)⟩
 .omega
theorem jz0 {J:Nat->Nat->Bool} {n s r:Nat} {out:List Int} (a:s<n) (h:jx6 J n s r 0 0 out):∀k,k<=n->jx6 J n s r k 0 (U.jDd J n r out k)
 |0,_=>h
 |k+1,hk=>by
  have:=jBb (by omega) (jzZ a (show k<n by omega) (jz0 a h k (by omega)) n (jDO _))
  unfold U.jDd at this⊢
  rw[jEz,jEo];exact this
theorem jBa {J:Nat->Nat->Bool} {n s r:Nat} {out:List Int} (h:jx6 J n s r n 0 out):jx6 J n s (r+1) 0 0 out:=by
 refine⟨h.len,fun x a=> ?_,fun _ x a=> ?_,h.zero,h.rch,h.lev,fun x y a j f b i=>h.cls x y a j f ?_ i⟩
 .rcases h.val x a with e|⟨c,d⟩
  .exact .inl e
  .exact .inr ⟨c,by omega⟩
 .rcases h.val x a with e|⟨c,d⟩<;>omega
 .rcases b with b|⟨b,g|⟨g,k⟩⟩
  .by_cases e:nth out x=(r:Int)
   .exact .inr ⟨e,.inl a⟩
   .exact .inl (by omega)
  .omega
  .omega
theorem jCv {J:Nat->Nat->Bool} {n s:Nat} (c:s<n):∀k,jx6 J n s k 0 0 (U.jCu J n s k)
 |0=>by
  have hi:∀x,x<n->nth (U.jCu J n s 0) x=if s=x then 0 else-1:=fun x a=>jjN c a
  refine⟨jjO n s,fun x a=> ?_,fun _ x a=> ?_,by rw[hi s c,if_pos rfl];omega,fun x a b=> ?_,fun x a b=> ?_,fun x y a g b f d=> ?_⟩
  .rw[hi x a];split<;>simp
  .rw[hi x a];split<;>simp
  .rw[hi x a] at b
   split at b
   .rename_i e;subst e;exact .base
   .omega
  .rw[hi x a] at b;split at b<;>omega
  .omega
 |k+1=>by
  have:=jBa (jz0 c (jCv (J:=J) c k) n (jDO _))
  unfold U.jCu at this⊢
  rw[jEz,jEo];exact this
def joV (out:List Int):Nat:=out.countP (fun z=>decide (z<0))
theorem jmN:∀{out:List Int} {b:Nat} {v:Int},b<out.length->nth out b<0->0<=v->joV (out.set b v)+1=joV out
 |[],b,v,h,_,_=>by simp at h
 |z::r,0,v,_,a,h2=>by
  have a:z<0:=a
  unfold joV
  rw[List.set_cons_zero,jE7,jE7,if_neg (by simpa using h2),if_pos (by simpa using a)]
 |z::r,b+1,v,h,a,h2=>by
  have:=jmN (out:=r) (b:=b) (v:=v) (by simpa using h) a h2
  unfold joV at this⊢
  rw[List.set_cons_succ,jE7,jE7]
  omega
structure jDp (J:Nat->Nat->Bool) (n s:Nat) (ex:Nat->Nat->Prop) (x:List Int×List Int):Prop where
 len:x.1.length=n
 low:∀y,y<n->-1<=nth x.1 y/\nth x.1 y<=(n:Int)*2
 zero:0<=nth x.1 s
 rch:∀y,y<n->0<=nth x.1 y->Rch J n s y
 que:∀q,q∈x.2->0<=q/\q<(n:Int)/\0<=nth x.1 q.toNat
 cls:∀y z,y<n->z<n->0<=nth x.1 y->(y:Int)∉x.2\/ex y z->J y z=true->0<=nth x.1 z
def jqh (n:Nat) (x:List Int×List Int):Prop:=∀y,y<n->nth x.1 y+(joV x.1:Int)<=(n:Int)-1
theorem jlU (J:Nat->Nat->Bool) (q:Nat) (x:List Int×List Int) (k:Nat):U.jft J q x (k+1)=U.jfs J q (U.jft J q x k) k:=by
 unfold U.jft;rw[jEz,jEo];rfl
structure InI (J:Nat->Nat->Bool) (n s q k:Nat) (x0 x:List Int×List Int):Prop where
 i:jDp J n s (fun y z=>y=q/\z<k) x
 le:jqh n x
 mu:joV x.1+x.2.length=joV x0.1+x0.2.length
 pre:∃l,x.2=x0.2++l
 keep:∀y,y<n->0<=nth x0.1 y->nth x.1 y=nth x0.1 y
theorem jA4 {J:Nat->Nat->Bool} {n s q k:Nat} {x0 x:List Int×List Int} (M:s<n) (p:q<n) (w:0<=nth x0.1 q) (hk:k<n) (h:InI J n s q k x0 x):InI J n s q (k+1) x0 (U.jfs J q x k):=by
 have G:nth x.1 q=nth x0.1 q:=h.keep q p w;unfold U.jfs
 split
 .rename_i t;obtain⟨c1,c2⟩:=t;have m:k<x.1.length:=(by rw[h.i.len];exact hk);have b:∀j,nth (x.1.set k (nth x.1 q+1)) j=if k=j then nth x.1 q+1 else nth x.1 j:=fun j=>L.nth_set m
  have E:=jmN (v:=nth x.1 q+1) m c1 (by omega);have F:=h.le q p;have u:k≠q:=fun e=>by subst e;omega
  obtain⟨l,C⟩:=h.pre;refine⟨⟨by simpa using h.i.len,fun y d=> ?_,?_,fun y d c=> ?_,fun z f=> ?_,fun y z d f c a g=> ?_⟩,fun y d=> ?_,?_,⟨l++[(k:Int)],by simp only[C,jD3]⟩,fun y d c=> ?_⟩
  .simp only;rw[b];split
   .have:=h.i.low q p;omega
   .exact h.i.low y d
  .simp only;rw[b];split
   .omega
   .exact h.i.zero
  .simp only at c⊢;rw[b] at c
   split at c
   .rename_i e;subst e;exact .step (h.i.rch q p (by omega)) hk c2
   .exact h.i.rch y d c
  .simp only at f⊢;rcases jDU.1 f with f|f
   .obtain⟨H,I,K⟩:=h.i.que z f;refine⟨H,I,?_⟩;rw[b];split
    .omega
    .exact K
   .simp at f;subst f;refine⟨by omega,by omega,?_⟩;rw[jDN,b,if_pos rfl];omega
  .simp only at c a⊢;rw[b] at c⊢
   split
   .omega
   .rename_i B;by_cases e:k=y
    .subst e;rcases a with a|⟨a,_⟩
     .exact absurd (jDJ _ (by simp)) a
     .exact absurd a u
    .rw[if_neg e] at c;refine h.i.cls y z d f c ?_ g;rcases a with a|⟨o,A⟩
     .exact .inl (fun D=>a (jDK _ D))
     .exact .inr ⟨o,by omega⟩
  .simp only;rw[b];split
   .omega
   .have:=h.le y d;omega
  .have:=h.mu;simp only[jD2,jEi,jEx];omega
  .have:=h.keep y d c;simp only;rw[b,if_neg (fun e=>by subst e;omega)];exact this
 .rename_i t;refine⟨⟨h.i.len,h.i.low,h.i.zero,h.i.rch,h.i.que,fun y z d f c a g=> ?_⟩,h.le,h.mu,h.pre,h.keep⟩;rcases a with a|⟨o,A⟩
  .exact h.i.cls y z d f c (.inl a) g
  .by_cases e:z=k
   .subst e;subst o;rcases Int.lt_or_le (nth x.1 z) 0 with r|r
    .exact absurd ⟨r,g⟩ t
    .exact r
   .exact h.i.cls y z d f c (.inr ⟨o,by omega⟩) g
theorem jwX {J:Nat->Nat->Bool} {n s q:Nat} {x:List Int×List Int} (e:s<n) (d:q<n) (b:0<=nth x.1 q) (hi:jDp J n s (fun _ _=>False) x) (a:jqh n x):∀k,k<=n->InI J n s q k x (U.jft J q x k)
 |0,_=>⟨⟨hi.len,hi.low,hi.zero,hi.rch,hi.que,fun y z i j f c g=>hi.cls y z i j f (by rcases c with h|⟨_,h⟩;exact .inl h;omega) g⟩,a,rfl,⟨[],by simp[U.jft]⟩,fun _ _ _=>rfl⟩
 |k+1,hk=>by rw[jlU];exact jA4 e d b (by omega) (jwX e d b hi a k (by omega))
structure jBW (J:Nat->Nat->Bool) (n s:Nat) (x:List Int×List Int):Prop where
 i:jDp J n s (fun _ _=>False) x
 le:jqh n x
theorem jys {J:Nat->Nat->Bool} {n s:Nat} {x:List Int×List Int} (m:s<n) (h:jBW J n s x):jBW J n s (U.wM J n x)/\(x.2≠[]->joV (U.wM J n x).1+(U.wM J n x).2.length+1=joV x.1+x.2.length):=by
 obtain⟨st,p⟩:=x;cases p with
 |nil=>exact⟨h,fun h=>absurd rfl h⟩
 |cons q r=>
  obtain⟨t,u,o⟩:=h.i.que q (by simp);have hi:=jwX m (q:=q.toNat) (by omega) o h.i h.le n (jDO _);obtain⟨l,d⟩:=hi.pre;have f:(U.wM J n (st,q::r))=((U.jft J q.toNat (st,q::r) n).1,r++l):=by
   show((U.jft J q.toNat (st,q::r) n).1,(U.jft J q.toNat (st,q::r) n).2.drop 1)=_;rw[d];rfl
  rw[f];have b:=hi.mu;rw[d] at b;refine⟨⟨⟨hi.i.len,hi.i.low,hi.i.zero,hi.i.rch,fun z c=>hi.i.que z (by rw[d];simp only at c⊢;exact jDS _ c),fun y z k c g a j=> ?_⟩,hi.le⟩,fun _=> ?_⟩
  .rcases a with a|a
   .by_cases e:y=q.toNat
    .exact hi.i.cls y z k c g (.inr ⟨e,c⟩) j
    .refine hi.i.cls y z k c g (.inl ?_) j;rw[d];intro b;rcases jDL.1 b with f|b
     .omega
     .exact a b
   .exact a.elim
  .simp only[jD9,jEi] at b⊢;omega
theorem jss {J:Nat->Nat->Bool} {n s:Nat} (f:s<n):jBW J n s (U.qD J n s 0)/\joV (U.qD J n s 0).1+(U.qD J n s 0).2.length=n:=by
 have hi:∀x,x<n->nth (U.kM n s) x=if s=x then 0 else-1:=fun x i=>jjN f i
 have h:joV (U.kM n s)+1=n:=by
  have:=jmN (out:=List.replicate n (-1:Int)) (b:=s) (v:=0) (by simpa using f) (by rw[L.nth_rep f];decide) (by decide);unfold U.kM;rw[this];unfold joV;rw[List.countP_replicate];simp
 refine⟨⟨⟨jjO n s,fun y d=> ?_,?_,fun y d c=> ?_,fun q g=> ?_,fun y z d k c a j=> ?_⟩,fun y d=> ?_⟩,?_⟩
 .show-1<=nth (U.kM n s) y/\_;rw[show nth (U.qD J n s 0).1 y=_ from hi y d,hi y d];split<;>omega
 .show 0<=nth (U.kM n s) s;rw[hi s f,if_pos rfl];omega
 .have c:0<=nth (U.kM n s) y:=c;rw[hi y d] at c
  split at c
  .rename_i e;subst e;exact .base
  .omega
 .have g:q∈[(s:Int)]:=g;simp at g;subst g;refine⟨by omega,by omega,?_⟩;show 0<=nth (U.kM n s) (s:Int).toNat;rw[jDN,hi s f,if_pos rfl];omega
 .have c:0<=nth (U.kM n s) y:=c;rw[hi y d] at c
  split at c
  .rename_i e;subst e;rcases a with a|a
   .exact absurd (show(s:Int)∈[(s:Int)] by simp) a
   .exact a.elim
  .omega
 .show nth (U.kM n s) y+(joV (U.kM n s):Int)<=(n:Int)-1;rw[hi y d];split<;>omega
 .show joV (U.kM n s)+1=n;exact h
theorem jqK {J:Nat->Nat->Bool} {n s:Nat} (b:s<n):∀k,jBW J n s (U.qD J n s k)/\((U.qD J n s k).2=[]\/joV (U.qD J n s k).1+(U.qD J n s k).2.length+k=n)
 |0=>⟨(jss b).1,.inr (jss b).2⟩
 |k+1=>by
  obtain⟨d,a⟩:=jqK b k
  obtain⟨f,g⟩:=jys b d
  refine⟨f,?_⟩
  by_cases e:(U.qD J n s k).2=[]
  .left
   show(U.wM J n (U.qD J n s k)).2=[]
   unfold U.wM
   split
   .exact e
   .rename_i c;rw[e] at c;cases c
  .right
   have:=g e
   rcases a with a|a
   .exact absurd a e
   .show joV (U.wM J n (U.qD J n s k)).1+(U.wM J n (U.qD J n s k)).2.length+(k+1)=n
    omega
theorem jzs {J:Nat->Nat->Bool} {n s k:Nat} (h:(U.qD J n s k).2=[]):∀m,k<=m->U.qD J n s m=U.qD J n s k:=by
 intro m d
 induction m with
 |zero=>have:k=0:=by omega
        subst this;rfl
 |succ m c=>
  by_cases e:k=m+1
  .rw[e]
  .have b:=c (by omega);show U.wM J n (U.qD J n s m)=_;rw[b];unfold U.wM
   split
   .rfl
   .rename_i a;rw[h] at a;cases a
end Go.X
namespace Go.X
namespace U
def gq {α:Type} (p:α->Bool) (l:List α):Int:=match l.findIdx? p with|some i=>(i:Int)|none=> -1
def jb {α:Type} (F:α×Unit->Bool×Unit) (g:α):Bool:=(F (g,())).1
end U
def gfb (t:Ty) (σ:St) (s:Nat):(Ty.st [t]).Data->(Ty.st [.bool]).Data:=gfn [t] [.bool] σ s
theorem wx:∀(l:List Prop) {k:Prop},U.jx l->k->asks l k
 |[],_,_,hk=>hk
 |_::r,_,h,hk=>⟨h.1,wx r h.2 hk⟩
theorem wC {α:Type} [Inhabited α] {l:List α} {p:α->Bool} {i:Nat} (h:i<l.length) (a:∀b:Nat,b<i->p (nth l b)=false) (c:p (nth l i)=true):U.gq p l=i:=by
 have:l.findIdx? p=some i:=by
  rw[List.findIdx?_eq_some_iff_getElem];refine⟨h,by rw[<-L.nth_lt h];exact c,fun j d=> ?_⟩;have:=a j d;rw[L.nth_lt (by omega)] at this;simp[this]
 unfold U.gq;rw[this]
theorem kr {α:Type} [Inhabited α] {l:List α} {p:α->Bool} {i:Nat} (h:l.length<=i) (a:∀b:Nat,b<i->p (nth l b)=false):U.gq p l= -1:=by
 have:l.findIdx? p=none:=by
  rw[List.findIdx?_eq_none_iff];intro x c;obtain⟨k,hk,rfl⟩:=L.mem_iff.1 c;exact a k (by omega)
 unfold U.gq;rw[this]
theorem jby {α:Type} (p:α->Bool) (l:List α):decide (0<=U.gq p l)=l.any p:=by
 rw[jEm];unfold U.gq;simp only[decide_eq_true_eq]
 split
 .rename_i i e;rw[List.findIdx?_eq_some_iff_getElem] at e;obtain⟨h,a,_⟩:=e;exact⟨fun _=>jEM.2 ⟨_,List.getElem_mem h,a⟩,fun _=>by omega⟩
 .rename_i e;rw[List.findIdx?_eq_none_iff] at e;refine⟨fun h=>by omega,fun h=> ?_⟩;obtain⟨x,b,a⟩:=jEM.1 h;have:=e x b;exact absurd (a.symm.trans this) (by simp)
theorem ji6 {α:Type} (F:α×Unit->Bool×Unit) (l:List α):(!l.any (U.jb fun(x:α×Unit)=>(!U.jb F x.fst,())))=l.all (U.jb F):=by
 induction l with
 |nil=>rfl
 |cons a r b=>
  simp only[List.any_cons,List.all_cons,Bool.not_or,b];have:(!U.jb (fun(x:α×Unit)=>(!U.jb F x.fst,())) a)=U.jb F a:=by
   show(!(!U.jb F a))=_;rw[Bool.not_not]
  rw[this]
end Go.X
namespace Go.X
open Go.Proofs
namespace U
def jkI (s n:Int):Bool:=decide (wg (s/2^n.toNat) 1=1)
def jBQ (b:Bool):Int:=if b=true then 1 else 0
def joR (c:CrD) (f g:Int->Bool) (p:PeD):Bool:=((((((decide (((lv p).length:Int)=la c)&&(lv p).all f)&&ja (fd p) 0 255)&&ja (cl p) 0 255)&&decide (((zN p).length:Int)<=10))&&(zN p).all g)&&ja (fe p) 0 1000)
end U
def jqo:jO:=⟨[.val .int,.val .int,.val .int],[.bool],false,fun _=>[],fun d=>(U.ja d.1 d.2.1 d.2.2.1,())⟩
def jp2:Prop:=∀(d:Int×Int×Int×Unit),(decide (d.2.1<=d.1)&&decide (d.1<=d.2.2.1),())=(U.ja d.1 d.2.1 d.2.2.1,())
def ja2:jO:=⟨[.val (.uint .u64),.val .int],[.bool],false,fun d=>[0<=d.2.1,d.2.1<=64],fun d=>(U.jkI d.1 d.2.1,())⟩
def jnx:Prop:=∀(d:Int×Int×Unit),0<=d.2.1->d.2.1<=64->0<=d.2.1/\d.2.1<=64/\(decide (wg (d.1/(2:Int)^d.2.1.toNat) (1:Int)=1),())=(U.jkI d.1 d.2.1,())
def kY:jO:=⟨[.val (.uint .u64)],[.int],false,fun d=>[BT.Set' d.1],fun d=>(BT.size d.1,())⟩
def jnm:Ann:=fun r=>match r with
 |1=>some fun σ=>{X:=Int×Int,sl:=fun x=>[(0,.dat (.uint .u64) x.1),(2,.dat .int x.2)],ob:=fun _=>[],inv:=fun x=>BT.Set' x.1/\x.2+BT.size x.1=BT.size (gd (.uint .u64) σ 0),mu:=fun x=>x.1.toNat}
 |_=>none
def jl6:Prop:=∀(d:Int×Unit),BT.Set' d.1->(∃(x:Int×Int),((d.1=x.1/\0=x.2/\True)/\True)/\BT.Set' x.1/\x.2+BT.size x.1=BT.size d.1)/\∀(x:Int×Int),BT.Set' x.1/\x.2+BT.size x.1=BT.size d.1->(decide (x.1≠0)=true->jA (x.2+1)/\0<=x.1-1/\x.1-1<=18446744073709551615/\∃(a:Int×Int),((wg x.1 (x.1-1)=a.1/\x.2+1=a.2/\True)/\True)/\(BT.Set' a.1/\a.2+BT.size a.1=BT.size d.1)/\a.1.toNat<x.1.toNat)/\(decide (x.1≠0)=false->(x.2,())=(BT.size d.1,()))
def jtB:jO:=⟨[.val .bool],[.int],false,fun _=>[],fun d=>(U.jBQ d.1,())⟩
def jtj:Prop:=∀(d:Bool×Unit),(d.1=true->((1:Int),())=(U.jBQ d.1,()))/\(d.1=false->((0:Int),())=(U.jBQ d.1,()))
def jc5:jO:=⟨[.val (.slice .int),.fn [.int] [.bool]],[.int],false,fun d=>[∀g∈d.1,U.jx (d.2.1.pre (g,()))],fun d=>(U.gq (U.jb (α:=Int) d.2.1.F) d.1,())⟩
def jdS:Ann:=fun r=>match r with
 |2=>some fun σ=>{X:=Nat,sl:=fun i=>[(8,.dat .int (i:Int))],ob:=fun _=>[],inv:=fun i=>i<=(gd (.slice .int) σ 0).length/\∀b:Nat,b<i->U.jb (gfb .int σ 1) (nth (gd (.slice .int) σ 0) b)=false,mu:=fun i=>(gd (.slice .int) σ 0).length-i}
 |_=>none
def jcU:Prop:=∀(d:List Int×FnD [Ty.int] [Ty.bool]×Unit),(∀(g:Int),g∈d.1->U.jx (d.2.1.1 (g,())))->d.1.length<4611686018427387904->(∃(x:Nat),((0=(x:Int)/\True)/\True)/\x<=d.1.length/\∀(b:Nat),b<x->U.jb d.2.1.2 (nth d.1 b)=false)/\∀(x:Nat),(x<=d.1.length/\∀(b:Nat),b<x->U.jb d.2.1.2 (nth d.1 b)=false)->(decide ((x:Int)<(d.1.length:Int))=true->0<=(x:Int)/\(x:Int)<(d.1.length:Int)/\asks (d.2.1.1 (nth d.1 (x:Int).toNat,())) (((d.2.1.2 (nth d.1 (x:Int).toNat,())).1=true->((x:Int),())=(U.gq (U.jb d.2.1.2) d.1,()))/\((d.2.1.2 (nth d.1 (x:Int).toNat,())).1=false->jA ((x:Int)+1)/\∃(a:Nat),(((x:Int)+1=(a:Int)/\True)/\True)/\(a<=d.1.length/\∀(b:Nat),b<a->U.jb d.2.1.2 (nth d.1 b)=false)/\d.1.length-a<d.1.length-x)))/\(decide ((x:Int)<(d.1.length:Int))=false->((-1:Int),())=(U.gq (U.jb d.2.1.2) d.1,()))
def jaH:jO:=⟨[.val (.slice .int),.fn [.int] [.bool]],[.bool],false,fun d=>[∀g∈d.1,U.jx (d.2.1.pre (g,()))],fun d=>(d.1.any (U.jb (α:=Int) d.2.1.F),())⟩
def jaC:Prop:=∀(d:List Int×FnD [Ty.int] [Ty.bool]×Unit),(∀(g:Int),g∈d.1->U.jx (d.2.1.1 (g,())))->(∀(g:Int),g∈d.1->U.jx (d.2.1.1 (g,())))/\(decide (0<=U.gq (U.jb d.2.1.2) d.1),())=(d.1.any (U.jb d.2.1.2),())
def jc6:jO:=⟨[.val (.slice tLw),.fn [tLw] [.bool]],[.int],false,fun d=>[∀g∈d.1,U.jx (d.2.1.pre (g,()))],fun d=>(U.gq (U.jb (α:=LwD) d.2.1.F) d.1,())⟩
def jdT:Ann:=fun r=>match r with
 |2=>some fun σ=>{X:=Nat,sl:=fun i=>[(8,.dat .int (i:Int))],ob:=fun _=>[],inv:=fun i=>i<=(gd (.slice tLw) σ 0).length/\∀b:Nat,b<i->U.jb (gfb tLw σ 1) (nth (gd (.slice tLw) σ 0) b)=false,mu:=fun i=>(gd (.slice tLw) σ 0).length-i}
 |_=>none
def jcV:Prop:=∀(d:List LwD×FnD [tLw] [Ty.bool]×Unit),(∀(g:LwD),g∈d.1->U.jx (d.2.1.1 (g,())))->d.1.length<4611686018427387904->(∃(x:Nat),((0=(x:Int)/\True)/\True)/\x<=d.1.length/\∀(b:Nat),b<x->U.jb d.2.1.2 (nth d.1 b)=false)/\∀(x:Nat),(x<=d.1.length/\∀(b:Nat),b<x->U.jb d.2.1.2 (nth d.1 b)=false)->(decide ((x:Int)<(d.1.length:Int))=true->0<=(x:Int)/\(x:Int)<(d.1.length:Int)/\asks (d.2.1.1 (nth d.1 (x:Int).toNat,())) (((d.2.1.2 (nth d.1 (x:Int).toNat,())).1=true->((x:Int),())=(U.gq (U.jb d.2.1.2) d.1,()))/\((d.2.1.2 (nth d.1 (x:Int).toNat,())).1=false->jA ((x:Int)+1)/\∃(a:Nat),(((x:Int)+1=(a:Int)/\True)/\True)/\(a<=d.1.length/\∀(b:Nat),b<a->U.jb d.2.1.2 (nth d.1 b)=false)/\d.1.length-a<d.1.length-x)))/\(decide ((x:Int)<(d.1.length:Int))=false->((-1:Int),())=(U.gq (U.jb d.2.1.2) d.1,()))
def jaI:jO:=⟨[.val (.slice tLw),.fn [tLw] [.bool]],[.bool],false,fun d=>[∀g∈d.1,U.jx (d.2.1.pre (g,()))],fun d=>(d.1.any (U.jb (α:=LwD) d.2.1.F),())⟩
def jaD:Prop:=∀(d:List LwD×FnD [tLw] [Ty.bool]×Unit),(∀(g:LwD),g∈d.1->U.jx (d.2.1.1 (g,())))->(∀(g:LwD),g∈d.1->U.jx (d.2.1.1 (g,())))/\(decide (0<=U.gq (U.jb d.2.1.2) d.1),())=(d.1.any (U.jb d.2.1.2),())
def jaG:jO:=⟨[.val (.slice tPe),.fn [tPe] [.bool]],[.int],false,fun d=>[∀g∈d.1,U.jx (d.2.1.pre (g,()))],fun d=>(U.gq (U.jb (α:=PeD) d.2.1.F) d.1,())⟩
def jaP:Ann:=fun r=>match r with
 |2=>some fun σ=>{X:=Nat,sl:=fun i=>[(8,.dat .int (i:Int))],ob:=fun _=>[],inv:=fun i=>i<=(gd (.slice tPe) σ 0).length/\∀b:Nat,b<i->U.jb (gfb tPe σ 1) (nth (gd (.slice tPe) σ 0) b)=false,mu:=fun i=>(gd (.slice tPe) σ 0).length-i}
 |_=>none
def jaB:Prop:=∀(d:List PeD×FnD [tPe] [Ty.bool]×Unit),(∀(g:PeD),g∈d.1->U.jx (d.2.1.1 (g,())))->d.1.length<4611686018427387904->(∃(x:Nat),((0=(x:Int)/\True)/\True)/\x<=d.1.length/\∀(b:Nat),b<x->U.jb d.2.1.2 (nth d.1 b)=false)/\∀(x:Nat),(x<=d.1.length/\∀(b:Nat),b<x->U.jb d.2.1.2 (nth d.1 b)=false)->(decide ((x:Int)<(d.1.length:Int))=true->0<=(x:Int)/\(x:Int)<(d.1.length:Int)/\asks (d.2.1.1 (nth d.1 (x:Int).toNat,())) (((d.2.1.2 (nth d.1 (x:Int).toNat,())).1=true->((x:Int),())=(U.gq (U.jb d.2.1.2) d.1,()))/\((d.2.1.2 (nth d.1 (x:Int).toNat,())).1=false->jA ((x:Int)+1)/\∃(a:Nat),(((x:Int)+1=(a:Int)/\True)/\True)/\(a<=d.1.length/\∀(b:Nat),b<a->U.jb d.2.1.2 (nth d.1 b)=false)/\d.1.length-a<d.1.length-x)))/\(decide ((x:Int)<(d.1.length:Int))=false->((-1:Int),())=(U.gq (U.jb d.2.1.2) d.1,()))
def yh:jO:=⟨[.val (.slice tPe),.fn [tPe] [.bool]],[.bool],false,fun d=>[∀g∈d.1,U.jx (d.2.1.pre (g,()))],fun d=>(d.1.any (U.jb (α:=PeD) d.2.1.F),())⟩
def yf:Prop:=∀(d:List PeD×FnD [tPe] [Ty.bool]×Unit),(∀(g:PeD),g∈d.1->U.jx (d.2.1.1 (g,())))->(∀(g:PeD),g∈d.1->U.jx (d.2.1.1 (g,())))/\(decide (0<=U.gq (U.jb d.2.1.2) d.1),())=(d.1.any (U.jb d.2.1.2),())
def jhd:jO:=⟨[.val .int,.rfn [.int] [.bool]],[.bool],false,fun d=>[U.jx (d.2.1.pre (d.1,()))],fun d=>(!(U.jb (α:=Int) d.2.1.F d.1),())⟩
def jg1:Prop:=∀(d:Int×FnD [Ty.int] [Ty.bool]×Unit),U.jx (d.2.1.1 (d.1,()))->asks (d.2.1.1 (d.1,())) ((!(d.2.1.2 (d.1,())).1,())=(!U.jb d.2.1.2 d.1,()))
def jkp:jO:=⟨[.val (.slice .int),.fn [.int] [.bool]],[.bool],false,fun d=>[∀g∈d.1,U.jx (d.2.1.pre (g,()))],fun d=>(d.1.all (U.jb (α:=Int) d.2.1.F),())⟩
def jkg:Prop:=∀(d:List Int×FnD [Ty.int] [Ty.bool]×Unit),(∀(g:Int),g∈d.1->U.jx (d.2.1.1 (g,())))->(∀(g:Int),g∈d.1->U.jx [U.jx (d.2.1.1 (g,()))])/\(!d.1.any (U.jb fun(a:Int×Unit)=>(!U.jb d.2.1.2 a.1,())),())=(d.1.all (U.jb d.2.1.2),())
def jhe:jO:=⟨[.val tLw,.rfn [tLw] [.bool]],[.bool],false,fun d=>[U.jx (d.2.1.pre (d.1,()))],fun d=>(!(U.jb (α:=LwD) d.2.1.F d.1),())⟩
def jg2:Prop:=∀(d:LwD×FnD [tLw] [Ty.bool]×Unit),U.jx (d.2.1.1 (d.1,()))->asks (d.2.1.1 (d.1,())) ((!(d.2.1.2 (d.1,())).1,())=(!U.jb d.2.1.2 d.1,()))
def jkq:jO:=⟨[.val (.slice tLw),.fn [tLw] [.bool]],[.bool],false,fun d=>[∀g∈d.1,U.jx (d.2.1.pre (g,()))],fun d=>(d.1.all (U.jb (α:=LwD) d.2.1.F),())⟩
def jkh:Prop:=∀(d:List LwD×FnD [tLw] [Ty.bool]×Unit),(∀(g:LwD),g∈d.1->U.jx (d.2.1.1 (g,())))->(∀(g:LwD),g∈d.1->U.jx [U.jx (d.2.1.1 (g,()))])/\(!d.1.any (U.jb fun(a:LwD×Unit)=>(!U.jb d.2.1.2 a.1,())),())=(d.1.all (U.jb d.2.1.2),())
def jc4:jO:=⟨[.val tPe,.rfn [tPe] [.bool]],[.bool],false,fun d=>[U.jx (d.2.1.pre (d.1,()))],fun d=>(!(U.jb (α:=PeD) d.2.1.F d.1),())⟩
def jcS:Prop:=∀(d:PeD×FnD [tPe] [Ty.bool]×Unit),U.jx (d.2.1.1 (d.1,()))->asks (d.2.1.1 (d.1,())) ((!(d.2.1.2 (d.1,())).1,())=(!U.jb d.2.1.2 d.1,()))
def jfN:jO:=⟨[.val (.slice tPe),.fn [tPe] [.bool]],[.bool],false,fun d=>[∀g∈d.1,U.jx (d.2.1.pre (g,()))],fun d=>(d.1.all (U.jb (α:=PeD) d.2.1.F),())⟩
def jfG:Prop:=∀(d:List PeD×FnD [tPe] [Ty.bool]×Unit),(∀(g:PeD),g∈d.1->U.jx (d.2.1.1 (g,())))->(∀(g:PeD),g∈d.1->U.jx [U.jx (d.2.1.1 (g,()))])/\(!d.1.any (U.jb fun(a:PeD×Unit)=>(!U.jb d.2.1.2 a.1,())),())=(d.1.all (U.jb d.2.1.2),())
def jn0:jO:=⟨[.val .int],[.bool],false,fun _=>[],fun d=>(U.ja d.1 0 5,())⟩
def jnC:Prop:=∀(d:Int×Unit),(U.ja d.1 (0:Int) (5:Int),())=(U.ja d.1 (0:Int) (5:Int),())
def jnZ:jO:=⟨[.val .int],[.bool],false,fun _=>[],fun d=>(U.ja d.1 0 99,())⟩
def jnB:Prop:=∀(d:Int×Unit),(U.ja d.1 (0:Int) (99:Int),())=(U.ja d.1 (0:Int) (99:Int),())
def jnY:jO:=⟨[.val tPe,.ref tCr,.rfn [.int] [.bool],.rfn [.int] [.bool]],[.bool],false,fun d=>[∀g∈U.lv d.1,U.jx (d.2.2.1.pre (g,())),∀g∈U.zN d.1,U.jx (d.2.2.2.1.pre (g,()))],fun d=>(U.joR d.2.1 (U.jb d.2.2.1.F) (U.jb d.2.2.2.1.F) d.1,())⟩
def jnA:Prop:=∀(d:PeD×CrD×FnD [Ty.int] [Ty.bool]×FnD [Ty.int] [Ty.bool]×Unit),(∀(g:Int),g∈U.lv d.1->U.jx (d.2.2.1.1 (g,())))->(∀(g:Int),g∈U.zN d.1->U.jx (d.2.2.2.1.1 (g,())))->d.1.1.length<4611686018427387904->(decide ((d.1.1.length:Int)=d.2.1.1)=true->∀(g:Int),g∈d.1.1->U.jx (d.2.2.1.1 (g,())))/\(((decide ((d.1.1.length:Int)=d.2.1.1)&&d.1.1.all (U.jb d.2.2.1.2)&&U.ja d.1.2.1 (0:Int) (255:Int)&&U.ja d.1.2.2.1 (0:Int) (255:Int))=true->d.1.2.2.2.1.length<4611686018427387904)->((decide ((d.1.1.length:Int)=d.2.1.1)&&d.1.1.all (U.jb d.2.2.1.2)&&U.ja d.1.2.1 (0:Int) (255:Int)&&U.ja d.1.2.2.1 (0:Int) (255:Int)&&decide ((d.1.2.2.2.1.length:Int)<=10))=true->∀(g:Int),g∈d.1.2.2.2.1->U.jx (d.2.2.2.1.1 (g,())))/\(decide ((d.1.1.length:Int)=d.2.1.1)&&d.1.1.all (U.jb d.2.2.1.2)&&U.ja d.1.2.1 (0:Int) (255:Int)&&U.ja d.1.2.2.1 (0:Int) (255:Int)&&decide ((d.1.2.2.2.1.length:Int)<=10)&&d.1.2.2.2.1.all (U.jb d.2.2.2.1.2)&&U.ja d.1.2.2.2.2.2.1 (0:Int) (1000:Int),())=(U.joR d.2.1 (U.jb d.2.2.1.2) (U.jb d.2.2.2.1.2) d.1,()))
def jnX:jO:=⟨[.val tLw],[.bool],false,fun _=>[],fun d=>(U.yQ d.1,())⟩
def jnz:Prop:=∀(d:LwD×Unit),(U.ja d.1.1 (1:Int) (5:Int)&&U.ja d.1.2.1 (1:Int) (8:Int),())=(U.yQ d.1,())
def jnW:jO:=⟨[.val .int,.ref tCr],[.bool],false,fun d=>[jA (U.la d.2.1-1)],fun d=>(U.ja d.1 0 (U.la d.2.1-1),())⟩
def jny:Prop:=∀(d:Int×CrD×Unit),jA (U.la d.2.1-1)->jA (d.2.1.1-1)/\(U.ja d.1 (0:Int) (d.2.1.1-1),())=(U.ja d.1 (0:Int) (U.la d.2.1-1),())
def jtC:jO:=⟨[.val tCr,.val tJb],[.int],false,fun _=>[],fun d=>(U.zP d.1 d.2.1,())⟩
abbrev q22_0 (d:CrD×JbD×Unit):=(!U.ja d.2.1.1 (0:Int) (U.la d.1-1)|| !U.ja d.2.1.2.1 (0:Int) (U.la d.1-1)||decide (d.2.1.1=d.2.1.2.1)|| !U.ja d.2.1.2.2.1 (0:Int) (99:Int)|| !U.ja d.2.1.2.2.2.1 (0:Int) (7:Int)|| !U.ja d.2.1.2.2.2.2.1 (0:Int) (3:Int)|| !U.ja d.2.1.2.2.2.2.2.1 (1:Int) (8:Int))
abbrev q22_1 (d:CrD×JbD×Unit):=(8<(d.1.2.1.length:Int))
def jtk:Prop:=∀(d:CrD×JbD×Unit),((!!U.ja d.1.1 (2:Int) (5:Int))=true->d.1.2.1.length<4611686018427387904)->((!(!U.ja d.1.1 (2:Int) (5:Int)||decide (q22_1 d)))=true->∀(g:PeD),g∈d.1.2.1->U.jx [∀(b:Int),b∈U.lv g->U.jx [],∀(b:Int),b∈U.zN g->U.jx []])/\(((!(!U.ja d.1.1 (2:Int) (5:Int)||decide (q22_1 d)|| !d.1.2.1.all (U.jb fun(a:PeD×Unit)=>(U.joR d.1 (U.jb fun(a:Int×Unit)=>(U.ja a.1 (0:Int) (5:Int),())) (U.jb fun(a:Int×Unit)=>(U.ja a.1 (0:Int) (99:Int),())) a.1,()))))=true->d.1.2.2.1.length<4611686018427387904)->((!(!U.ja d.1.1 (2:Int) (5:Int)||decide (q22_1 d)|| !d.1.2.1.all (U.jb fun(c:PeD×Unit)=>(U.joR d.1 (U.jb fun(c:Int×Unit)=>(U.ja c.1 (0:Int) (5:Int),())) (U.jb fun(c:Int×Unit)=>(U.ja c.1 (0:Int) (99:Int),())) c.1,()))||decide ((d.1.2.2.1.length:Int)≠4)))=true->∀(g:LwD),g∈d.1.2.2.1->U.jx [])/\((!U.ja d.1.1 (2:Int) (5:Int)||decide (q22_1 d)|| !d.1.2.1.all (U.jb fun(e:PeD×Unit)=>(U.joR d.1 (U.jb fun(e:Int×Unit)=>(U.ja e.1 (0:Int) (5:Int),())) (U.jb fun(e:Int×Unit)=>(U.ja e.1 (0:Int) (99:Int),())) e.1,()))||decide ((d.1.2.2.1.length:Int)≠4)|| !d.1.2.2.1.all (U.jb fun(h:LwD×Unit)=>(U.yQ h.1,())))=true->((30:Int),())=(U.zP d.1 d.2.1,()))/\((!U.ja d.1.1 (2:Int) (5:Int)||decide (q22_1 d)|| !d.1.2.1.all (U.jb fun(f:PeD×Unit)=>(U.joR d.1 (U.jb fun(f:Int×Unit)=>(U.ja f.1 (0:Int) (5:Int),())) (U.jb fun(f:Int×Unit)=>(U.ja f.1 (0:Int) (99:Int),())) f.1,()))||decide ((d.1.2.2.1.length:Int)≠4)|| !d.1.2.2.1.all (U.jb fun(i:LwD×Unit)=>(U.yQ i.1,())))=false->jA (U.la d.1-1)/\((!!U.ja d.2.1.1 (0:Int) (U.la d.1-1))=true->jA (U.la d.1-1))/\((q22_0 d)=true->((31:Int),())=(U.zP d.1 d.2.1,()))/\((q22_0 d)=false->((0:Int),())=(U.zP d.1 d.2.1,()))))
end Go.X
namespace Go.X
open Go.Proofs
theorem jug:jp2:=by
 intro d;rfl
theorem wu:ze PR 126 jqo:=jL jug Tryz.func126 kcN koN
theorem jrj:jnx:=by
 intro d a b;exact⟨a,b,rfl⟩
theorem joC:ze PR 190 ja2:=jL jrj Tryz.func190 kcN koN
theorem jpa:jl6:=by
 rintro⟨s,⟨⟩⟩ e;refine⟨⟨(s,0),⟨⟨rfl,rfl,trivial⟩,trivial⟩,e,by simp⟩,?_⟩;rintro⟨x,n⟩ ⟨a,b⟩;have a:BT.Set' x:=a;have g:=BT.size_le s;have f:=BT.size_le x;refine⟨fun h=> ?_,fun h=> ?_⟩
 .have h:x≠0:=of_decide_eq_true h;obtain⟨d,i,j⟩:=BT.pred a h;have c:=a;unfold BT.Set' at c;simp only at b⊢;exact⟨L.in64 (by omega) (by omega),by omega,by omega,(wg x (x-1),n+1),⟨⟨rfl,rfl,trivial⟩,trivial⟩,⟨d,(by omega:n+1+BT.size (wg x (x-1))=BT.size s)⟩,(by unfold BT.Set' at d;omega:(wg x (x-1)).toNat<x.toNat)⟩
 .have h:x=0:=(by simpa using h);subst h;simp only[BT.size_zero] at b;simp only at b⊢;rw[show n=BT.size s by omega]
theorem jmG:ze PR 156 kY:=wa jnm jpa Tryz.func156 kcN koN
theorem jw2:jtj:=by
 rintro⟨b,⟨⟩⟩;exact⟨fun h=>by simp only at h;subst h;rfl,fun h=>by simp only at h;subst h;rfl⟩
theorem jtW:ze PR 153 jtB:=jL jw2 Tryz.func153 kcN koN
theorem je4:jcU:=by
 rintro⟨l,f,⟨⟩⟩ a g;refine⟨⟨0,⟨⟨rfl,trivial⟩,trivial⟩,jDV _,fun b c=>by omega⟩,fun i hi=>⟨fun h=> ?_,fun h=> ?_⟩⟩
 .have h:i<l.length:=(by simpa using h);simp only[jDN] at*;refine⟨by omega,by omega,wx _ (a _ (L.mem_nth h)) ⟨fun c=> ?_,fun c=>⟨L.in64 (by omega) (by omega),i+1,⟨⟨by simp,trivial⟩,trivial⟩,⟨by omega,fun b d=> ?_⟩,by omega⟩⟩⟩
  .rw[wC (p:=U.jb (α:=Int) f.F) h hi.2 c]
  .by_cases e:b=i
   .subst e;exact c
   .exact hi.2 b (by omega)
 .have h:l.length<=i:=(by simpa using h);rw[kr (p:=U.jb (α:=Int) f.F) h hi.2]
theorem jdl:ze PR 158 jc5:=wa jdS je4 Tryz.func158 kcN koN
theorem jbA:jaC:=by
 rintro⟨l,f,⟨⟩⟩ a;refine⟨a,?_⟩;exact congrArg (·,()) (jby (U.jb (α:=Int) f.F) l)
theorem wX:ze PR 124 jaH:=jL jbA Tryz.func124 (kcC jdl kcN) koN
theorem je5:jcV:=by
 rintro⟨l,f,⟨⟩⟩ a g;refine⟨⟨0,⟨⟨rfl,trivial⟩,trivial⟩,jDV _,fun b c=>by omega⟩,fun i hi=>⟨fun h=> ?_,fun h=> ?_⟩⟩
 .have h:i<l.length:=(by simpa using h);simp only[jDN] at*;refine⟨by omega,by omega,wx _ (a _ (L.mem_nth h)) ⟨fun c=> ?_,fun c=>⟨L.in64 (by omega) (by omega),i+1,⟨⟨by simp,trivial⟩,trivial⟩,⟨by omega,fun b d=> ?_⟩,by omega⟩⟩⟩
  .rw[wC (p:=U.jb (α:=LwD) f.F) h hi.2 c]
  .by_cases e:b=i
   .subst e;exact c
   .exact hi.2 b (by omega)
 .have h:l.length<=i:=(by simpa using h);rw[kr (p:=U.jb (α:=LwD) f.F) h hi.2]
theorem jdm:ze PR 194 jc6:=wa jdT je5 Tryz.func194 kcN koN
theorem jbB:jaD:=by
 rintro⟨l,f,⟨⟩⟩ a;refine⟨a,?_⟩;exact congrArg (·,()) (jby (U.jb (α:=LwD) f.F) l)
theorem jaK:ze PR 162 jaI:=jL jbB Tryz.func162 (kcC jdm kcN) koN
theorem jbz:jaB:=by
 rintro⟨l,f,⟨⟩⟩ a g;refine⟨⟨0,⟨⟨rfl,trivial⟩,trivial⟩,jDV _,fun b c=>by omega⟩,fun i hi=>⟨fun h=> ?_,fun h=> ?_⟩⟩
 .have h:i<l.length:=(by simpa using h);simp only[jDN] at*;refine⟨by omega,by omega,wx _ (a _ (L.mem_nth h)) ⟨fun c=> ?_,fun c=>⟨L.in64 (by omega) (by omega),i+1,⟨⟨by simp,trivial⟩,trivial⟩,⟨by omega,fun b d=> ?_⟩,by omega⟩⟩⟩
  .rw[wC (p:=U.jb (α:=PeD) f.F) h hi.2 c]
  .by_cases e:b=i
   .subst e;exact c
   .exact hi.2 b (by omega)
 .have h:l.length<=i:=(by simpa using h);rw[kr (p:=U.jb (α:=PeD) f.F) h hi.2]
theorem jaJ:ze PR 193 jaG:=wa jaP jbz Tryz.func193 kcN koN
theorem yZ:yf:=by
 rintro⟨l,f,⟨⟩⟩ a;refine⟨a,?_⟩;exact congrArg (·,()) (jby (U.jb (α:=PeD) f.F) l)
theorem yn:ze PR 160 yh:=jL yZ Tryz.func160 (kcC jaJ kcN) koN
theorem jjt:jg1:=by
 intro d h;exact wx _ h rfl
theorem jht:ze PR 159 jhd:=jL jjt Tryz.func159 kcN koN
theorem jmZ:jkg:=by
 intro d h;exact⟨fun g a=>⟨h g a,trivial⟩,congrArg (·,()) (ji6 d.snd.fst.2 d.fst)⟩
theorem jkA:ze PR 129 jkp:=jL jmZ Tryz.func129 (kcC wX (kcC jht kcN)) koN
theorem jju:jg2:=by
 intro d h;exact wx _ h rfl
theorem jhu:ze PR 163 jhe:=jL jju Tryz.func163 kcN koN
theorem jm0:jkh:=by
 intro d h;exact⟨fun g a=>⟨h g a,trivial⟩,congrArg (·,()) (ji6 d.snd.fst.2 d.fst)⟩
theorem jkB:ze PR 133 jkq:=jL jm0 Tryz.func133 (kcC jaK (kcC jhu kcN)) koN
theorem je3:jcS:=by
 intro d h;exact wx _ h rfl
theorem jdk:ze PR 161 jc4:=jL je3 Tryz.func161 kcN koN
theorem jhI:jfG:=by
 intro d h;exact⟨fun g a=>⟨h g a,trivial⟩,congrArg (·,()) (ji6 d.snd.fst.2 d.fst)⟩
theorem jf0:ze PR 132 jfN:=jL jhI Tryz.func132 (kcC yn (kcC jdk kcN)) koN
theorem jro:jnC:=fun _=>rfl
theorem joI:ze PR 125 jn0:=jL jro Tryz.func125 (kcC wu kcN) koN
theorem jrn:jnB:=fun _=>rfl
theorem joH:ze PR 127 jnZ:=jL jrn Tryz.func127 (kcC wu kcN) koN
theorem jrm:jnA:=by
 rintro⟨p,c,f,g,⟨⟩⟩ a b _;exact⟨fun _=>a,fun _=>⟨fun _=>b,rfl⟩⟩
theorem joG:ze PR 128 jnY:=jL jrm Tryz.func128 (kcC wu (kcC jkA kcN)) koN
theorem jrl:jnz:=fun _=>rfl
theorem joF:ze PR 130 jnX:=jL jrl Tryz.func130 (kcC wu kcN) koN
theorem jrk:jny:=fun _ h=>⟨h,rfl⟩
theorem joE:ze PR 131 jnW:=jL jrk Tryz.func131 (kcC wu kcN) koN
theorem jAL (c:CrD) (p:PeD):U.joR c (fun x=>U.ja x 0 5) (fun x=>U.ja x 0 99) p=U.yo (U.la c) p:=by
 rw[jEm];simp only[U.joR,U.yo,U.ja,jDR,decide_eq_true_eq];constructor
 .rintro⟨⟨⟨⟨⟨⟨e,f⟩,a⟩,b⟩,k⟩,i⟩,d⟩;exact⟨⟨e,a.1,a.2,b.1,b.2,by omega,d.1,d.2⟩,f,i⟩
 .rintro⟨⟨e,a,g,b,h,k,d,j⟩,f,i⟩;exact⟨⟨⟨⟨⟨⟨e,f⟩,a,g⟩,b,h⟩,by omega⟩,i⟩,d,j⟩
theorem jBk (c:CrD):(((((!U.ja c.1 2 5||decide (8<((c.2.1.length:Nat):Int)))|| !c.2.1.all (U.yo (U.la c)))||decide (((c.2.2.1.length:Nat):Int)≠4))|| !c.2.2.1.all U.yQ))= !U.ju c:=by
 unfold U.ju;show _= !(decide (2<=c.1/\c.1<=5/\c.2.1.length<=8/\c.2.2.1.length=4)&&(c.2.1.all (U.yo (U.la c))&&c.2.2.1.all U.yQ));cases c.2.1.all (U.yo (U.la c))<;>cases c.2.2.1.all U.yQ<;>simp only[U.ja,Bool.not_true,Bool.not_false,Bool.or_true,Bool.or_false,Bool.and_true,Bool.and_false,Bool.true_or]
 rw[jEm];simp only[jE6,jEe,Bool.and_eq_false_iff,decide_eq_true_eq,decide_eq_false_iff_not];omega
theorem jCk (c:CrD) (j:JbD):((((((!U.ja j.1 0 (U.la c-1)|| !U.ja j.2.1 0 (U.la c-1))||decide (j.1=j.2.1))|| !U.ja j.2.2.1 0 99)|| !U.ja j.2.2.2.1 0 7)|| !U.ja j.2.2.2.2.1 0 3)|| !U.ja j.2.2.2.2.2.1 1 8)= !U.zu c j:=by
 have key:(U.zu c j=false)↔¬(0<=j.1/\j.1<=U.la c-1/\0<=j.2.1/\j.2.1<=U.la c-1/\j.1≠j.2.1/\0<=j.2.2.1/\j.2.2.1<=99/\0<=j.2.2.2.1/\j.2.2.2.1<=7/\0<=j.2.2.2.2.1/\j.2.2.2.2.1<=3/\1<=j.2.2.2.2.2.1/\j.2.2.2.2.2.1<=8):=by
  unfold U.zu;exact decide_eq_false_iff_not
 rw[jEm,jEe,key];simp only[U.ja,jE6,jEe,Bool.and_eq_false_iff,decide_eq_true_eq,decide_eq_false_iff_not];omega
theorem jw3:jtk:=by
 unfold jtk q22_1 q22_0;rintro⟨c,j,⟨⟩⟩;have f:∀p,U.jb (fun(x:PeD×Unit)=>(U.joR c (U.jb fun(x:Int×Unit)=>(U.ja x.fst 0 5,())) (U.jb fun(x:Int×Unit)=>(U.ja x.fst 0 99,())) x.fst,())) p=U.yo (U.la c) p:=fun p=>jAL c p
 have i:(U.jb fun(x:LwD×Unit)=>(U.yQ x.fst,()))=U.yQ:=rfl;have d:=jBk c;have e:=jCk c j;intro _;refine⟨fun _ g _=>⟨fun _ _=>trivial,fun _ _=>trivial,trivial⟩,fun _=> ?_⟩;simp only at d e⊢;rw[funext f,i,d,e];refine⟨fun _ _ _=>trivial,fun h=> ?_,fun h=> ?_⟩
 .have h:U.ju c=false:=(by simpa using h);unfold U.zP;rw[if_pos h]
 .have h:U.ju c=true:=(by simpa using h);have k:2<=U.la c/\U.la c<=5:=by
   unfold U.ju at h;simp only[jDR,decide_eq_true_eq] at h;exact⟨h.1.1,h.1.2.1⟩
  have b:jA (U.la c-1):=L.in64 (by omega) (by omega);refine⟨b,fun _=>b,fun a=> ?_,fun a=> ?_⟩
  .have a:U.zu c j=false:=(by simpa using a);unfold U.zP;rw[if_neg (by rw[h];simp),if_pos a]
  .have a:U.zu c j=true:=(by simpa using a);unfold U.zP;rw[if_neg (by rw[h];simp),if_neg (by rw[a];simp)]
theorem jlk:ze PR 85 jtC:=jL jw3 Tryz.func85 (kcC wu (kcC jf0 (kcC jkB (kcC joI (kcC joH (kcC joG (kcC joF (kcC joE kcN)))))))) koN
end Go.X
namespace Go.X
open Go.Proofs
abbrev tTk:Ty:= .st [tCr,tJb,tLw]
abbrev TkD:Type:=CrD×JbD×LwD×Unit
namespace U
def tk (o:Option TkD):TkD:=jQ (Ty.dflt tTk) o
def tc (t:TkD):CrD:=t.1
def tj (t:TkD):JbD:=t.2.1
def tl (t:TkD):LwD:=t.2.2.1
def jlj (c:CrD) (j:JbD):Option TkD:=if zP c j=0 then some (c,j,jyQ c j,()) else none
def vp (t:TkD):Prop:=ju (tc t)=true/\zu (tc t) (tj t)=true/\tl t=jyQ (tc t) (tj t)
def jty (a b c:Bool):Int:=jBQ a+2*jBQ b+4*jBQ c
def wi (t:TkD) (p:PeD):Int:=jty (jvh p (jBT (tj t))) (!jhG (fd p) (jBS (tj t))) (!jhG (cl p) (jBR (tj t)))
def jeW (t:TkD) (p:PeD):List (Int×Int):=[(0,jBQ (!jvh p (jBT (tj t)))),(1,vG (fd p/2^(jBS (tj t)).toNat) 1),(2,vG (cl p/2^(jBR (tj t)).toNat) 1)]
def qF (all left:List (Int×Int)) (out:Int):Prop:=BT.Set' out/\left.Nodup/\(∀e∈left,e∈all)/\∀p:Nat,BT.has out p=true↔∃e∈all,e∉left/\e.2=0/\e.1.toNat=p
def we (t:TkD) (s:Int) (n:Nat):List (Int×PeD×Unit):=((List.range n).filter (fun(i:Nat)=>jkI s (i:Int))).map (fun(i:Nat)=>((i:Int),nth (jj (tc t)) i,()))
def joZ (t:TkD) (s:Int):List (Int×PeD×Unit):=we t s (jj (tc t)).length
def jn (t:TkD) (a b:Int) (x:Int×PeD×Unit):Bool:=decide (jDu (tl t)<=min (nth (lv x.2.1) a.toNat) (nth (lv x.2.1) b.toNat))
def jdu (t:TkD) (s a b:Int):Bool:=(joZ t s).any (jn t a b)
def wI (t:TkD) (a b:Int) (q:List (Int×PeD×Unit)):Bool:=match q.getLast? with|some x=>jn t a b x|none=>false
end U
def jix:jO:=⟨[.val (.slice .int),.val .int],[.int],false,fun _=>[],fun d=>(U.gq (fun x=>decide (x=d.2.1)) d.1,())⟩
def jj7:Ann:=fun r=>match r with
 |2=>some fun σ=>{X:=Nat,sl:=fun i=>[(8,.dat .int (i:Int))],ob:=fun _=>[],inv:=fun i=>i<=(gd (.slice .int) σ 0).length/\∀b:Nat,b<i->decide (nth (gd (.slice .int) σ 0) b=gd .int σ 1)=false,mu:=fun i=>(gd (.slice .int) σ 0).length-i}
 |_=>none
def jii:Prop:=∀(d:List Int×Int×Unit),d.1.length<4611686018427387904->(∃(x:Nat),((0=(x:Int)/\True)/\True)/\x<=d.1.length/\∀(b:Nat),b<x->decide (nth d.1 b=d.2.1)=false)/\∀(x:Nat),(x<=d.1.length/\∀(b:Nat),b<x->decide (nth d.1 b=d.2.1)=false)->(decide ((x:Int)<(d.1.length:Int))=true->0<=(x:Int)/\(x:Int)<(d.1.length:Int)/\(decide (d.2.1=nth d.1 (x:Int).toNat)=true->((x:Int),())=(U.gq (fun(c:Int)=>decide (c=d.2.1)) d.1,()))/\(decide (d.2.1=nth d.1 (x:Int).toNat)=false->jA ((x:Int)+1)/\∃(a:Nat),(((x:Int)+1=(a:Int)/\True)/\True)/\(a<=d.1.length/\∀(b:Nat),b<a->decide (nth d.1 b=d.2.1)=false)/\d.1.length-a<d.1.length-x))/\(decide ((x:Int)<(d.1.length:Int))=false->((-1:Int),())=(U.gq (fun(e:Int)=>decide (e=d.2.1)) d.1,()))
def jej:jO:=⟨[.val (.slice .int),.val .int],[.bool],false,fun _=>[],fun d=>(d.1.any (fun x=>decide (x=d.2.1)),())⟩
def jd5:Prop:=∀(d:List Int×Int×Unit),(decide (0<=U.gq (fun(a:Int)=>decide (a=d.2.1)) d.1),())=(d.1.any fun(b:Int)=>decide (b=d.2.1),())
def jvy:jO:=⟨[.val tCr,.val tJb],[.ptr tTk,.int],false,fun _=>[],fun d=>(U.jlj d.1 d.2.1,U.zP d.1 d.2.1,())⟩
def jvc:Prop:=∀(d:CrD×JbD×Unit),(decide (U.zP d.1 d.2.1≠0)=true->(none,U.zP d.1 d.2.1,())=(U.jlj d.1 d.2.1,U.zP d.1 d.2.1,()))/\(decide (U.zP d.1 d.2.1≠0)=false->0<=d.2.1.2.2.2.2.1/\d.2.1.2.2.2.2.1<(d.1.2.2.1.length:Int)/\(some (d.1,d.2.1,nth d.1.2.2.1 d.2.1.2.2.2.2.1.toNat,()),(0:Int),())=(U.jlj d.1 d.2.1,U.zP d.1 d.2.1,()))
def LM (d:PD [.ref (.ptr tTk),.ref (.uint .u64)]) (xs:List (Ty.st [.int,tPe]).Data):Prop:=xs=U.joZ (U.tk d.1) d.2.1
def juZ (d:PD [.ref (.ptr tTk),.ref (.uint .u64)]):jib (YS [.int,tPe]):=fun r=>match r with
 |1=>some fun σ ys=>{X:=Nat,sl:=fun i=>[(12,.dat .int (i:Int))],ob:=fun _=>[],ys:=fun i=>(U.we (U.tk d.1) d.2.1 i,true),inv:=fun i=>i<=(U.jj (U.tc (U.tk d.1))).length,mu:=fun i=>(U.jj (U.tc (U.tk d.1))).length-i}
 |_=>none
abbrev q26_0 (d:Option (CrD×JbD×LwD×Unit)×Int×Unit):=(jQ (((0:Int),[],[],()),((0:Int),(0:Int),(0:Int),(0:Int),(0:Int),(0:Int),()),((0:Int),(0:Int),false,()),()) d.1)
abbrev q26_1 (d:Option (CrD×JbD×LwD×Unit)×Int×Unit):=(U.jj (U.tc (U.tk d.1)))
abbrev q26_2 (x:Nat)(d:Option (CrD×JbD×LwD×Unit)×Int×Unit):=((x:Int),nth (q26_0 d).1.2.1 (x:Int).toNat,())
abbrev q26_3 (x:Nat)(a:Nat):=(((x:Int)+1=(a:Int)/\True)/\True)
def q9:Prop:=∀(d:Option (CrD×JbD×LwD×Unit)×Int×Unit) (l:Nat),d.1.isSome=true->(q26_1 d).length<=60->d.1.isSome=true/\((q26_0 d).1.2.1.length<4611686018427387904->(∃(x:Nat),((0=(x:Int)/\True)/\True)/\([],true)=(U.we (U.tk d.1) d.2.1 x,true)/\x<=(q26_1 d).length)/\∀(x:Nat),x<=(q26_1 d).length->(decide ((x:Int)<(↑(q26_0 d).1.2.1.length:Int))=true->0<=(x:Int)/\(x:Int)<(↑(q26_0 d).1.2.1.length:Int)/\0<=(x:Int)/\(x:Int)<=64/\(U.jkI d.2.1 (x:Int)=true->l=l/\(∃(rest:List (Int×PeD×Unit)),U.we (U.tk d.1) d.2.1 x++[(q26_2 x d)]++rest=U.joZ (U.tk d.1) d.2.1)/\(((U.jkI d.2.1 (x:Int)&& !true)=true->true=true->U.we (U.tk d.1) d.2.1 x++[(q26_2 x d)]=U.joZ (U.tk d.1) d.2.1)/\((U.jkI d.2.1 (x:Int)&& !true)=false->jA ((x:Int)+1)/\∃(a:Nat),(q26_3 x a)/\(U.we (U.tk d.1) d.2.1 x++[(q26_2 x d)],true)=(U.we (U.tk d.1) d.2.1 a,true)/\a<=(q26_1 d).length/\(q26_1 d).length-a<(q26_1 d).length-x))/\((U.jkI d.2.1 (x:Int)&& !false)=true->false=true->U.we (U.tk d.1) d.2.1 x++[(q26_2 x d)]=U.joZ (U.tk d.1) d.2.1)/\((U.jkI d.2.1 (x:Int)&& !false)=false->jA ((x:Int)+1)/\∃(a:Nat),(q26_3 x a)/\(U.we (U.tk d.1) d.2.1 x++[(q26_2 x d)],false)=(U.we (U.tk d.1) d.2.1 a,true)/\a<=(q26_1 d).length/\(q26_1 d).length-a<(q26_1 d).length-x))/\(U.jkI d.2.1 (x:Int)=false->((U.jkI d.2.1 (x:Int)&& !false)=true->true=true->U.we (U.tk d.1) d.2.1 x=U.joZ (U.tk d.1) d.2.1)/\((U.jkI d.2.1 (x:Int)&& !false)=false->jA ((x:Int)+1)/\∃(a:Nat),(q26_3 x a)/\(U.we (U.tk d.1) d.2.1 x,true)=(U.we (U.tk d.1) d.2.1 a,true)/\a<=(q26_1 d).length/\(q26_1 d).length-a<(q26_1 d).length-x)))/\(decide ((x:Int)<(↑(q26_0 d).1.2.1.length:Int))=false->true=true->U.we (U.tk d.1) d.2.1 x=U.joZ (U.tk d.1) d.2.1))
theorem jaA:(jyp (ctx 28 [(190,ja2)] []) (zw Tryz.f189) [.int,tPe] [.ref (.ptr tTk),.ref (.uint .u64)] LM (fun d=>[d.1.isSome=true,(U.jj (U.tc (U.tk d.1))).length<=60]) (fun d _=>juZ d) (fun d l=>hkY [.int,tPe] l [24] (fun q=>∃rest,LM d (q++rest)) (fun _=>none)))=q9:=by kernel_rfl
def jB:jdZ:=⟨[.val (.ptr tTk),.val (.uint .u64)],fun _=>[],189,[.ptr tTk,.uint .u64],fun d=>(d.1,d.2.1,())⟩
def yu:Prop:=∀(d:Option (CrD×JbD×LwD×Unit)×Int×Unit),d=d
theorem jce:(jxN (ctx 6 [] []) (fun _=>none) Tryz.f155 (zw Tryz.f155) jB)=yu:=by kernel_rfl
def jsH (sv:SV):Option (Prop×(List (Ty.st [.int,tPe]).Data->Prop)):=match sv with
 | .clo 189 [.ep b t,.ep c s]=>(match j0 b (.ptr tTk) t,j0 c (.uint .u64) s with
  |some a,some d=>some ((a.isSome=true/\(U.jj (U.tc (U.tk a))).length<=60),fun xs=>xs=U.joZ (U.tk a) d)
  |_,_=>none)
 |_=>none
def jvT:jpO [.int,tPe]:={ps:=[.ref (.ptr tTk),.ref .int,.ref .int,.own (.box 4 [.dat .bool]) true],slots:=[4,6,7,8],dst:=34,pre:=fun _=>[],G:=fun d q=>((d.2.2.2.1.1||U.wI (U.tk d.1) d.2.1 d.2.2.1 q,()),()),stop:=fun d q=>U.wI (U.tk d.1) d.2.1 d.2.2.1 q,seq:=jsH}
def jir:Nat->Option ((ts:List Ty)×jpO ts):=fun r=>match r with
 |3=>some ⟨[.int,tPe],jvT⟩
 |_=>none
def jao:jO:=⟨[.val (.ptr tTk),.val (.uint .u64),.val .int,.val .int],[.bool],false,
 fun d=>[d.1.isSome=true,U.vp (U.tk d.1),0<=d.2.2.1,d.2.2.1<U.la (U.tc (U.tk d.1)),0<=d.2.2.2.1,d.2.2.2.1<U.la (U.tc (U.tk d.1))],fun d=>(U.jdu (U.tk d.1) d.2.1 d.2.2.1 d.2.2.2.1,())⟩
abbrev q28_0 (d:Option (CrD×JbD×LwD×Unit)×Int×Int×Int×Unit)(x:Int×PeD×Unit):=((jQ (((0:Int),[],[],()),((0:Int),(0:Int),(0:Int),(0:Int),(0:Int),(0:Int),()),((0:Int),(0:Int),false,()),()) d.1).2.2.1.1<=min (nth x.2.1.1 d.2.2.1.toNat) (nth x.2.1.1 d.2.2.2.1.toNat))
def jak:Prop:=∀(d:Option (CrD×JbD×LwD×Unit)×Int×Int×Int×Unit),d.1.isSome=true->U.vp (U.tk d.1)->0<=d.2.2.1->d.2.2.1<U.la (U.tc (U.tk d.1))->0<=d.2.2.2.1->d.2.2.2.1<U.la (U.tc (U.tk d.1))->(d.1.isSome=true/\(U.jj (U.tc (U.tk d.1))).length<=60)/\True/\(d.1,d.2.2.1,d.2.2.2.1,(false||U.wI (U.tk d.1) d.2.2.1 d.2.2.2.1 [],()),())=(d.1,d.2.2.1,d.2.2.2.1,(false,()),())/\(∀(q:List (Int×PeD×Unit)) (x:Int×PeD×Unit) (rest:List (Int×PeD×Unit)),q++x::rest=U.joZ (U.tk d.1) d.2.1->kI (fun(a:List (Int×PeD×Unit))=>U.wI (U.tk d.1) d.2.2.1 d.2.2.2.1 a) q->0<=d.2.2.1/\d.2.2.1<(x.2.1.1.length:Int)/\0<=d.2.2.2.1/\d.2.2.2.1<(x.2.1.1.length:Int)/\d.1.isSome=true/\(decide (q28_0 d x)=true->U.wI (U.tk d.1) d.2.2.1 d.2.2.2.1 (q++[x])=true/\((true,()),())=((false||U.wI (U.tk d.1) d.2.2.1 d.2.2.2.1 (q++[x]),()),()))/\(decide (q28_0 d x)=false->U.wI (U.tk d.1) d.2.2.1 d.2.2.2.1 (q++[x])=false/\((false||U.wI (U.tk d.1) d.2.2.1 d.2.2.2.1 q,()),())=((false||U.wI (U.tk d.1) d.2.2.1 d.2.2.2.1 (q++[x]),()),())))/\(∀(xs:List (Int×PeD×Unit)),xs=U.joZ (U.tk d.1) d.2.1->kI (fun(b:List (Int×PeD×Unit))=>U.wI (U.tk d.1) d.2.2.1 d.2.2.2.1 b) xs->(false,())=(U.jdu (U.tk d.1) d.2.1 d.2.2.1 d.2.2.2.1,()))/\∀(q:List (Int×PeD×Unit)) (x:Int×PeD×Unit) (rest:List (Int×PeD×Unit)),q++x::rest=U.joZ (U.tk d.1) d.2.1->kI (fun(c:List (Int×PeD×Unit))=>U.wI (U.tk d.1) d.2.2.1 d.2.2.2.1 c) q->U.wI (U.tk d.1) d.2.2.1 d.2.2.2.1 (q++[x])=true->(false||U.wI (U.tk d.1) d.2.2.1 d.2.2.2.1 (q++[x]),())=(U.jdu (U.tk d.1) d.2.1 d.2.2.1 d.2.2.2.1,())
theorem jcQ:(jsu (jpX 33 [] [] [(155,jB)] []) jao (fun _ _=>none) (hkC (jpX 33 [] [] [(155,jB)] []) (fun _=>none) jir [] []) Tryz.f192 (zw Tryz.f192))=jak:=by kernel_rfl
end Go.X
namespace Go.X
open Go.Proofs
theorem jkK:jii:=by
 rintro⟨l,x,⟨⟩⟩ d;refine⟨⟨0,⟨⟨rfl,trivial⟩,trivial⟩,jDV _,fun b a=>by omega⟩,fun i hi=>⟨fun h=> ?_,fun h=> ?_⟩⟩
 .have h:i<l.length:=(by simpa using h);simp only[jDN] at*;refine⟨by omega,by omega,fun a=> ?_,fun a=>⟨L.in64 (by omega) (by omega),i+1,⟨⟨by simp,trivial⟩,trivial⟩,⟨by omega,fun b c=> ?_⟩,by omega⟩⟩
  .rw[wC (p:=fun y=>decide (y=x)) h hi.2 (by have:=of_decide_eq_true a;rw[<-this];exact decide_eq_true rfl)]
  .by_cases e:b=i
   .subst e;exact decide_eq_false (fun e=>of_decide_eq_false a e.symm)
   .exact hi.2 b (by omega)
 .have h:l.length<=i:=(by simpa using h);rw[kr (p:=fun y=>decide (y=x)) h hi.2]
theorem jiV:ze PR 145 jix:=wa jj7 jkK Tryz.func145 kcN koN
theorem jgg:jd5:=by
 rintro⟨l,x,⟨⟩⟩;exact congrArg (·,()) (jby (fun y=>decide (y=x)) l)
theorem vW:ze PR 105 jej:=jL jgg Tryz.func105 (kcC jiV kcN) koN
theorem jdK {c:CrD} {j:JbD} (h:U.zP c j=0):U.ju c=true/\U.zu c j=true:=by
 unfold U.zP at h
 split at h
 .omega
 .split at h
  .omega
  .rename_i a b;exact⟨by simpa using a,by simpa using b⟩
theorem jI {c:CrD} (h:U.ju c=true):2<=U.la c/\U.la c<=5/\(U.jj c).length<=8/\(U.zm c).length=4/\(∀p∈U.jj c,U.yo (U.la c) p=true)/\∀l∈U.zm c,U.yQ l=true:=by
 unfold U.ju at h;simp only[jDR,decide_eq_true_eq,jEp] at h;exact⟨h.1.1,h.1.2.1,h.1.2.2.1,h.1.2.2.2,h.2.1,h.2.2⟩
theorem jeY {c:CrD} {j:JbD} (h:U.zu c j=true):(0<=U.jA1 j/\U.jA1 j<U.la c)/\(0<=U.jue j/\U.jue j<U.la c)/\U.jA1 j≠U.jue j/\(0<=U.jBS j/\U.jBS j<=7)/\(0<=U.jBR j/\U.jBR j<=3)/\(1<=U.jC9 j/\U.jC9 j<=8):=by
 unfold U.zu at h;have h:=of_decide_eq_true h;obtain⟨d,m,e,n,f,_,_,g,i,k,l,a,b⟩:=h;exact⟨⟨d,by omega⟩,⟨e,by omega⟩,f,⟨g,i⟩,⟨k,l⟩,a,b⟩
theorem jwa {c:CrD} {j:JbD} (h:U.zP c j=0):U.jlj c j=some (c,j,U.jyQ c j,())/\U.vp (c,j,U.jyQ c j,()):=by
 obtain⟨a,b⟩:=jdK h;exact⟨by unfold U.jlj;rw[if_pos h],a,b,rfl⟩
theorem jyZ:jvc:=by
 rintro⟨c,j,⟨⟩⟩;refine⟨fun h=> ?_,fun h=> ?_⟩
 .have h:U.zP c j≠0:=of_decide_eq_true h;simp only;unfold U.jlj;rw[if_neg h]
 .have h:U.zP c j=0:=(by simpa using h);obtain⟨b,d⟩:=jdK h;obtain⟨_,_,_,a,_⟩:=jI b;obtain⟨_,_,_,_,hk,_⟩:=jeY d;have hk:0<=j.2.2.2.2.1/\j.2.2.2.2.1<=3:=hk;have a:c.2.2.1.length=4:=a;refine⟨hk.1,by simp only;omega,?_⟩;simp only;rw[(jwa h).1,h];rfl
theorem joD:ze PR 117 jvy:=jL jyZ Tryz.func117 (kcC jlk kcN) koN
theorem jf7 (t:TkD) (s:Int) (n:Nat):U.we t s (n+1)=U.we t s n++(if U.jkI s (n:Int)=true then[((n:Int),nth (U.jj (U.tc t)) n,())] else[]):=by
 unfold U.we;rw[L.range_filter_succ,jEH]
 split<;>simp
theorem jwB (t:TkD) (s:Int) {n m:Nat} (h:n<=m):∃rest,U.we t s n++rest=U.we t s m:=by
 induction m with
 |zero=>
  have:n=0:=(by omega);subst this;exact⟨[],by simp⟩
 |succ m b=>
  by_cases e:n=m+1
  .subst e;exact⟨[],by simp⟩
  .obtain⟨r,a⟩:=b (by omega);rw[jf7,<-a];exact⟨r++_,by rw[jD3]⟩
theorem je2:q9:=by
 unfold q9 q26_3 q26_2 q26_1 q26_0;rintro⟨(_|t),s,⟨⟩⟩ l i e
 .cases i
 have e:(U.jj (U.tc t)).length<=60:=e;refine⟨rfl,fun _=>⟨⟨0,⟨⟨rfl,trivial⟩,trivial⟩,rfl,jDV _⟩,fun x g=> ?_⟩⟩;have g:x<=(U.jj (U.tc t)).length:=g;have c:U.tk (some t)=t:=rfl;refine⟨fun h=> ?_,fun h=> ?_⟩
 .have h:x<(U.jj (U.tc t)).length:=by
   have:=of_decide_eq_true h;have this:(x:Int)<((U.jj (U.tc t)).length:Int):=this;omega
  have j:(x:Int)<((U.jj (U.tc t)).length:Int):=(by omega);refine⟨by omega,j,by omega,by omega,fun b=> ?_,fun b=> ?_⟩
  .have d:U.we t s (x+1)=U.we t s x++[((x:Int),nth (U.jj (U.tc t)) x,())]:=(by rw[jf7,if_pos b]);obtain⟨r,f⟩:=jwB t s (show x+1<=(U.jj (U.tc t)).length by omega);refine⟨rfl,⟨r,by rw[d] at f;exact f⟩,⟨fun a=>absurd a (by rw[Bool.not_true,Bool.and_false];simp),fun _=>⟨L.in64 (by omega) (by omega),x+1,⟨⟨by omega,trivial⟩,trivial⟩,?_,(show x+1<=(U.jj (U.tc t)).length by omega),(show(U.jj (U.tc t)).length-(x+1)<(U.jj (U.tc t)).length-x by omega)⟩⟩,
    fun _ a=>(by cases a),fun a=> ?_⟩
   .rw[c,d];rfl
   .rw[Bool.not_false,Bool.and_true] at a;exact absurd b (by simp only at a⊢;rw[a];simp)
  .have d:U.we t s (x+1)=U.we t s x:=by
    rw[jf7,if_neg (by simp only at b⊢;rw[b];simp),jEg]
   refine⟨fun a=> ?_,fun _=>⟨L.in64 (by omega) (by omega),x+1,⟨⟨by omega,trivial⟩,trivial⟩,?_,(show x+1<=(U.jj (U.tc t)).length by omega),(show(U.jj (U.tc t)).length-(x+1)<(U.jj (U.tc t)).length-x by omega)⟩⟩
   .rw[Bool.not_false,Bool.and_true] at a;exact absurd a (by simp only at b⊢;rw[b];simp)
   .rw[c,d]
 .have h:(U.jj (U.tc t)).length<=x:=by
   have:=of_decide_eq_false h;have this:¬(x:Int)<((U.jj (U.tc t)).length:Int):=this;omega
  intro _;rw[show x=(U.jj (U.tc t)).length by omega];rfl
theorem jqG {H:Imm} {lb:Array Value} {d:PD [.ref (.ptr tTk),.ref (.uint .u64)]} (g:pvs PR H [.ref (.ptr tTk),.ref (.uint .u64)] lb.toList d) (a:d.1.isSome=true) (b:(U.jj (U.tc (U.tk d.1))).length<=60):jzy PR H [.int,tPe] (LM d) (.func (.func 189) #[] lb):=
 jzN (C:=ctx 28 [(190,ja2)] []) (jjW ⟨fun _=>joC,trivial⟩ trivial) mixed Tryz.func189 (by kernel_rfl) (by kernel_rfl) (by kernel_rfl) (by kernel_rfl) (by decide) (jaA.mpr je2) (fun d l B0 R h c e f=>jB9 c f) g ⟨a,b,trivial⟩
theorem jhH:yu:=by intro d;rfl
theorem yL:jpR PR 155 jB:=jCa (jce.mpr jhH) Tryz.func155 (by kernel_rfl) (by kernel_rfl) (by kernel_rfl) (by kernel_rfl) trivial trivial
theorem jAN:∀(f:Nat) (p:Nat×jdW),js ([]:List (Nat×Nat×jdW)) f=some p->ROK PR f p.2:=fun _ _ h=>by cases h
theorem joY {sv:SV} {h:Prop} {L:List (Ty.st [.int,tPe]).Data->Prop} {v:Value} {ρ:Env} (a:jsH sv=some (h,L)) (b:h) (g:SV.den PR ρ sv v):jzy PR ρ.H [.int,tPe] L v:=by
 unfold jsH at a
 split at a
 case h_2=>cases a
 rename_i o t p s
 split at a
 case h_2=>cases a
 rename_i w u n f;simp only[Option.some.injEq,Prod.mk.injEq] at a;obtain⟨rfl,rfl⟩:=a;obtain⟨e,rfl⟩:=jh n;subst e;obtain⟨i,rfl⟩:=jh f;subst i;simp only[SV.den,SV.denL] at g;obtain⟨lb,rfl,x,r,m,j,y,q,c,k,l⟩:=g;exact jqG (d:=(t,s,())) (by rw[m,c,l];exact⟨j,k,rfl⟩) b.1 b.2
theorem jeU (t:TkD) (a b:Int) (q:List (Int×PeD×Unit)) (x:Int×PeD×Unit):U.wI t a b (q++[x])=U.jn t a b x:=by
 unfold U.wI;rw[List.getLast?_append];simp
theorem jqf {t:TkD} {a b:Int} {q:List (Int×PeD×Unit)} (h:kI (fun q=>U.wI t a b q) q):q.any (U.jn t a b)=false:=by
 rw[jEA];intro x c;obtain⟨u,v,rfl⟩:=List.append_of_mem c;have:=h u x v rfl;simp only[jeU] at this;rw[this];simp
theorem jt9 {t:TkD} {s:Int} {x:Int×PeD×Unit} (h:x∈U.joZ t s):x.2.1∈U.jj (U.tc t):=by
 unfold U.joZ U.we at h;obtain⟨i,hi,rfl⟩:=jEl.1 h;have:=jD8.1 (jEb.1 hi).1;exact L.mem_nth this
theorem jAK {n:Int} {p:PeD} (h:U.yo n p=true):((U.lv p).length:Int)=n:=by
 unfold U.yo at h;simp only[jDR,decide_eq_true_eq] at h;exact h.1.1
theorem jjr:jak:=by
 unfold jak q28_0;rintro⟨(_|t),s,a,b,⟨⟩⟩ r l v f w g
 .cases r
 obtain⟨c1,c2,A⟩:=l;have c1:U.ju (U.tc t)=true:=c1;obtain⟨B,C,D,E,p,F⟩:=jI c1;have k:(U.jj (U.tc t)).length<=60:=(by omega);have c:U.tk (some t)=t:=rfl;refine⟨⟨rfl,k⟩,trivial,rfl,fun q x rest i e=> ?_,fun xs j e=> ?_,fun q x rest i e d=> ?_⟩
 .have z:x∈U.joZ t s:=(by rw[c] at i;rw[<-i];simp);have o:=jAK (p _ (jt9 z));have o:((x.2.1.1.length:Nat):Int)=U.la (U.tc t):=o;have f:a<U.la (U.tc t):=f;have g:b<U.la (U.tc t):=g;have m:U.wI t a b q=false:=by
   cases n:q.getLast? with
   |none=>unfold U.wI;rw[n]
   |some y=>
    obtain⟨u,rfl⟩:=List.getLast?_eq_some_iff.1 n;have:=e u y [] rfl;exact this
  refine⟨v,by simp only;omega,w,by simp only;omega,rfl,fun h=> ?_,fun h=> ?_⟩
  .have h:U.jn t a b x=true:=h;have:U.wI t a b (q++[x])=true:=(by rw[jeU];exact h);rw[c];simp only;exact⟨this,by rw[this];rfl⟩
  .have h:U.jn t a b x=false:=h;have:U.wI t a b (q++[x])=false:=(by rw[jeU];exact h);rw[c];simp only;exact⟨this,by rw[this,m]⟩
 .rw[c] at j e;subst j;have:=jqf e;simp only;rw[c];unfold U.jdu;rw[this]
 .rw[c] at i d⊢;simp only at d⊢;rw[d];unfold U.jdu;rw[<-i];rw[jeU] at d;simp[d]
theorem jpA:(jpX 33 [] [] [(155,jB)] []).ok PR:=jrT trivial trivial ⟨yL,trivial⟩ trivial
theorem jhr:ze PR 192 jao:=
 jvV (body:=zw Tryz.f192) (C:=jpX 33 [] [] [(155,jB)] []) (hk:=hkC (jpX 33 [] [] [(155,jB)] []) (fun _=>none) jir [] []) jpA mixed Tryz.func192 (by kernel_rfl) (by kernel_rfl) (by kernel_rfl) (by decide)
  (fun B=>jlE jpA mixed (fun k ts rs sv d L v ρ hk c a b=>by
   unfold jir at hk
   split at hk
   case h_2=>cases hk
   simp only[Option.some.injEq] at hk
   cases hk
   exact joY c a b) jAN B) (jcQ.mpr jjr)
end Go.X
namespace Go.X
open Go.Proofs
namespace U
def wT (x:Int) (N n:Nat):List Int:=List.replicate n x++List.replicate (N-n) 0
def ju6 (t:TkD) (c:Int) (a b:Nat):Bool:=jdu t c (a:Int) (b:Int)
def jbH (t:TkD) (a:Int):List Int:=bfs (ju6 t a) (la (tc t)).toNat (jue (tj t)).toNat
def jJ (t:TkD) (a:Int) (k:Nat):List Int×List Int:=qD (ju6 t a) (la (tc t)).toNat (jue (tj t)).toNat k
def wn (t:TkD) (a:Int) (x:List Int×List Int) (i:Nat):List Int×List Int:=jft (ju6 t a) (nth x.2 0).toNat x i
def jBU (t:TkD) (a:Int) (x:List Int×List Int) (lo:Nat):Prop:=jBW (ju6 t a) (la (tc t)).toNat (jue (tj t)).toNat x/\x.2≠[]/\x.2.length<=10/\lo<=10
end U
def glo (σ:St) (s:Nat):Nat:=match σ.get s with
 | .osl _ _ lo _=>lo
 |_=>0
def jmj:jO:=⟨[.val (.uint .u64),.val (.uint .u64)],[.uint .u64,.uint .u64],false,fun d=>[0<=d.1,d.1<=1000,0<=d.2.1,d.2.1<=1000],fun d=>((0:Int),d.1*d.2.1,())⟩
abbrev q29_0 (d:Int×Int×Unit):=(d.1/(2:Int)^Int.toNat 32*wg d.2.1 (4294967295:Int)+wg d.1 (4294967295:Int)*wg d.2.1 (4294967295:Int)/(2:Int)^Int.toNat 32)
abbrev q29_1 (d:Int×Int×Unit):=(d.2.1/(2:Int)^Int.toNat 32)
abbrev q29_2 (d:Int×Int×Unit):=(wg (q29_0 d) (4294967295:Int)+wg d.1 (4294967295:Int)*(q29_1 d))
def jl9:Prop:=∀(d:Int×Int×Unit),0<=d.1->d.1<=1000->0<=d.2.1->d.2.1<=1000->(0:Int)<=32/\(32:Int)<=64/\(0:Int)<=32/\(32:Int)<=64/\0<=wg d.1 (4294967295:Int)*wg d.2.1 (4294967295:Int)/\wg d.1 (4294967295:Int)*wg d.2.1 (4294967295:Int)<=18446744073709551615/\0<=d.1/(2:Int)^Int.toNat 32*wg d.2.1 (4294967295:Int)/\d.1/(2:Int)^Int.toNat 32*wg d.2.1 (4294967295:Int)<=18446744073709551615/\(0:Int)<=32/\(32:Int)<=64/\0<=d.1/(2:Int)^Int.toNat 32*wg d.2.1 (4294967295:Int)+wg d.1 (4294967295:Int)*wg d.2.1 (4294967295:Int)/(2:Int)^Int.toNat 32/\d.1/(2:Int)^Int.toNat 32*wg d.2.1 (4294967295:Int)+wg d.1 (4294967295:Int)*wg d.2.1 (4294967295:Int)/(2:Int)^Int.toNat 32<=18446744073709551615/\(0:Int)<=32/\(32:Int)<=64/\0<=wg d.1 (4294967295:Int)*(q29_1 d)/\wg d.1 (4294967295:Int)*(q29_1 d)<=18446744073709551615/\0<=wg (q29_0 d) (4294967295:Int)+wg d.1 (4294967295:Int)*(q29_1 d)/\wg (q29_0 d) (4294967295:Int)+wg d.1 (4294967295:Int)*(q29_1 d)<=18446744073709551615/\0<=d.1/(2:Int)^Int.toNat 32*(q29_1 d)/\d.1/(2:Int)^Int.toNat 32*(q29_1 d)<=18446744073709551615/\0<=d.1/(2:Int)^Int.toNat 32*(q29_1 d)+(q29_0 d)/(2:Int)^Int.toNat 32/\d.1/(2:Int)^Int.toNat 32*(q29_1 d)+(q29_0 d)/(2:Int)^Int.toNat 32<=18446744073709551615/\(0:Int)<=32/\(32:Int)<=64/\0<=d.1/(2:Int)^Int.toNat 32*(q29_1 d)+(q29_0 d)/(2:Int)^Int.toNat 32+(q29_2 d)/(2:Int)^Int.toNat 32/\d.1/(2:Int)^Int.toNat 32*(q29_1 d)+(q29_0 d)/(2:Int)^Int.toNat 32+(q29_2 d)/(2:Int)^Int.toNat 32<=18446744073709551615/\0<=d.1*d.2.1/\d.1*d.2.1<=18446744073709551615/\(d.1/(2:Int)^Int.toNat 32*(q29_1 d)+(q29_0 d)/(2:Int)^Int.toNat 32+(q29_2 d)/(2:Int)^Int.toNat 32,d.1*d.2.1,())=((0:Int),d.1*d.2.1,())
def jqx:jO:=⟨[.val (.uint .u64),.val (.uint .u64)],[.uint .u64,.uint .u64],false,fun d=>[0<=d.1,d.1<=1000,0<=d.2.1,d.2.1<=1000],fun d=>((0:Int),d.1*d.2.1,())⟩
def jqb:Prop:=∀(d:Int×Int×Unit),0<=d.1->d.1<=1000->0<=d.2.1->d.2.1<=1000->(false=true->False)/\(false=false->0<=d.1/\d.1<=1000/\0<=d.2.1/\d.2.1<=1000/\((0:Int),d.1*d.2.1,())=((0:Int),d.1*d.2.1,()))
def jhm:zr:=⟨[.val (.slice .int),.val .int],[.cl (.row 3 .int .no)],fun d=>[d.1.length=1,0<=d.2.1,d.2.1<=1000],fun d=>((List.replicate d.2.1.toNat (nth d.1 0),()),())⟩
def jhQ:Ann:=fun r=>match r with
 |8=>some fun σ=>{X:=Nat,sl:=fun n=>[(8,.dat .int (n:Int))],ob:=fun n=>[(7,some (.row 3 .int false .no (U.wT (nth (gd (.slice .int) σ 0) 0) (gd .int σ 1).toNat n)))],inv:=fun n=>n<=(gd .int σ 1).toNat/\(1<=n\/(gd .int σ 1).toNat=0),mu:=fun n=>(gd .int σ 1).toNat-n}
 |_=>none
abbrev q31_3 (d:List Int×Int×Unit):=(d.1.length:Int)
abbrev q31_1 (d:List Int×Int×Unit):=(List.replicate ((q31_3 d)*d.2.1).toNat (0:Int))
abbrev q31_4 (d:List Int×Int×Unit)(x:Nat):=(U.wT (nth d.1 0) d.2.1.toNat x)
abbrev q31_0 (d:List Int×Int×Unit)(x:Nat):=(↑(q31_4 d x).length:Int)
abbrev q31_2 (x:Nat)(d:List Int×Int×Unit):=(List.take ((x:Int).toNat-Int.toNat 0) (List.drop (Int.toNat 0) (q31_4 d x)))
abbrev q31_5 (d:List Int×Int×Unit)(x:Nat):=((q31_0 d x).toNat-(x:Int).toNat)
abbrev q31_6 (d:List Int×Int×Unit):=(decide ((0:Int)<0)||decide (9223372036854775807<(q31_3 d)*d.2.1))
def jg3:Prop:=∀(d:List Int×Int×Unit),d.1.length=1->0<=d.2.1->d.2.1<=1000->(decide (d.2.1<0)=true->False)/\(decide (d.2.1<0)=false->d.1.length<4611686018427387904->0<=(q31_3 d)/\(q31_3 d)<=18446744073709551615/\0<=d.2.1/\d.2.1<=18446744073709551615/\0<=(q31_3 d)/\(q31_3 d)<=1000/\0<=d.2.1/\d.2.1<=1000/\((q31_6 d)=true->False)/\((q31_6 d)=false->jA ((q31_3 d)*d.2.1)/\0<=(q31_3 d)*d.2.1/\(q31_3 d)*d.2.1=(q31_3 d)*d.2.1/\((q31_3 d)*d.2.1).toNat*8<=140737488355328/\0+(q31_1 d).length<=(q31_1 d).length/\(∃(x:Nat),(((↑(List.take (q31_1 d).length d.1).length:Int)=(x:Int)/\True)/\ju7 (q31_1 d) 0 (q31_1 d).length d.1=U.wT (nth d.1 0) d.2.1.toNat x/\True)/\x<=d.2.1.toNat/\(1<=x\/d.2.1.toNat=0))/\∀(x:Nat),x<=d.2.1.toNat/\(1<=x\/d.2.1.toNat=0)->(q31_4 d x).length<4611686018427387904->(decide ((x:Int)<(q31_0 d x))=true->0<=(x:Int)/\(x:Int)<=(q31_0 d x)/\(q31_0 d x)<=(q31_0 d x)/\(0:Int)<=0/\0<=(x:Int)/\(x:Int)<=(q31_0 d x)/\(x:Int).toNat+(q31_5 d x)<=(q31_4 d x).length/\jA ((x:Int)+(↑(List.take (q31_5 d x) (q31_2 x d)).length:Int))/\∃(a:Nat),(((x:Int)+(↑(List.take (q31_5 d x) (q31_2 x d)).length:Int)=(a:Int)/\True)/\ju7 (q31_4 d x) (x:Int).toNat (q31_5 d x) (q31_2 x d)=U.wT (nth d.1 0) d.2.1.toNat a/\True)/\(a<=d.2.1.toNat/\(1<=a\/d.2.1.toNat=0))/\d.2.1.toNat-a<d.2.1.toNat-x)/\(decide ((x:Int)<(q31_0 d x))=false->(U.wT (nth d.1 0) d.2.1.toNat x,())=(List.replicate d.2.1.toNat (nth d.1 0),())/\()=())))
def kX:jO:=⟨[.val (.ptr tTk),.val (.uint .u64)],[.slice .int],false,fun d=>[d.1.isSome=true,U.vp (U.tk d.1)],fun d=>(U.jbH (U.tk d.1) d.2.1,())⟩
def jnl:Ann:=fun r=>match r with
 |4=>some fun σ=>{X:=Nat×List Int,sl:=fun x=>[(6,.osl 6 .int x.2.length (U.jJ (U.tk (gd (.ptr tTk) σ 0)) (gd (.uint .u64) σ 1) x.1).2.length)],ob:=fun x=>[(5,some (.row 3 .int false .no (U.jJ (U.tk (gd (.ptr tTk) σ 0)) (gd (.uint .u64) σ 1) x.1).1)),(6,some (.row 3 .int false .no (x.2++(U.jJ (U.tk (gd (.ptr tTk) σ 0)) (gd (.uint .u64) σ 1) x.1).2)))],inv:=fun x=>x.2.length<=x.1/\x.1<=(U.la (U.tc (U.tk (gd (.ptr tTk) σ 0)))).toNat,mu:=fun x=>(U.la (U.tc (U.tk (gd (.ptr tTk) σ 0)))).toNat+1-x.1}
 |7=>some fun σ=>{X:=Nat×List Int,sl:=fun x=>[(28,.any),(35,.dat .int (x.1:Int)),(6,.osl 6 .int x.2.length (U.wn (U.tk (gd (.ptr tTk) σ 0)) (gd (.uint .u64) σ 1) (gr .int σ 5,(gr .int σ 6).drop (glo σ 6)) x.1).2.length)],ob:=fun x=>[(5,some (.row 3 .int false .no (U.wn (U.tk (gd (.ptr tTk) σ 0)) (gd (.uint .u64) σ 1) (gr .int σ 5,(gr .int σ 6).drop (glo σ 6)) x.1).1)),(6,some (.row 3 .int false .no (x.2++(U.wn (U.tk (gd (.ptr tTk) σ 0)) (gd (.uint .u64) σ 1) (gr .int σ 5,(gr .int σ 6).drop (glo σ 6)) x.1).2)))],inv:=fun x=>x.1<=(gr .int σ 5).length/\x.2.length<=glo σ 6/\U.jBU (U.tk (gd (.ptr tTk) σ 0)) (gd (.uint .u64) σ 1) (gr .int σ 5,(gr .int σ 6).drop (glo σ 6)) (glo σ 6),mu:=fun x=>(gr .int σ 5).length-x.1}
 |2000011=>some fun σ=>{X:=Unit,sl:=fun _=>[],ob:=fun _=>[],inv:=fun _=>True,mu:=fun _=>0}
 |_=>none
abbrev q32_1 (d:Option (CrD×JbD×LwD×Unit)×Int×Unit):=(jQ (((0:Int),[],[],()),((0:Int),(0:Int),(0:Int),(0:Int),(0:Int),(0:Int),()),((0:Int),(0:Int),false,()),()) d.1)
abbrev q32_3 (d:Option (CrD×JbD×LwD×Unit)×Int×Unit)(x:Nat×List Int):=(U.jJ (U.tk d.1) d.2.1 x.1)
abbrev q32_2 (d:Option (CrD×JbD×LwD×Unit)×Int×Unit)(x:Nat×List Int):=((q32_3 d x).1,List.drop x.2.length (x.2++(q32_3 d x).2))
abbrev q32_0 (d:Option (CrD×JbD×LwD×Unit)×Int×Unit)(x:Nat×List Int)(a:Nat×List Int):=(U.wn (U.tk d.1) d.2.1 (q32_2 d x) a.1)
abbrev q32_4 (d:Option (CrD×JbD×LwD×Unit)×Int×Unit)(x:Nat×List Int)(a:Nat×List Int):=(nth (q32_0 d x a).1 (a.1:Int).toNat<0)
abbrev q32_5 (a:Nat×List Int):=(a.2.length+Int.toNat 0)
abbrev q32_6 (d:Option (CrD×JbD×LwD×Unit)×Int×Unit)(x:Nat×List Int)(a:Nat×List Int):=(U.wn (U.tk d.1) d.2.1 (q32_2 d x) a.1)
def jl5:Prop:=∀(d:Option (CrD×JbD×LwD×Unit)×Int×Unit),d.1.isSome=true->U.vp (U.tk d.1)->d.1.isSome=true/\[(-1:Int)].length=1/\(0:Int)<=(q32_1 d).1.1/\(q32_1 d).1.1<=1000/\d.1.isSome=true/\(0:Int)<=(q32_1 d).2.1.2.1/\(q32_1 d).2.1.2.1<(↑(List.replicate (q32_1 d).1.1.toNat (nth [(-1:Int)] 0)).length:Int)/\d.1.isSome=true/\(∃(x:Nat×List Int),(((x.2.length=0/\(q32_3 d x).2.length=[(q32_1 d).2.1.2.1].length)/\True)/\(List.replicate (q32_1 d).1.1.toNat (nth [(-1:Int)] 0)).set (q32_1 d).2.1.2.1.toNat 0=(q32_3 d x).1/\[(q32_1 d).2.1.2.1]=x.2++(q32_3 d x).2/\True)/\x.2.length<=x.1/\x.1<=(U.la (U.tc (U.tk d.1))).toNat)/\∀(x:Nat×List Int),x.2.length<=x.1/\x.1<=(U.la (U.tc (U.tk d.1))).toNat->(q32_3 d x).2.length<4611686018427387904->(decide ((0:Int)<(↑(q32_3 d x).2.length:Int))=true->(q32_3 d x).1.length<4611686018427387904->(∃(a:Nat×List Int),((0=(a.1:Int)/\(x.2.length=a.2.length/\(q32_3 d x).2.length=(q32_0 d x a).2.length)/\True)/\(q32_3 d x).1=(q32_0 d x a).1/\x.2++(q32_3 d x).2=a.2++(q32_0 d x a).2/\True)/\a.1<=(q32_3 d x).1.length/\a.2.length<=x.2.length/\U.jBU (U.tk d.1) d.2.1 (q32_2 d x) x.2.length)/\∀(a:Nat×List Int),a.1<=(q32_3 d x).1.length/\a.2.length<=x.2.length/\U.jBU (U.tk d.1) d.2.1 (q32_2 d x) x.2.length->(decide ((a.1:Int)<(↑(q32_3 d x).1.length:Int))=true->0<=(a.1:Int)/\(a.1:Int)<(↑(q32_0 d x a).1.length:Int)/\(decide (q32_4 d x a)=true->(0:Int)<=0)/\(decide (q32_4 d x a)=true->(0:Int)<(↑(q32_0 d x a).2.length:Int))/\(decide (q32_4 d x a)=true->d.1.isSome=true)/\(decide (q32_4 d x a)=true->U.vp (U.tk d.1))/\(decide (q32_4 d x a)=true->0<=nth (a.2++(q32_0 d x a).2) (q32_5 a))/\(decide (q32_4 d x a)=true->nth (a.2++(q32_0 d x a).2) (q32_5 a)<U.la (U.tc (U.tk d.1)))/\(decide (q32_4 d x a)=true->0<=(a.1:Int))/\(decide (q32_4 d x a)=true->(a.1:Int)<U.la (U.tc (U.tk d.1)))/\((decide (q32_4 d x a)&&U.jdu (U.tk d.1) d.2.1 (nth (a.2++(q32_0 d x a).2) (q32_5 a)) (a.1:Int))=true->(0:Int)<=0/\(0:Int)<(↑(q32_0 d x a).2.length:Int)/\0<=nth (a.2++(q32_0 d x a).2) (q32_5 a)/\nth (a.2++(q32_0 d x a).2) (q32_5 a)<(↑(q32_0 d x a).1.length:Int)/\jA (nth (q32_0 d x a).1 (nth (a.2++(q32_0 d x a).2) (q32_5 a)).toNat+1)/\0<=(a.1:Int)/\(a.1:Int)<(↑(q32_0 d x a).1.length:Int)/\a.2.length+(q32_0 d x a).2.length=(a.2++(q32_0 d x a).2).length/\0<(q32_0 d x a).2.length/\a.2.length+(q32_0 d x a).2.length+[(a.1:Int)].length<4611686018427387904/\((q32_0 d x a).2.length+[(a.1:Int)].length)*8<=140737488355328/\∀(pre:List Int),pre.length<=a.2.length->jA ((a.1:Int)+1)/\∃(b:Nat×List Int),(((a.1:Int)+1=(b.1:Int)/\(pre.length=b.2.length/\(q32_0 d x a).2.length+[(a.1:Int)].length=(q32_6 d x b).2.length)/\True)/\pre++List.drop a.2.length (a.2++(q32_0 d x a).2)++[(a.1:Int)]=b.2++(q32_6 d x b).2/\(q32_0 d x a).1.set (a.1:Int).toNat (nth (q32_0 d x a).1 (nth (a.2++(q32_0 d x a).2) (q32_5 a)).toNat+1)=(q32_6 d x b).1/\True)/\(b.1<=(q32_3 d x).1.length/\b.2.length<=x.2.length/\U.jBU (U.tk d.1) d.2.1 (q32_2 d x) x.2.length)/\(q32_3 d x).1.length-b.1<(q32_3 d x).1.length-a.1)/\((decide (q32_4 d x a)&&U.jdu (U.tk d.1) d.2.1 (nth (a.2++(q32_0 d x a).2) (q32_5 a)) (a.1:Int))=false->jA ((a.1:Int)+1)/\∃(b:Nat×List Int),(((a.2.length=b.2.length/\(q32_0 d x a).2.length=(q32_6 d x b).2.length)/\(a.1:Int)+1=(b.1:Int)/\True)/\a.2++(q32_0 d x a).2=b.2++(q32_6 d x b).2/\(q32_0 d x a).1=(q32_6 d x b).1/\True)/\(b.1<=(q32_3 d x).1.length/\b.2.length<=x.2.length/\U.jBU (U.tk d.1) d.2.1 (q32_2 d x) x.2.length)/\(q32_3 d x).1.length-b.1<(q32_3 d x).1.length-a.1))/\(decide ((a.1:Int)<(↑(q32_3 d x).1.length:Int))=false->(0:Int)<=1/\(1:Int)<=(↑(q32_0 d x a).2.length:Int)/\(↑(q32_0 d x a).2.length:Int)<=(↑(q32_0 d x a).2.length:Int)/\∃(b:Nat×List Int),(((a.2.length+Int.toNat 1=b.2.length/\(↑(q32_0 d x a).2.length:Int).toNat-Int.toNat 1=(U.jJ (U.tk d.1) d.2.1 b.1).2.length)/\True)/\(q32_0 d x a).1=(U.jJ (U.tk d.1) d.2.1 b.1).1/\a.2++(q32_0 d x a).2=b.2++(U.jJ (U.tk d.1) d.2.1 b.1).2/\True)/\(b.2.length<=b.1/\b.1<=(U.la (U.tc (U.tk d.1))).toNat)/\(U.la (U.tc (U.tk d.1))).toNat+1-b.1<(U.la (U.tc (U.tk d.1))).toNat+1-x.1))/\(decide ((0:Int)<(↑(q32_3 d x).2.length:Int))=false->((q32_3 d x).1,())=(U.jbH (U.tk d.1) d.2.1,()))
end Go.X
namespace Go.X
open Go.Proofs
theorem jmb {x:Int} (a:0<=x) (b:x<=4294967295):wg x 4294967295=x:=by
 obtain⟨n,rfl⟩:∃n:Nat,x=(n:Int):=⟨x.toNat,by omega⟩;rw[show(4294967295:Int)=((4294967295:Nat):Int) from rfl,BT.uand_nat (by omega) (by omega),show(4294967295:Nat)=2^32-1 from rfl,Nat.and_two_pow_sub_one_eq_mod,Nat.mod_eq_of_lt (by omega)]
theorem jpd:jl9:=by
 unfold jl9 q29_2 q29_1 q29_0;rintro⟨x,y,⟨⟩⟩ b c a d;simp only at b c a d;have f:=jmb b (by omega);have g:=jmb a (by omega);have e:=jmb (x:=0) (by omega) (by omega);have h:x/2^Int.toNat 32=0:=Int.ediv_eq_zero_of_lt b (by show x<2^32;omega);have i:y/2^Int.toNat 32=0:=Int.ediv_eq_zero_of_lt a (by show y<2^32;omega);have k:0<=x*y:=Int.mul_nonneg b a;have l:x*y<=1000*1000:=Int.mul_le_mul c d a (by omega);have c1:x*y/2^Int.toNat 32=0:=Int.ediv_eq_zero_of_lt k (by show x*y<2^32;omega);have j:(0:Int)/2^Int.toNat 32=0:=Int.zero_ediv _;simp only[f,g,h,i,Int.zero_mul,Int.mul_zero,Int.zero_add,Int.add_zero,c1,e,j]
 and_intros<;>first|omega|rfl|trivial
theorem jmH:ze PR 218 jmj:=jL jpd Tryz.func218 kcN koN
theorem jup:jqb:=by
 rintro⟨x,y,⟨⟩⟩ a b c d;exact⟨fun h=>(by cases h),fun _=>⟨a,b,c,d,rfl⟩⟩
theorem jrb:ze PR 211 jqx:=jL jup Tryz.func211 (kcC jmH kcN) koN
theorem jmX {x:Int} {N n:Nat} (h:n<=N):(U.wT x N n).length=N:=by
 unfold U.wT;simp;omega
theorem jo6 {x:Int} {N n:Nat} (h:n<=N):(U.wT x N n).take n=List.replicate n x:=by
 unfold U.wT;rw[List.take_append_of_le_length (by simp),jEC (by simp)]
theorem jwZ {x:Int} {N n:Nat} (h:n<=N):ju7 (U.wT x N n) n (N-n) (List.replicate n x)=U.wT x N (n+min (N-n) n):=by
 unfold ju7;rw[jo6 h,List.take_replicate,jEK];unfold U.wT;rw[List.drop_append,jEK,List.drop_of_length_le (by simp),jEa,List.drop_replicate,<-List.replicate_append_replicate];congr 2;omega
theorem jjw:jg3:=by
 unfold jg3 q31_6 q31_5 q31_2 q31_0 q31_4 q31_1 q31_3;rintro⟨l,n,⟨⟩⟩ b g e;simp only at b g e;obtain⟨N,rfl⟩:∃N:Nat,n=(N:Int):=⟨n.toNat,by omega⟩;obtain⟨y,rfl⟩:∃y,l=[y]:=by
  cases l with
  |nil=>simp at b
  |cons y r=>cases r with
   |nil=>exact⟨y,rfl⟩
   |cons z r=>simp at b
 have c:(([y].length:Nat):Int)*(N:Int)=(N:Int):=(by simp);have f:nth [y] 0=y:=rfl
 dsimp only
 refine⟨fun h=> ?_,fun _ _=>⟨by simp,by simp,by omega,by omega,by simp,by simp,by omega,e,fun h=> ?_,fun _=> ?_⟩⟩
 .have:=of_decide_eq_true h;omega
 .rw[c] at h;have h:(9223372036854775807:Int)<(N:Int):=(by simpa using h);omega
 rw[c,f];simp only[jDN,jEK];refine⟨L.in64 (by omega) (by omega),by omega,trivial,by omega,by omega,⟨min 1 N,⟨⟨?_,trivial⟩,?_,trivial⟩,by omega,by omega⟩,fun x a i=>⟨fun h=> ?_,fun h=> ?_⟩⟩
 .rw[jEf];simp only[jEi,jEx];omega
 .rcases jES N with d|d
  .subst d;rfl
  .obtain⟨M,rfl⟩:∃M,N=M+1:=⟨N-1,by omega⟩;have:min 1 (M+1)=1:=(by omega);rw[this];simp[ju7,U.wT,List.replicate_succ]
 .have h:=of_decide_eq_true h;rw[jmX a.1] at h;simp only[jmX a.1,jDN,Int.toNat_zero,List.drop_zero,Nat.sub_zero,jo6 a.1,List.take_replicate,jEK];refine⟨by omega,by omega,by omega,by omega,by omega,by omega,by omega,L.in64 (by omega) (by omega),x+min (N-x) x,⟨⟨by omega,trivial⟩,jwZ a.1,trivial⟩,⟨by omega,by omega⟩,by omega⟩
 .have h:=of_decide_eq_false h;rw[jmX a.1] at h;have h:x=N:=(by have:=a.1;omega);subst h;refine⟨?_,trivial⟩;unfold U.wT;rw[Nat.sub_self];simp
theorem jhw:wE PR 191 jhm:=ji9 jhQ jjw Tryz.func191 (kcC jrb kcN) koN
theorem jAM {a b:List Int}:nth (a++b) (a.length+Int.toNat 0)=nth b 0:=by
 unfold nth;simp only[jEh,Int.toNat_zero,jEU];rw[jDW (jDO _),Nat.sub_self]
theorem jpo {t:TkD} {s:Int} (a:U.vp t):2<=U.la (U.tc t)/\U.la (U.tc t)<=5/\0<=U.jue (U.tj t)/\U.jue (U.tj t)<U.la (U.tc t):=by
 obtain⟨c1,c2,_⟩:=a;obtain⟨b,c,_⟩:=jI c1;obtain⟨_,⟨d,e⟩,_⟩:=jeY c2;exact⟨b,c,d,e⟩
theorem jo9:jl5:=by
 unfold jl5 q32_6 q32_5 q32_4 q32_0 q32_2 q32_3 q32_1;rintro⟨(_|t),s,⟨⟩⟩ h0 m
 .cases h0
 have m:U.vp t:=m;obtain⟨l1,l2,j1,j2⟩:=jpo (s:=s) m;have w:U.tk (some t)=t:=rfl;obtain⟨n,A⟩:∃n,n=(U.la (U.tc t)).toNat:=⟨_,rfl⟩;obtain⟨v,hv⟩:∃v,v=(U.jue (U.tj t)).toNat:=⟨_,rfl⟩;have hs:v<n:=(by omega);have Y:∀k,jBW (U.ju6 t s) n v (U.jJ t s k)/\((U.jJ t s k).2=[]\/joV (U.jJ t s k).1+(U.jJ t s k).2.length+k=n):=by
  intro k;rw[A,hv] at*;exact jqK hs k
 refine⟨rfl,rfl,(by omega:0<=U.la (U.tc t)),(by omega:U.la (U.tc t)<=1000),rfl,j1,?_,rfl,⟨(0,[]),⟨⟨⟨rfl,rfl⟩,trivial⟩,rfl,?_,trivial⟩,jDO _,jDV _⟩,fun x hx T=>⟨fun j V=> ?_,fun h=> ?_⟩⟩
 .show U.jue (U.tj t)<(((List.replicate (U.la (U.tc t)).toNat (nth [(-1:Int)] 0)).length:Nat):Int);rw[jEK];omega
 .show[U.jue (U.tj t)]=[]++[(((U.jue (U.tj t)).toNat:Nat):Int)];rw[jEa,Int.toNat_of_nonneg j1]
 .obtain⟨k,pre⟩:=x;obtain⟨X,H⟩:=hx;simp only[w,List.drop_left] at X H j V T⊢;rw[<-A] at H⊢;obtain⟨B,o⟩:=Y k;have j:0<(U.jJ t s k).2.length:=(by have:=of_decide_eq_true j;omega);have d:(U.jJ t s k).2≠[]:=fun e=>by rw[e] at j;simp at j
  have F:=B.i.len;rcases o with o|o
  .exact absurd o d
  have p:U.jJ t s (k+1)=U.wM (U.ju6 t s) n (U.jJ t s k):=(by rw[A];rfl);generalize W:U.jJ t s k=x0 at*;obtain⟨g,r0,a⟩:∃q r,x0.2=q::r:=by
   cases I:x0.2 with
   |nil=>exact absurd I d
   |cons q r=>exact⟨q,r,rfl⟩
  obtain⟨M,g2,g3⟩:=B.i.que g (by rw[a];simp);have y:nth x0.2 0=g:=(by rw[a];rfl);have hla:((n:Nat):Int)=U.la (U.tc t):=(by omega);have f:U.jBU t s (x0.1,x0.2) pre.length:=by
   unfold U.jBU;rw[<-A,<-hv];exact⟨B,d,by simp only;omega,by omega⟩
  refine⟨⟨(0,pre),⟨⟨rfl,⟨rfl,rfl⟩,trivial⟩,rfl,rfl,trivial⟩,jDV _,jDO _,f⟩,?_⟩;rintro⟨i,p5⟩ ⟨hi,R,_⟩;simp only at hi R;have C:InI (U.ju6 t s) n v g.toNat i x0 (U.wn t s (x0.1,x0.2) i):=by
   have:=jwX (J:=U.ju6 t s) hs (q:=g.toNat) (by omega) g3 B.i B.le i (by omega);unfold U.wn;simp only[y];exact this
  have c:U.wn t s (x0.1,x0.2) (i+1)=U.jfs (U.ju6 t s) g.toNat (U.wn t s (x0.1,x0.2) i) i:=by
   unfold U.wn;simp only[y];exact jlU _ _ _ _
  have D:i=n->U.jJ t s (k+1)=((U.wn t s (x0.1,x0.2) i).1,(U.wn t s (x0.1,x0.2) i).2.drop 1):=by
   intro e;subst e;rw[p];have:U.wM (U.ju6 t s) i x0=((U.jft (U.ju6 t s) g.toNat x0 i).1,(U.jft (U.ju6 t s) g.toNat x0 i).2.drop 1):=by
    clear p c C f F d B Y W;obtain⟨st,qu⟩:=x0;simp only at a;subst a;rfl
   rw[this];unfold U.wn;simp only[y]
  generalize hFI:U.wn t s (x0.1,x0.2) i=u at*;obtain⟨l,Q⟩:=C.pre;have hQ:nth u.2 0=g:=(by rw[Q,a];rfl);have G:0<u.2.length:=(by rw[Q,a];simp);have hmu:=C.mu;have hFl:=C.i.len;have E:∀i:Nat,U.ju6 t s g.toNat i=U.jdu t s g (i:Int):=by
   intro i;unfold U.ju6;rw[Int.toNat_of_nonneg M]
  simp only[jAM,hQ];simp only[jDN];refine⟨fun h=> ?_,fun h=> ?_⟩
  .have h:i<n:=(by have:=of_decide_eq_true h;omega);refine⟨by omega,by omega,fun _=>by omega,fun _=>by omega,fun _=>rfl,fun _=>m,fun _=>M,fun _=>by omega,fun _=>by omega,fun _=>by omega,fun z=> ?_,fun z=> ?_⟩
   .rw[jDR] at z;have h3:=of_decide_eq_true z.1;have Z:=C.i.low g.toNat (by omega);have b:U.wn t s (x0.1,x0.2) (i+1)=(u.1.set i (nth u.1 g.toNat+1),u.2++[(i:Int)]):=by
     rw[c];unfold U.jfs;rw[if_pos ⟨h3,by rw[E];exact z.2⟩]
    refine⟨by omega,by omega,M,by omega,L.in64 (by omega) (by omega),by omega,by omega,by simp,G,by simp only[jEi,jEx];omega,by simp only[jEi,jEx];omega,fun K S=>⟨L.in64 (by omega) (by omega),(i+1,K),⟨⟨by simp,⟨rfl,?_⟩,trivial⟩,?_,?_,trivial⟩,⟨by simp only;omega,by simp only;omega,f⟩,by simp only;omega⟩⟩
    .rw[b];simp
    .rw[b,jD3]
    .rw[b]
   .have b:U.wn t s (x0.1,x0.2) (i+1)=u:=by
     rw[c];unfold U.jfs;rw[if_neg (fun O=>by
      rw[E] at O;rw[O.2,decide_eq_true O.1] at z;cases z)]
    refine⟨L.in64 (by omega) (by omega),(i+1,p5),⟨⟨⟨rfl,?_⟩,by simp,trivial⟩,?_,?_,trivial⟩,⟨by simp only;omega,by simp only;omega,f⟩,by simp only;omega⟩
    .rw[b]
    .rw[b]
    .rw[b]
  .have h:i=n:=(by have:=of_decide_eq_false h;omega);have P:=D h;have N:u.2=g::(r0++l):=(by rw[Q,a];rfl);refine⟨by omega,by omega,by omega,(k+1,p5++[g]),⟨⟨⟨?_,?_⟩,trivial⟩,?_,?_,trivial⟩,⟨by simp only[jD2,jEi,jEx];omega,by simp only;omega⟩,by simp only;omega⟩
   .simp only[jD2,jEi,jEx];rfl
   .rw[P];simp only[jE2];rfl
   .rw[P]
   .rw[P,N];simp
 .simp only[w] at h⊢;have h:(U.jJ t s x.1).2=[]:=by
   have:=of_decide_eq_false h;exact jEn (by omega)
  have hk:x.1<=n:=(by have:=hx.2;rw[w,<-A] at this;exact this);have h1:U.qD (U.ju6 t s) (U.la (U.tc t)).toNat (U.jue (U.tj t)).toNat ((U.la (U.tc t)).toNat+1)=U.jJ t s x.1:=jzs (k:=x.1) h _ (by rw[<-A];omega);show((U.jJ t s x.1).1,())=((U.qD (U.ju6 t s) (U.la (U.tc t)).toNat (U.jue (U.tj t)).toNat ((U.la (U.tc t)).toNat+1)).1,());rw[h1]
theorem jmF:ze PR 157 kX:=wa jnl jo9 Tryz.func157 (kcC jhr kcN) (koC jhw koN)
end Go.X
namespace Go.X
open Go.Proofs
namespace U
def jaF (t:TkD) (o:Int) (q:List (Int×PeD×Unit)):Int:=q.foldl (fun o x=>uor o (wi t x.2.1)) o
def jfn (q:List (Int×PeD×Unit)):Bool:=q.any (fun x=>deaf x.2.1)
def jv8 (b:Bool) (o k:Int):Int:=if b=true then uor o k else o
def z7 (t:TkD) (s:Int):Int:=jv8 (decide (nth (jbH t s) (jA1 (tj t)).toNat<0)) (jv8 (jDG (tl t)&& !jfn (joZ t s)) (jv8 (decide (BT.size s≠max (jC9 (tj t)) (jC7 (tl t)))) (jaF t 0 (joZ t s)) 8) 16) 32
def jwO (c:CrD) (n:Int):Bool:=ja n 0 (2^(jj c).length-1)
def ve (c:CrD) (j:JbD) (n:Int):Int:=if zP c j≠0 then zP c j else if jwO c n=true then 0 else 1
def jCG (c:CrD) (j:JbD) (n:Int):Int:=if ve c j n=0 then z7 (c,j,jyQ c j,()) n else 0
def vw (c:CrD) (j:JbD) (n:Nat):List Int:=((List.range n).filter (fun i=>decide (wi (c,j,jyQ c j,()) (nth (jj c) i)=0))).map (fun(i:Nat)=>(i:Int))
def vY (c:CrD) (j:JbD):List Int:=if zP c j=0 then vw c j (jj c).length else[]
end U
def kd:jO:=⟨[.val (.ptr tTk),.val tPe],[.uint .u64],false,fun d=>[d.1.isSome=true,U.vp (U.tk d.1)],fun d=>(U.wi (U.tk d.1) d.2.1,())⟩
def jvU:jpO [.int,tPe]:={ps:=[.ref (.ptr tTk),.own (.box 146 [.dat (.uint .u64)]) true,.own (.box 4 [.dat .bool]) true],slots:=[2,4,5],dst:=65,pre:=fun d=>[d.1.isSome=true,U.vp (U.tk d.1)],G:=fun d q=>((U.jaF (U.tk d.1) d.2.1.1 q,()),(d.2.2.1.1||U.jfn q,()),()),seq:=jsH}
def jis:Nat->Option ((ts:List Ty)×jpO ts):=fun r=>match r with
 |4=>some ⟨[.int,tPe],jvU⟩
 |_=>none
def jap:jO:=⟨[.val (.ptr tTk),.val (.uint .u64)],[.uint .u64],false,fun d=>[d.1.isSome=true,U.vp (U.tk d.1),BT.Set' d.2.1],fun d=>(U.z7 (U.tk d.1) d.2.1,())⟩
abbrev q33_0 (d:Option (CrD×JbD×LwD×Unit)×Int×Unit):=(jQ (((0:Int),[],[],()),((0:Int),(0:Int),(0:Int),(0:Int),(0:Int),(0:Int),()),((0:Int),(0:Int),false,()),()) d.1)
abbrev q33_1 (d:Option (CrD×JbD×LwD×Unit)×Int×Unit):=(nth (U.jbH (U.tk d.1) d.2.1) (q33_0 d).2.1.1.toNat<0)
abbrev q33_2 (d:Option (CrD×JbD×LwD×Unit)×Int×Unit):=(U.z7 (U.tk d.1) d.2.1,())
abbrev q33_3 (d:Option (CrD×JbD×LwD×Unit)×Int×Unit):=(↑(U.jbH (U.tk d.1) d.2.1).length:Int)
def jal:Prop:=∀(d:Option (CrD×JbD×LwD×Unit)×Int×Unit),d.1.isSome=true->U.vp (U.tk d.1)->BT.Set' d.2.1->(d.1.isSome=true/\(U.jj (U.tc (U.tk d.1))).length<=60)/\(d.1.isSome=true/\U.vp (U.tk d.1)/\True)/\(d.1,(U.jaF (U.tk d.1) (0:Int) [],()),(false||U.jfn [],()),())=(d.1,((0:Int),()),(false,()),())/\(∀(q:List (Int×PeD×Unit)) (x:Int×PeD×Unit) (rest:List (Int×PeD×Unit)),q++x::rest=U.joZ (U.tk d.1) d.2.1->kI (fun(a:List (Int×PeD×Unit))=>false) q->d.1.isSome=true/\U.vp (U.tk d.1)/\false=false/\((uor (U.jaF (U.tk d.1) (0:Int) q) (U.wi (U.tk d.1) x.2.1),()),(false||U.jfn q||x.2.1.2.2.2.2.1,()),())=((U.jaF (U.tk d.1) (0:Int) (q++[x]),()),(false||U.jfn (q++[x]),()),()))/\(∀(xs:List (Int×PeD×Unit)),xs=U.joZ (U.tk d.1) d.2.1->kI (fun(b:List (Int×PeD×Unit))=>false) xs->BT.Set' d.2.1/\d.1.isSome=true/\d.1.isSome=true/\(decide (BT.size d.2.1≠max (q33_0 d).2.1.2.2.2.2.2.1 (q33_0 d).2.2.1.2.1)=true->d.1.isSome=true/\(((q33_0 d).2.2.1.2.2.1&& !(false||U.jfn xs))=true->d.1.isSome=true/\U.vp (U.tk d.1)/\d.1.isSome=true/\(0:Int)<=(q33_0 d).2.1.1/\(q33_0 d).2.1.1<(q33_3 d)/\(decide (q33_1 d)=true->(uor (uor (uor (U.jaF (U.tk d.1) (0:Int) xs) (8:Int)) (16:Int)) (32:Int),())=(q33_2 d))/\(decide (q33_1 d)=false->(uor (uor (U.jaF (U.tk d.1) (0:Int) xs) (8:Int)) (16:Int),())=(q33_2 d)))/\(((q33_0 d).2.2.1.2.2.1&& !(false||U.jfn xs))=false->d.1.isSome=true/\U.vp (U.tk d.1)/\d.1.isSome=true/\(0:Int)<=(q33_0 d).2.1.1/\(q33_0 d).2.1.1<(q33_3 d)/\(decide (q33_1 d)=true->(uor (uor (U.jaF (U.tk d.1) (0:Int) xs) (8:Int)) (32:Int),())=(q33_2 d))/\(decide (q33_1 d)=false->(uor (U.jaF (U.tk d.1) (0:Int) xs) (8:Int),())=(q33_2 d))))/\(decide (BT.size d.2.1≠max (q33_0 d).2.1.2.2.2.2.2.1 (q33_0 d).2.2.1.2.1)=false->d.1.isSome=true/\(((q33_0 d).2.2.1.2.2.1&& !(false||U.jfn xs))=true->d.1.isSome=true/\U.vp (U.tk d.1)/\d.1.isSome=true/\(0:Int)<=(q33_0 d).2.1.1/\(q33_0 d).2.1.1<(q33_3 d)/\(decide (q33_1 d)=true->(uor (uor (U.jaF (U.tk d.1) (0:Int) xs) (16:Int)) (32:Int),())=(q33_2 d))/\(decide (q33_1 d)=false->(uor (U.jaF (U.tk d.1) (0:Int) xs) (16:Int),())=(q33_2 d)))/\(((q33_0 d).2.2.1.2.2.1&& !(false||U.jfn xs))=false->d.1.isSome=true/\U.vp (U.tk d.1)/\d.1.isSome=true/\(0:Int)<=(q33_0 d).2.1.1/\(q33_0 d).2.1.1<(q33_3 d)/\(decide (q33_1 d)=true->(uor (U.jaF (U.tk d.1) (0:Int) xs) (32:Int),())=(q33_2 d))/\(decide (q33_1 d)=false->(U.jaF (U.tk d.1) (0:Int) xs,())=(q33_2 d)))))/\∀(q:List (Int×PeD×Unit)) (x:Int×PeD×Unit) (rest:List (Int×PeD×Unit)),q++x::rest=U.joZ (U.tk d.1) d.2.1->kI (fun(c:List (Int×PeD×Unit))=>false) q->false=true->(U.jaF (U.tk d.1) (0:Int) (q++[x]),())=(q33_2 d)
theorem jcR:(jsu (jpX 64 [(118,kd),(156,kY),(157,kX)] [] [(155,jB)] []) jap (fun _ _=>none) (hkC (jpX 64 [(118,kd),(156,kY),(157,kX)] [] [(155,jB)] []) (fun _=>none) jis [] []) Tryz.f122 (zw Tryz.f122))=jal:=by kernel_rfl
def jvx:jO:=⟨[.val tCr,.val tJb,.val .int],[.ptr tTk,.int],false,fun _=>[],fun d=>(U.jlj d.1 d.2.1,U.ve d.1 d.2.1 d.2.2.1,())⟩
abbrev q34_1 (d:CrD×JbD×Int×Unit):=(U.zP d.1 d.2.1=0)
abbrev q34_0 (d:CrD×JbD×Int×Unit):=(decide (q34_1 d)&& !U.ja d.2.2.1 (0:Int) ((1:Int)*2^(d.1.2.1.length:Int).toNat-1))
def jvb:Prop:=∀(d:CrD×JbD×Int×Unit),(decide (q34_1 d)=true->d.1.2.1.length<4611686018427387904)->(decide (q34_1 d)=true->0<=(d.1.2.1.length:Int))/\(decide (q34_1 d)=true->(d.1.2.1.length:Int)<=64)/\(decide (q34_1 d)=true->jA ((1:Int)*2^(d.1.2.1.length:Int).toNat))/\(decide (q34_1 d)=true->jA ((1:Int)*2^(d.1.2.1.length:Int).toNat-1))/\((q34_0 d)=true->(U.jlj d.1 d.2.1,(1:Int),())=(U.jlj d.1 d.2.1,U.ve d.1 d.2.1 d.2.2.1,()))/\((q34_0 d)=false->(U.jlj d.1 d.2.1,U.zP d.1 d.2.1,())=(U.jlj d.1 d.2.1,U.ve d.1 d.2.1 d.2.2.1,()))
def jqp:jO:=⟨[.val tCr,.val tJb,.val .int],[.int,.int],false,fun _=>[],fun d=>(U.jCG d.1 d.2.1 d.2.2.1,U.ve d.1 d.2.1 d.2.2.1,())⟩
def jp3:Prop:=∀(d:CrD×JbD×Int×Unit),(decide (U.ve d.1 d.2.1 d.2.2.1≠0)=true->((0:Int),U.ve d.1 d.2.1 d.2.2.1,())=(U.jCG d.1 d.2.1 d.2.2.1,U.ve d.1 d.2.1 d.2.2.1,()))/\(decide (U.ve d.1 d.2.1 d.2.2.1≠0)=false->0<=d.2.2.1/\d.2.2.1<=18446744073709551615/\(U.jlj d.1 d.2.1).isSome=true/\U.vp (U.tk (U.jlj d.1 d.2.1))/\BT.Set' d.2.2.1/\jA (U.z7 (U.tk (U.jlj d.1 d.2.1)) d.2.2.1)/\(U.z7 (U.tk (U.jlj d.1 d.2.1)) d.2.2.1,(0:Int),())=(U.jCG d.1 d.2.1 d.2.2.1,U.ve d.1 d.2.1 d.2.2.1,()))
def jyl:jO:=⟨[.val tCr,.val tJb],[.slice .int,.int],false,fun _=>[],fun d=>(U.vY d.1 d.2.1,U.zP d.1 d.2.1,())⟩
def jzw:Ann:=fun r=>match r with
 |6=>some fun σ=>{X:=Nat,sl:=fun i=>[(23,.dat .int (i:Int)),(8,.own 8 .int)],ob:=fun i=>[(8,some (.row 3 .int false .yes (U.vw (gd tCr σ 0) (gd tJb σ 1) i)))],inv:=fun i=>i<=(U.jj (gd tCr σ 0)).length,mu:=fun i=>(U.jj (gd tCr σ 0)).length-i}
 |_=>none
def jyc:Prop:=∀(d:CrD×JbD×Unit),(decide (U.zP d.1 d.2.1≠0)=true->([],U.zP d.1 d.2.1,())=(U.vY d.1 d.2.1,U.zP d.1 d.2.1,()))/\(decide (U.zP d.1 d.2.1≠0)=false->d.1.2.1.length<4611686018427387904->(∃(x:Nat),((0=(x:Int)/\True/\True)/\U.vw d.1 d.2.1 x=[]/\True)/\x<=(U.jj d.1).length)/\∀(x:Nat),x<=(U.jj d.1).length->(decide ((x:Int)<(d.1.2.1.length:Int))=true->0<=(x:Int)/\(x:Int)<(d.1.2.1.length:Int)/\(U.jlj d.1 d.2.1).isSome=true/\U.vp (U.tk (U.jlj d.1 d.2.1))/\(decide (U.wi (U.tk (U.jlj d.1 d.2.1)) (nth d.1.2.1 (x:Int).toNat)=0)=true->((U.vw d.1 d.2.1 x).length+[(x:Int)].length)*8<=140737488355328/\jA ((x:Int)+1)/\∃(a:Nat),(((x:Int)+1=(a:Int)/\True/\True)/\U.vw d.1 d.2.1 x++[(x:Int)]=U.vw d.1 d.2.1 a/\True)/\a<=(U.jj d.1).length/\(U.jj d.1).length-a<(U.jj d.1).length-x)/\(decide (U.wi (U.tk (U.jlj d.1 d.2.1)) (nth d.1.2.1 (x:Int).toNat)=0)=false->jA ((x:Int)+1)/\∃(a:Nat),((True/\(x:Int)+1=(a:Int)/\True)/\U.vw d.1 d.2.1 x=U.vw d.1 d.2.1 a/\True)/\a<=(U.jj d.1).length/\(U.jj d.1).length-a<(U.jj d.1).length-x))/\(decide ((x:Int)<(d.1.2.1.length:Int))=false->(U.vw d.1 d.2.1 x,(0:Int),())=(U.vY d.1 d.2.1,U.zP d.1 d.2.1,())))
end Go.X
namespace Go.X
open Go.Proofs
theorem jvl (a b c:Bool):0<=U.jty a b c/\U.jty a b c<=7:=by
 unfold U.jty U.jBQ;cases a<;>cases b<;>cases c<;>simp
theorem jpL (t:TkD) (p:PeD):0<=U.wi t p/\U.wi t p<=7:=jvl _ _ _
theorem joe {s:Int} (h:0<=s/\s<=1000):BT.Set' s:=by unfold BT.Set';omega
theorem jzG {a b:Int} (c:0<=a/\a<64) (d:0<=b/\b<64):0<=uor a b/\uor a b<64:=by
 obtain⟨n,rfl⟩:∃n:Nat,a=(n:Int):=⟨a.toNat,by omega⟩;obtain⟨m,rfl⟩:∃m:Nat,b=(m:Int):=⟨b.toNat,by omega⟩;rw[BT.uor_nat (by omega) (by omega)];have:n|||m<2^6:=Nat.or_lt_two_pow (by omega) (by omega);omega
theorem jvf (t:TkD):∀(q:List (Int×PeD×Unit)) (o:Int),(0<=o/\o<64)->0<=U.jaF t o q/\U.jaF t o q<64
 |[],o,h=>h
 |x::q,o,h=>by
  have:=jpL t x.2.1
  exact jvf t q _ (jzG h ⟨by omega,by omega⟩)
theorem jq1 {b:Bool} {o k:Int} (h:0<=o/\o<64) (hk:0<=k/\k<64):0<=U.jv8 b o k/\U.jv8 b o k<64:=by
 unfold U.jv8
 split
 .exact jzG h hk
 .exact h
theorem juQ (t:TkD) (s:Int):0<=U.z7 t s/\U.z7 t s<64:=by
 unfold U.z7;exact jq1 (jq1 (jq1 (jvf t _ _ (by omega)) (by omega)) (by omega)) (by omega)
theorem jve (t:TkD) (o:Int) (q:List (Int×PeD×Unit)) (x:Int×PeD×Unit):U.jaF t o (q++[x])=uor (U.jaF t o q) (U.wi t x.2.1):=by
 unfold U.jaF;rw[jEo];rfl
theorem jy9 {t:TkD} {s:Int} (a:U.vp t):((U.jbH t s).length:Int)=U.la (U.tc t):=by
 obtain⟨f,g,c,d⟩:=jpo (s:=s) a;have b:(U.jue (U.tj t)).toNat<(U.la (U.tc t)).toNat:=(by omega);have:=(jqK (J:=U.ju6 t s) b ((U.la (U.tc t)).toNat+1)).1.i.len;have e:(U.jbH t s).length=(U.la (U.tc t)).toNat:=this;omega
theorem jjs:jal:=by
 unfold jal q33_3 q33_2 q33_1 q33_0;rintro⟨(_|t),s,⟨⟩⟩ n a c
 .cases n
 have a:U.vp t:=a;have c:BT.Set' s:=c;obtain⟨c1,c2,_⟩:=id a;obtain⟨_,_,p,_⟩:=jI c1;obtain⟨⟨m,r⟩,_⟩:=jeY c2;have o:=jy9 (s:=s) a;have f:U.tk (some t)=t:=rfl;have b:0<=U.jA1 (U.tj t)/\U.jA1 (U.tj t)<(((U.jbH t s).length:Nat):Int):=⟨m,by omega⟩;refine⟨⟨rfl,(by omega:(U.jj (U.tc t)).length<=60)⟩,⟨rfl,a,trivial⟩,rfl,fun q x rest u _=>⟨rfl,a,rfl,?_⟩,fun xs g _=>⟨c,rfl,rfl,?_⟩,fun q x rest _ _ h=>by cases h⟩
 .simp only[f,jve];unfold U.jfn;simp only[List.any_append,List.any_cons,List.any_nil,Bool.or_false,Bool.false_or];rfl
 .simp only[f] at g⊢;subst g;have key:∀(j k l:Bool),decide (BT.size s≠max (U.jC9 (U.tj t)) (U.jC7 (U.tl t)))=j->(U.jDG (U.tl t)&& !U.jfn (U.joZ t s))=k->decide (nth (U.jbH t s) (U.jA1 (U.tj t)).toNat<0)=l->
   U.jv8 l (U.jv8 k (U.jv8 j (U.jaF t 0 (U.joZ t s)) 8) 16) 32=U.z7 t s:=by
   intro j k l i e d;unfold U.z7;rw[i,e,d]
  refine⟨fun i=>⟨rfl,fun e=>⟨rfl,a,rfl,b.1,b.2,fun d=> ?_,fun d=> ?_⟩,fun e=>⟨rfl,a,rfl,b.1,b.2,fun d=> ?_,fun d=> ?_⟩⟩,fun i=>⟨rfl,fun e=>⟨rfl,a,rfl,b.1,b.2,fun d=> ?_,fun d=> ?_⟩,fun e=>⟨rfl,a,rfl,b.1,b.2,fun d=> ?_,fun d=> ?_⟩⟩⟩<;>
   (rw[Bool.false_or] at e;have:=key _ _ _ i e d;rw[<-this];rfl)
theorem jqW {c:CrD} (h:U.ju c=true):(0:Int)<2^(U.jj c).length/\(2:Int)^(U.jj c).length<=256:=by
 obtain⟨_,_,a,_⟩:=jI h;rw[BT.two_nat];have b:2^(U.jj c).length<=2^8:=Nat.pow_le_pow_right (by decide) a;have d:0<2^(U.jj c).length:=Nat.pow_pos (by decide);omega
theorem jyY:jvb:=by
 unfold jvb q34_0 q34_1;rintro⟨c,j,n,⟨⟩⟩ _;have e:∀l:Nat,(1:Int)*2^((l:Int)).toNat=2^l:=fun l=>by rw[Int.one_mul,jDN]
 simp only[e];refine⟨fun _=>by omega,fun h=> ?_,fun h=> ?_,fun h=> ?_,fun h=> ?_,fun h=> ?_⟩
 .have:=(jI (jdK (of_decide_eq_true h)).1).2.2.1;have this:c.2.1.length<=8:=this;omega
 .have:=jqW (jdK (of_decide_eq_true h)).1;have this:(0:Int)<2^c.2.1.length/\(2:Int)^c.2.1.length<=256:=this;exact L.in64 (by omega) (by omega)
 .have:=jqW (jdK (of_decide_eq_true h)).1;have this:(0:Int)<2^c.2.1.length/\(2:Int)^c.2.1.length<=256:=this;exact L.in64 (by omega) (by omega)
 .rw[jDR] at h;have a:=of_decide_eq_true h.1;have b:U.jwO c n=false:=by
   have d:U.ja n 0 (2^c.2.1.length-1)=false:=(by simpa using h.2);exact d
  unfold U.ve;rw[if_neg (by omega),if_neg (by rw[b];simp)]
 .unfold U.ve;by_cases a:U.zP c j=0
  .rw[decide_eq_true a,Bool.true_and] at h;have b:U.jwO c n=true:=by
    have d:U.ja n 0 (2^c.2.1.length-1)=true:=(by simpa using h);exact d
   rw[if_neg (by omega),if_pos b,a]
  .rw[if_pos a]
theorem jwi:ze PR 121 jvx:=jL jyY Tryz.func121 (kcC joD (kcC wu kcN)) koN
theorem jtv {c:CrD} {j:JbD} {n:Int} (h:U.ve c j n=0):U.zP c j=0/\0<=n/\n<2^(U.jj c).length:=by
 unfold U.ve at h
 split at h
 .rename_i b;omega
 .rename_i b
  split at h
  .rename_i a;unfold U.jwO U.ja at a;simp only[jDR,decide_eq_true_eq] at a;exact⟨by omega,a.1,by omega⟩
  .omega
theorem juh:jp3:=by
 rintro⟨c,j,n,⟨⟩⟩;refine⟨fun h=> ?_,fun h=> ?_⟩
 .have h:U.ve c j n≠0:=of_decide_eq_true h;simp only;unfold U.jCG;rw[if_neg h]
 .have h:U.ve c j n=0:=(by simpa using h);obtain⟨d,e,g⟩:=jtv h;obtain⟨b,f⟩:=jwa d;have k:=jqW (jdK d).1;have a:U.tk (U.jlj c j)=(c,j,U.jyQ c j,()):=(by rw[b];rfl);have i:=juQ (c,j,U.jyQ c j,()) n;simp only[a];refine⟨e,by omega,by rw[b];rfl,f,joe ⟨e,by omega⟩,L.in64 (by omega) (by omega),?_⟩;unfold U.jCG;rw[if_pos h,h]
theorem jlu (c:CrD) (j:JbD) (n:Nat):U.vw c j (n+1)=U.vw c j n++(if U.wi (c,j,U.jyQ c j,()) (nth (U.jj c) n)=0 then[(n:Int)] else[]):=by
 unfold U.vw;rw[L.range_filter_succ,jEH];by_cases h:U.wi (c,j,U.jyQ c j,()) (nth (U.jj c) n)=0
 .rw[if_pos (decide_eq_true h),if_pos h];rfl
 .rw[if_neg (by simpa using h),if_neg h];rfl
theorem jwD (c:CrD) (j:JbD) (n:Nat):(U.vw c j n).length<=n:=by
 unfold U.vw;rw[jEX];exact jDZ (List.length_filter_le _ _) (by simp)
theorem jA5:jyc:=by
 rintro⟨c,j,⟨⟩⟩;refine⟨fun h=> ?_,fun h _=>⟨⟨0,⟨⟨rfl,trivial,trivial⟩,rfl,trivial⟩,jDV _⟩,fun x f=>⟨fun a=> ?_,fun a=> ?_⟩⟩⟩
 .have h:U.zP c j≠0:=of_decide_eq_true h;simp only;unfold U.vY;rw[if_neg h]
 .have h:U.zP c j=0:=(by simpa using h);obtain⟨e,g⟩:=jwa h;have d:U.tk (U.jlj c j)=(c,j,U.jyQ c j,()):=(by rw[e];rfl);have a:x<(U.jj c).length:=by
   have a:=of_decide_eq_true a;have a:(x:Int)<((U.jj c).length:Int):=a;omega
  have i:(x:Int)<((U.jj c).length:Int):=(by omega);have k:=(jI (jdK h).1).2.2.1;have l:=jwD c j x;simp only[d,jDN];refine⟨by omega,i,by rw[e];rfl,g,fun b=>⟨by simp only[jEi,jEx];omega,L.in64 (by omega) (by omega),x+1,⟨⟨by simp,trivial,trivial⟩,?_,trivial⟩,a,by omega⟩,fun b=>⟨L.in64 (by omega) (by omega),x+1,⟨⟨trivial,by simp,trivial⟩,?_,trivial⟩,a,by omega⟩⟩
  .have b:U.wi (c,j,U.jyQ c j,()) (nth (U.jj c) x)=0:=of_decide_eq_true b;rw[jlu,if_pos b]
  .have b:¬U.wi (c,j,U.jyQ c j,()) (nth (U.jj c) x)=0:=of_decide_eq_false b;rw[jlu,if_neg b,jEg]
 .have h:U.zP c j=0:=(by simpa using h);have a:(U.jj c).length<=x:=by
   have a:=of_decide_eq_false a;have a:¬(x:Int)<((U.jj c).length:Int):=a;omega
  have f:x<=(U.jj c).length:=f;simp only;unfold U.vY;rw[if_pos h,h,show x=(U.jj c).length by omega]
end Go.X
namespace Go.X
open Go.Proofs
def jj6:Ann:=fun r=>match r with
 |2=>some fun σ=>{X:=List (Int×Int)×Int,sl:=fun x=>[(4,.dat (.uint .u64) x.2)],ob:=fun x=>[(37,some (.iter .int .int x.1 none))],inv:=fun x=>U.qF (U.jeW (U.tk (gd (.ptr tTk) σ 0)) (gd tPe σ 1)) x.1 x.2,mu:=fun x=>x.1.length}
 |_=>none
abbrev q37_0 (d:Option (CrD×JbD×LwD×Unit)×PeD×Unit):=(jQ (((0:Int),[],[],()),((0:Int),(0:Int),(0:Int),(0:Int),(0:Int),(0:Int),()),((0:Int),(0:Int),false,()),()) d.1)
def jih:Prop:=∀(d:Option (CrD×JbD×LwD×Unit)×PeD×Unit),d.1.isSome=true->U.vp (U.tk d.1)->d.1.isSome=true/\d.1.isSome=true/\(0:Int)<=(q37_0 d).2.1.2.2.2.1/\(q37_0 d).2.1.2.2.2.1<=64/\d.1.isSome=true/\(0:Int)<=(q37_0 d).2.1.2.2.2.2.1/\(q37_0 d).2.1.2.2.2.2.1<=64/\[(0:Int),(1:Int),(2:Int)].Nodup/\∀(l:List (Int×Int)),l.Perm [((0:Int),U.jBQ !d.2.1.2.2.2.1.any fun(e:Int)=>decide (e=(q37_0 d).2.1.2.2.1)),((1:Int),vG (d.2.1.2.1/(2:Int)^(q37_0 d).2.1.2.2.2.1.toNat) (1:Int)),((2:Int),vG (d.2.1.2.2.1/(2:Int)^(q37_0 d).2.1.2.2.2.2.1.toNat) (1:Int))]->(((∃(x:List (Int×Int)×Int),((0=x.2/\True)/\l=x.1/\True)/\U.qF (U.jeW (U.tk d.1) d.2.1) x.1 x.2)/\∀(x:List (Int×Int)×Int),U.qF (U.jeW (U.tk d.1) d.2.1) x.1 x.2->(x.1=[]->(false=true->False)/\(false=false->(x.2,())=(U.wi (U.tk d.1) d.2.1,())))/\∀(pre:List (Int×Int)) (a:Int×Int) (b:List (Int×Int)),x.1=pre++a::b->(true=true->(decide (a.2=0)=true->0<=a.1/\a.1<=64/\(0:Int)<=1*2^a.1.toNat/\(1:Int)*2^a.1.toNat<=18446744073709551615/\∃(c:List (Int×Int)×Int),((uor x.2 ((1:Int)*2^a.1.toNat)=c.2/\True)/\pre++b=c.1/\True)/\U.qF (U.jeW (U.tk d.1) d.2.1) c.1 c.2/\c.1.length<x.1.length)/\(decide (a.2=0)=false->∃(c:List (Int×Int)×Int),((x.2=c.2/\True)/\pre++b=c.1/\True)/\U.qF (U.jeW (U.tk d.1) d.2.1) c.1 c.2/\c.1.length<x.1.length))/\(true=false->(x.2,())=(U.wi (U.tk d.1) d.2.1,())))/\True)/\True
end Go.X
namespace Go.X
open Go.Proofs
theorem js4 (z:Int):vG z 1=0\/vG z 1=1:=by
 unfold vG;rw[BitVec.toNat_and];have a:(BitVec.ofInt 64 1).toNat=1:=rfl;rw[a,Nat.and_one_is_mod];rcases Nat.mod_two_eq_zero_or_one (BitVec.ofInt 64 z).toNat with h|h
 .rw[h];exact .inl rfl
 .rw[h];exact .inr rfl
theorem js3 (s n:Int):(vG (s/2^n.toNat) 1=0)↔(!U.jhG s n)=true:=by
 unfold U.jhG;rcases js4 (s/2^n.toNat) with h|h<;>rw[h]<;>simp
theorem jyi (a b c:Bool) (p:Nat):BT.has (U.jty a b c) p=true↔(a=true/\p=0)\/(b=true/\p=1)\/(c=true/\p=2):=by
 match p with
 |0=>cases a<;>cases b<;>cases c<;>decide
 |1=>cases a<;>cases b<;>cases c<;>decide
 |2=>cases a<;>cases b<;>cases c<;>decide
 |p+3=>
  have h:=jvl a b c;have:BT.has (U.jty a b c) (p+3)=false:=by
   cases d:BT.has (U.jty a b c) (p+3) with
   |false=>rfl
   |true=>have:=BT.has_lt (k:=3) h.1 (by omega) d;omega
  rw[this];simp
theorem jyS (t:TkD) (p:PeD) (k:Nat):(∃e∈U.jeW t p,e.2=0/\e.1.toNat=k)↔BT.has (U.wi t p) k=true:=by
 unfold U.wi;rw[jyi];have c:U.jBQ (!U.jvh p (U.jBT (U.tj t)))=0↔U.jvh p (U.jBT (U.tj t))=true:=by
  unfold U.jBQ;cases U.jvh p (U.jBT (U.tj t))<;>simp
 have d:=js3 (U.fd p) (U.jBS (U.tj t));have f:=js3 (U.cl p) (U.jBR (U.tj t));unfold U.jeW;simp only[jDL,List.not_mem_nil,or_false];rw[<-c,<-d,<-f];constructor
 .rintro⟨e,(rfl|rfl|rfl),a,b⟩
  .exact .inl ⟨a,b.symm⟩
  .exact .inr (.inl ⟨a,b.symm⟩)
  .exact .inr (.inr ⟨a,b.symm⟩)
 .rintro(⟨a,b⟩|⟨a,b⟩|⟨a,b⟩)
  .exact⟨_,.inl rfl,a,b.symm⟩
  .exact⟨_,.inr (.inl rfl),a,b.symm⟩
  .exact⟨_,.inr (.inr rfl),a,b.symm⟩
theorem jyR {t:TkD} {p:PeD} {e:Int×Int} (h:e∈U.jeW t p):0<=e.1/\e.1<=2:=by
 unfold U.jeW at h;simp only[jDL,List.not_mem_nil,or_false] at h;rcases h with rfl|rfl|rfl<;>simp
theorem juc (t:TkD) (p:PeD):(U.jeW t p).Nodup:=by
 unfold U.jeW;simp
theorem jr8 {t:TkD} {p:PeD} {l:List (Int×Int)} (h:l.Perm (U.jeW t p)):U.qF (U.jeW t p) l 0:=by
 refine⟨BT.zero_set,h.symm.nodup (juc t p),fun e c=>h.mem_iff.1 c,fun k=> ?_⟩;rw[BT.has_zero];constructor
 .intro h;cases h
 .rintro⟨e,a,b,_⟩;exact absurd (h.mem_iff.2 a) b
theorem ju0 {t:TkD} {p:PeD} {s:Int} (h:U.qF (U.jeW t p) [] s):s=U.wi t p:=by
 obtain⟨a,_,_,c⟩:=h;refine BT.ext a (joe (by have:=jpL t p;omega)) (fun k=> ?_);rw[jEm,c,<-jyS];constructor
 .rintro⟨e,a,_,b⟩;exact⟨e,a,b⟩
 .rintro⟨e,a,b⟩;exact⟨e,a,by simp,b⟩
theorem jlY {all pre a:List (Int×Int)} {e:Int×Int} {s j:Int} (h:U.qF all (pre++e::a) s) (p:BT.Set' j) (hk:∀k,BT.has j k=true↔BT.has s k=true\/(e.2=0/\e.1.toNat=k)):U.qF all (pre++a) j:=by
 obtain⟨q,m,l,n⟩:=h;have i:(e::(pre++a)).Nodup:=List.perm_middle.nodup m;have b:∀x,x∈pre++e::a↔x=e\/x∈pre++a:=fun x=>by rw[List.perm_middle.mem_iff,jDL]
 rw[jEy] at i;refine⟨p,i.2,fun x c=>l x ((b x).2 (.inr c)),fun k=> ?_⟩;rw[hk,n];constructor
 .rintro(⟨x,d,f,g⟩|⟨d,f⟩)
  .exact⟨x,d,fun c=>f ((b x).2 (.inr c)),g⟩
  .exact⟨e,l e ((b e).2 (.inl rfl)),i.1,d,f⟩
 .rintro⟨x,d,f,g⟩;by_cases c:x=e
  .subst c;exact .inr g
  .exact .inl ⟨x,d,fun o=>by rcases(b x).1 o with h|h;exact c h;exact f h,g⟩
theorem jkJ:jih:=by
 unfold jih q37_0;rintro⟨(_|t),p,⟨⟩⟩ s d
 .cases s
 have d:U.vp t:=d;have r:U.tk (some t)=t:=rfl;obtain⟨c1,c2,_⟩:=id d;obtain⟨_,_,_,⟨m,o⟩,⟨n,q⟩,_⟩:=jeY c2;have m:0<=t.2.1.2.2.2.1:=m;have o:t.2.1.2.2.2.1<=7:=o;have n:0<=t.2.1.2.2.2.2.1:=n;have q:t.2.1.2.2.2.2.1<=3:=q;refine⟨rfl,rfl,m,by simp only[jQ];omega,rfl,n,by simp only[jQ];omega,by decide,fun l w=>⟨⟨⟨⟨(l,0),⟨⟨rfl,trivial⟩,rfl,trivial⟩,jr8 w⟩,fun x b=>⟨fun h=>⟨fun h=>(by cases h),fun _=> ?_⟩,fun pre e a h=>⟨fun _=> ?_,fun h=>(by cases h)⟩⟩⟩,trivial⟩,trivial⟩⟩
 .rw[h] at b;rw[ju0 b]
 .rw[h] at b;have u:e∈U.jeW t p:=b.2.2.1 e (by simp);have hk:=jyR u;obtain⟨k,g,v⟩:∃k:Nat,e.1=(k:Int)/\k<=2:=⟨e.1.toNat,by omega,by omega⟩;have y:(1:Int)*2^k=2^k:=Int.one_mul _;have c:(pre++a).length<x.1.length:=(by rw[h];simp);have i:BT.Set' ((2:Int)^k):=BT.two_set (by omega);refine⟨fun f=> ?_,fun f=> ?_⟩
  .have f:e.2=0:=of_decide_eq_true f;rw[g,jDN,y];refine⟨by omega,by omega,by unfold BT.Set' at i;omega,by unfold BT.Set' at i;omega,(pre++a,uor x.2 (2^k)),⟨⟨rfl,trivial⟩,rfl,trivial⟩,jlY b (BT.uor_set b.1 i) (fun j=> ?_),c⟩;rw[BT.has_uor b.1 i,BT.has_two,jE6,decide_eq_true_eq,g,jDN];simp[f]
  .have f:¬e.2=0:=of_decide_eq_false f;exact⟨(pre++a,x.2),⟨⟨rfl,trivial⟩,rfl,trivial⟩,jlY b b.1 (fun j=>by simp[f]),c⟩
theorem jbh:ze PR 118 kd:=wa jj6 jkJ Tryz.func118 (kcC vW (kcC jtW kcN)) koN
theorem jpB:(jpX 64 [(118,kd),(156,kY),(157,kX)] [] [(155,jB)] []).ok PR:=jrT ⟨fun _=>jbh,fun _=>jmG,fun _=>jmF,trivial⟩ trivial ⟨yL,trivial⟩ trivial
theorem jhs:ze PR 122 jap:=
 jvV (body:=zw Tryz.f122) (C:=jpX 64 [(118,kd),(156,kY),(157,kX)] [] [(155,jB)] []) (hk:=hkC (jpX 64 [(118,kd),(156,kY),(157,kX)] [] [(155,jB)] []) (fun _=>none) jis [] []) jpB mixed Tryz.func122 (by kernel_rfl) (by kernel_rfl) (by kernel_rfl) (by decide)
  (fun B=>jlE jpB mixed (fun k ts rs sv d L v ρ hk c a b=>by
   unfold jis at hk
   split at hk
   case h_2=>cases hk
   simp only[Option.some.injEq] at hk
   cases hk
   exact joY c a b) jAN B) (jcR.mpr jjs)
theorem jq5:ze PR 81 jqp:=jL juh Tryz.func81 (kcC jwi (kcC jhs kcN)) koN
theorem jyE:ze PR 79 jyl:=wa jzw jA5 Tryz.func79 (kcC joD (kcC jbh kcN)) koN
end Go.X
namespace Go.X
namespace U
def gi (a b:Int):Int:=if a<b then-1 else if b<a then 1 else 0
def wd (l:List Int):Int:=match l.find? (fun n=>decide (n≠0)) with|some n=>n|none=>0
end U
structure jaQ {α:Type} (c:α->α->Int):Prop where
 anti:∀a b,c b a= -(c a b)
 trans:∀a b d,c a b<=0->c b d<=0->c a d<=0
section
variable {α:Type} {c c1 c2:α->α->Int}
theorem jaQ.refl (h:jaQ c) (a:α):c a a=0:=by have:=h.anti a a;omega
theorem jaQ.lt_le (h:jaQ c) {a b d:α} (g:c a b<0) (f:c b d<=0):c a d<0:=by
 have i:=h.trans a b d (by omega) f;have j:=h.anti a d;have k:=h.anti a b;by_cases e:c a d=0
 .have:=h.trans b d a f (by omega);omega
 .omega
theorem jaQ.le_lt (h:jaQ c) {a b d:α} (f:c a b<=0) (g:c b d<0):c a d<0:=by
 have i:=h.trans a b d f (by omega);have j:=h.anti a d;have k:=h.anti b d;by_cases e:c a d=0
 .have:=h.trans d a b (by omega) f;omega
 .omega
theorem jaQ.eq_eq (h:jaQ c) {a b d:α} (e:c a b=0) (f:c b d=0):c a d=0:=by
 have g:=h.trans a b d (by omega) (by omega);have i:=h.anti a d;have j:=h.anti a b;have k:=h.anti b d;have:=h.trans d b a (by omega) (by omega);omega
def jx8 (c1 c2:α->α->Int) (a b:α):Int:=if c1 a b≠0 then c1 a b else c2 a b
theorem jga (c:jaQ c1) (g:jaQ c2):jaQ (jx8 c1 c2) where
 anti a b:=by
  have i:=c.anti a b;have h:=g.anti a b;unfold jx8;by_cases e:c1 a b=0
  .rw[if_neg (by omega),if_neg (by omega)];exact h
  .rw[if_pos (by omega),if_pos e];exact i
 trans a b d:=by
  unfold jx8;by_cases e:c1 a b=0
  .rw[if_neg (by omega)];by_cases f:c1 b d=0
   .rw[if_neg (by omega),if_neg (by have:=c.eq_eq e f;omega)];exact g.trans a b d
   .rw[if_pos f];intro _ k;have:=c.le_lt (a:=a) (b:=b) (d:=d) (by omega) (by omega);rw[if_pos (by omega)];omega
  .rw[if_pos e];intro k;by_cases f:c1 b d=0
   .rw[if_neg (by omega)];intro _;have:=c.lt_le (a:=a) (b:=b) (d:=d) (by omega) (by omega);rw[if_pos (by omega)];omega
   .rw[if_pos f];intro h;have:=c.lt_le (a:=a) (b:=b) (d:=d) (by omega) (by omega);rw[if_pos (by omega)];omega
theorem jgI {e:Type} (h:jaQ c) (f:e->α):jaQ (fun a b=>c (f a) (f b)):=⟨fun a b=>h.anti (f a) (f b),fun a b d=>h.trans (f a) (f b) (f d)⟩
end
theorem jfo:jaQ U.gi:=by
 constructor
 .intro a b;unfold U.gi;split<;>split<;>(try split)<;>(try split)<;>omega
 .intro a b d;unfold U.gi;split<;>split<;>(try split)<;>(try split)<;>(try split)<;>(try split)<;>omega
theorem jrV {a b:Int}:U.gi a b<0↔a<b:=by
 unfold U.gi
 split
 .simp;omega
 .split<;>simp<;>omega
theorem qU {a b:Int}:U.gi a b=0↔a=b:=by
 unfold U.gi
 split
 .simp;omega
 .split
  .simp;omega
  .simp;omega
theorem jZ (x:Int) (l:List Int):U.wd (x::l)=if x≠0 then x else U.wd l:=by
 unfold U.wd;by_cases e:x=0
 .simp[List.find?,e]
 .simp[List.find?,e]
theorem kR (x:Int):U.wd [x]=x:=by
 rw[jZ]
 split
 .rfl
 .rename_i h;have:x=0:=(by omega);rw[this];rfl
theorem jmC {t:Ty} {c:t.Data->t.Data->Int} (d:jaQ c) {l:List t.Data} (h:∀x y,x∈l->y∈l->c x y=0->x=y):kj (U.jd t fun x=>(c x.1 x.2.1,())) l where
 irrefl x _:=by
  unfold U.jd;have:=d.refl x;simp only[this];rfl
 trans x y z _ _ _ b a:=by
  unfold U.jd at*;have b:=of_decide_eq_true b;have a:=of_decide_eq_true a;exact decide_eq_true (d.lt_le b (by have a:c y z<0:=a;show c y z<=0;omega))
 total x y hx hy b a:=by
  unfold U.jd at*;have b:¬c x y<0:=of_decide_eq_false b;have a:¬c y x<0:=of_decide_eq_false a;have:=d.anti x y;exact h x y hx hy (by omega)
end Go.X
namespace Go.X
namespace M
theorem mput_cons {kt:Ty} {a:Type} (k:kt.Data) (v:a) (e:kt.Data×a) (r:List (kt.Data×a)):jdr kt k v (e::r)=if @decide (k=e.1) (kt.decEq k e.1)=true then(k,v)::r else e::jdr kt k v r:=rfl
theorem mfind_cons {kt:Ty} {a:Type} (k:kt.Data) (e:kt.Data×a) (r:List (kt.Data×a)):zl kt k (e::r)=if @decide (k=e.1) (kt.decEq k e.1)=true then some e.2 else zl kt k r:=rfl
theorem dec_self {kt:Ty} (k:kt.Data): @decide (k=k) (kt.decEq k k)=true:= @decide_eq_true _ (kt.decEq k k) rfl
theorem mput_fst {kt:Ty} {b:Type} (k:kt.Data) (v:b):∀m:List (kt.Data×b),(jdr kt k v m).map (·.1)=m.map (·.1)\/(k∉m.map (·.1)/\(jdr kt k v m).map (·.1)=m.map (·.1)++[k])
 |[]=> .inr ⟨by simp,rfl⟩
 |e::r=>by
  rw[mput_cons]
  by_cases h: @decide (k=e.1) (kt.decEq k e.1)=true
  .rw[if_pos h]
   have h:k=e.1:= @of_decide_eq_true _ (kt.decEq k e.1) h
   left
   simp[h]
  .rw[if_neg h]
   have h:¬k=e.1:=fun a=>h (@decide_eq_true _ (kt.decEq k e.1) a)
   rcases mput_fst k v r with f|⟨c,d⟩
   .left;simp only[jEL,f]
   .right
    refine⟨?_,by simp only[jEL,d,jD9]⟩
    rw[jEL,jDL]
    rintro(a|a)
    .exact h a
    .exact c a
theorem mfind_mput {kt:Ty} {a:Type} (k:kt.Data) (v:a):∀l:List (kt.Data×a),zl kt k (jdr kt k v l)=some v
 |[]=>by
  rw[show jdr kt k v []=[(k,v)] from rfl,mfind_cons,if_pos (dec_self k)]
 |e::r=>by
  rw[mput_cons]
  by_cases h: @decide (k=e.1) (kt.decEq k e.1)=true
  .rw[if_pos h,mfind_cons,if_pos (dec_self k)]
  .rw[if_neg h,mfind_cons,if_neg h]
   exact mfind_mput k v r
theorem mfind_mput_ne {kt:Ty} {b:Type} {k k':kt.Data} (a:k'≠k) (v:b):∀l:List (kt.Data×b),zl kt k' (jdr kt k v l)=zl kt k' l
 |[]=>by
  rw[show jdr kt k v []=[(k,v)] from rfl,mfind_cons,if_neg (fun e=>a (@of_decide_eq_true _ (kt.decEq k' k) e))]
 |e::r=>by
  rw[mput_cons]
  by_cases h: @decide (k=e.1) (kt.decEq k e.1)=true
  .rw[if_pos h]
   have h:k=e.1:= @of_decide_eq_true _ (kt.decEq k e.1) h
   have d:¬@decide (k'=e.1) (kt.decEq k' e.1)=true:=fun c=>a ((@of_decide_eq_true _ (kt.decEq k' e.1) c).trans h.symm)
   rw[mfind_cons,mfind_cons,if_neg d,if_neg (fun e=>a (@of_decide_eq_true _ (kt.decEq k' k) e))]
  .rw[if_neg h,mfind_cons,mfind_cons,mfind_mput_ne a v r]
end M
end Go.X
namespace Go.Proofs
open Go.Shelf
def Tryz.sortSh_ren:Go.Shelf.Ren:=⟨fun|6=>98|15=>143|14=>142|28=>175|29=>176|20=>167|21=>168|22=>169|23=>170|24=>171|25=>172|26=>173|27=>174|46=>195|47=>196|48=>197|49=>198|50=>199|57=>212|n=>n,fun|22=>28|24=>54|25=>128|3=>3|39=>95|0=>0|53=>188|55=>190|4=>4|46=>181|45=>180|50=>185|5=>5|9=>9|66=>203|70=>207|76=>218|77=>219|n=>n,fun|n=>n⟩
theorem Tryz.sortSh:Go.Proofs.SlLaysF0.n6 Tryz.prog Tryz.sortSh_ren:={
 mixed:=by kernel_rfl
 f6:=⟨Tryz.f98.name,by decide,Tryz.func98.trans (congrArg some (by kernel_rfl))⟩
 f14:=⟨Tryz.f142.name,by decide,Tryz.func142.trans (congrArg some (by kernel_rfl))⟩
 f15:=Tryz.func143.trans (congrArg some (by kernel_rfl))
 f20:=⟨Tryz.f167.name,by decide,Tryz.func167.trans (congrArg some (by kernel_rfl))⟩
 f21:=⟨Tryz.f168.name,by decide,Tryz.func168.trans (congrArg some (by kernel_rfl))⟩
 f22:=⟨Tryz.f169.name,by decide,Tryz.func169.trans (congrArg some (by kernel_rfl))⟩
 f23:=⟨Tryz.f170.name,by decide,Tryz.func170.trans (congrArg some (by kernel_rfl))⟩
 f24:=⟨Tryz.f171.name,by decide,Tryz.func171.trans (congrArg some (by kernel_rfl))⟩
 f25:=⟨Tryz.f172.name,by decide,Tryz.func172.trans (congrArg some (by kernel_rfl))⟩
 f26:=⟨Tryz.f173.name,by decide,Tryz.func173.trans (congrArg some (by kernel_rfl))⟩
 f27:=⟨Tryz.f174.name,by decide,Tryz.func174.trans (congrArg some (by kernel_rfl))⟩
 f28:=Tryz.func175.trans (congrArg some (by kernel_rfl))
 f29:=Tryz.func176.trans (congrArg some (by kernel_rfl))
 f46:=⟨Tryz.f195.name,by decide,Tryz.func195.trans (congrArg some (by kernel_rfl))⟩
 f47:=Tryz.func196.trans (congrArg some (by kernel_rfl))
 f48:=Tryz.func197.trans (congrArg some (by kernel_rfl))
 f49:=⟨Tryz.f198.name,by decide,Tryz.func198.trans (congrArg some (by kernel_rfl))⟩
 f50:=⟨Tryz.f199.name,by decide,Tryz.func199.trans (congrArg some (by kernel_rfl))⟩
 f57:=⟨Tryz.f212.name,by decide,Tryz.func212.trans (congrArg some (by kernel_rfl))⟩
 t0:=Tryz.underlying0
 a0:=Tryz.isAgg0
 z0:=Tryz.sizeOf0
 v0:=Tryz.zeroValue0
 t3:=Tryz.underlying3
 a3:=Tryz.isAgg3
 z3:=Tryz.sizeOf3
 v3:=Tryz.zeroValue3
 t4:=Tryz.underlying4
 a4:=Tryz.isAgg4
 z4:=Tryz.sizeOf4
 v4:=Tryz.zeroValue4
 t5:=Tryz.underlying5
 a5:=Tryz.isAgg5
 z5:=Tryz.sizeOf5
 v5:=Tryz.zeroValue5
 t9:=Tryz.underlying9
 a9:=Tryz.isAgg9
 z9:=Tryz.sizeOf9
 v9:=Tryz.zeroValue9
 t22:=Tryz.underlying28
 a22:=Tryz.isAgg28
 z22:=Tryz.sizeOf28
 v22:=Tryz.zeroValue28
 t25:=Tryz.underlying128
 a25:=Tryz.isAgg128
 z25:=Tryz.sizeOf128
 v25:=Tryz.zeroValue128
 t39:=Tryz.underlying95
 a39:=Tryz.isAgg95
 z39:=Tryz.sizeOf95
 v39:=Tryz.zeroValue95
 t45:=Tryz.underlying180
 a45:=Tryz.isAgg180
 z45:=Tryz.sizeOf180
 v45:=Tryz.zeroValue180
 t46:=Tryz.underlying181
 a46:=Tryz.isAgg181
 z46:=Tryz.sizeOf181
 v46:=Tryz.zeroValue181
 t50:=Tryz.underlying185
 a50:=Tryz.isAgg185
 z50:=Tryz.sizeOf185
 v50:=Tryz.zeroValue185
 t53:=Tryz.underlying188
 a53:=Tryz.isAgg188
 z53:=Tryz.sizeOf188
 v53:=Tryz.zeroValue188
 t55:=Tryz.underlying190
 a55:=Tryz.isAgg190
 z55:=Tryz.sizeOf190
 v55:=Tryz.zeroValue190
 t66:=Tryz.underlying203
 a66:=Tryz.isAgg203
 z66:=Tryz.sizeOf203
 v66:=Tryz.zeroValue203
 t70:=Tryz.underlying207
 a70:=Tryz.isAgg207
 z70:=Tryz.sizeOf207
 v70:=Tryz.zeroValue207
 t76:=Tryz.underlying218
 a76:=Tryz.isAgg218
 z76:=Tryz.sizeOf218
 v76:=Tryz.zeroValue218
 t77:=Tryz.underlying219
 a77:=Tryz.isAgg219
 z77:=Tryz.sizeOf219
 v77:=Tryz.zeroValue219}
def Tryz.sortI_ren:Go.Shelf.Ren:=⟨fun|189=>120|125=>143|257=>154|128=>175|129=>176|294=>180|295=>181|296=>182|297=>183|298=>184|299=>185|216=>186|300=>187|301=>188|328=>208|329=>196|330=>197|331=>209|332=>210|215=>144|343=>216|n=>n,fun|28=>33|3=>3|46=>95|0=>0|51=>188|53=>190|4=>4|183=>181|182=>180|131=>185|5=>5|9=>9|218=>203|222=>207|228=>218|229=>219|n=>n,fun|n=>n⟩
theorem Tryz.sortI:Go.Proofs.Lays.n189 Tryz.prog Tryz.sortI_ren:={
 mixed:=by kernel_rfl
 f125:=Tryz.func143.trans (congrArg some (by kernel_rfl))
 f128:=Tryz.func175.trans (congrArg some (by kernel_rfl))
 f129:=Tryz.func176.trans (congrArg some (by kernel_rfl))
 f189:=Tryz.func120.trans (congrArg some (by kernel_rfl))
 f215:=Tryz.func144.trans (congrArg some (by kernel_rfl))
 f216:=Tryz.func186.trans (congrArg some (by kernel_rfl))
 f257:=Tryz.func154.trans (congrArg some (by kernel_rfl))
 f294:=Tryz.func180.trans (congrArg some (by kernel_rfl))
 f295:=Tryz.func181.trans (congrArg some (by kernel_rfl))
 f296:=Tryz.func182.trans (congrArg some (by kernel_rfl))
 f297:=Tryz.func183.trans (congrArg some (by kernel_rfl))
 f298:=Tryz.func184.trans (congrArg some (by kernel_rfl))
 f299:=Tryz.func185.trans (congrArg some (by kernel_rfl))
 f300:=Tryz.func187.trans (congrArg some (by kernel_rfl))
 f301:=Tryz.func188.trans (congrArg some (by kernel_rfl))
 f328:=Tryz.func208.trans (congrArg some (by kernel_rfl))
 f329:=Tryz.func196.trans (congrArg some (by kernel_rfl))
 f330:=Tryz.func197.trans (congrArg some (by kernel_rfl))
 f331:=Tryz.func209.trans (congrArg some (by kernel_rfl))
 f332:=Tryz.func210.trans (congrArg some (by kernel_rfl))
 f343:=Tryz.func216.trans (congrArg some (by kernel_rfl))
 t0:=Tryz.underlying0
 a0:=Tryz.isAgg0
 z0:=Tryz.sizeOf0
 v0:=Tryz.zeroValue0
 t3:=Tryz.underlying3
 a3:=Tryz.isAgg3
 z3:=Tryz.sizeOf3
 v3:=Tryz.zeroValue3
 t4:=Tryz.underlying4
 a4:=Tryz.isAgg4
 z4:=Tryz.sizeOf4
 v4:=Tryz.zeroValue4
 t5:=Tryz.underlying5
 a5:=Tryz.isAgg5
 z5:=Tryz.sizeOf5
 v5:=Tryz.zeroValue5
 t9:=Tryz.underlying9
 a9:=Tryz.isAgg9
 z9:=Tryz.sizeOf9
 v9:=Tryz.zeroValue9
 t28:=Tryz.underlying33
 a28:=Tryz.isAgg33
 z28:=Tryz.sizeOf33
 v28:=Tryz.zeroValue33
 t46:=Tryz.underlying95
 a46:=Tryz.isAgg95
 z46:=Tryz.sizeOf95
 v46:=Tryz.zeroValue95
 t51:=Tryz.underlying188
 a51:=Tryz.isAgg188
 z51:=Tryz.sizeOf188
 v51:=Tryz.zeroValue188
 t53:=Tryz.underlying190
 a53:=Tryz.isAgg190
 z53:=Tryz.sizeOf190
 v53:=Tryz.zeroValue190
 t131:=Tryz.underlying185
 a131:=Tryz.isAgg185
 z131:=Tryz.sizeOf185
 v131:=Tryz.zeroValue185
 t182:=Tryz.underlying180
 a182:=Tryz.isAgg180
 z182:=Tryz.sizeOf180
 v182:=Tryz.zeroValue180
 t183:=Tryz.underlying181
 a183:=Tryz.isAgg181
 z183:=Tryz.sizeOf181
 v183:=Tryz.zeroValue181
 t218:=Tryz.underlying203
 a218:=Tryz.isAgg203
 z218:=Tryz.sizeOf203
 v218:=Tryz.zeroValue203
 t222:=Tryz.underlying207
 a222:=Tryz.isAgg207
 z222:=Tryz.sizeOf207
 v222:=Tryz.zeroValue207
 t228:=Tryz.underlying218
 a228:=Tryz.isAgg218
 z228:=Tryz.sizeOf218
 v228:=Tryz.zeroValue218
 t229:=Tryz.underlying219
 a229:=Tryz.isAgg219
 z229:=Tryz.sizeOf219
 v229:=Tryz.zeroValue219}
end Go.Proofs
namespace Go.X
open Go.Proofs
abbrev rwS:Sh:= .cl (.row 54 tSh .unk)
namespace U
def jgL (s:SpD):Bool:=(decide (0<=lo s)&&decide (lo s<=hi s))&&decide (hi s<=300)
def ji2 (n:Nat) (b:BkD):Bool:=((ja (jBv b) 0 ((n:Int)-1)&&decide (0<=jdP b))&&decide (jdP b<jzt b))&&decide (jzt b<=1440)
def joQ (nb a:Nat) (s:ShD):Bool:=(((ja (zT s) 0 99&&ja (jnu s) 0 9999)&&ja (jyo s) 1 2)&&ja (joi s) 0 ((nb:Int)-1))&&ja (jcA s) 0 ((a:Int)-1)
def wY (a b:ShD):Int:=wd [gi (zT a) (zT b),gi (jnu a) (jnu b),gi (jyo a) (jyo b),gi (joi a) (joi b),gi (jcA a) (jcA b)]
def jo (a b:ShD):Int:=wd [gi (jnu a) (jnu b),gi (zT a) (zT b)]
def kS (a b:ShD):Bool:=decide (a=b)
def jG (l:List ShD):List ShD:=qC kS (jc (jd tSh fun x=>(wY x.1 x.2.1,())) l)
def jca (m:List (Int×Int)) (s:ShD):List (Int×Int):=jdr .int (zT s) (kx 0 (zl .int (zT s) m)+1) m
def kC (m:List (Int×Int)) (l:List ShD) (n:Nat):List (Int×Int):=(l.take n).foldl jca m
def jta (m:List (Int×Int)) (s:ShD):Bool:=decide (1<kx 0 (zl .int (zT s) (jca m s)))
def jfA (m:List (Int×Int)) (l:List ShD) (i:Nat):Bool:=jta (kC m l i) (nth l i)
def jbP (m:List (Int×Int)) (l:List ShD):Int:=gq (jfA m l) (List.range l.length)
def jxZ (m:List (Int×Int)) (l:List ShD):Nat:=match(List.range l.length).findIdx? (jfA m l) with|some i=>i+1|none=>l.length
def jdL (m:List (Int×Int)) (l:List ShD):List (Int×Int):=kC m l (jxZ m l)
def jCy (m:List (Int×Int)):Prop:=m=[]
def jvD (m:List (Int×Int)):Prop:=∀k,0<=kx 0 (zl .int k m)/\kx 0 (zl .int k m)<=200000
def jrL (l:List ShD):Bool:=decide (0<=jbP [] l)
def jj1 (d:DyD):Int:=if ju (jf d)=false then 30 else if jwN d=false then 31 else 0
def jz (d:DyD):Int:=if jj1 d≠0 then jj1 d else if zo d=false then 50 else if jrL (jG (jW d))=true then 51 else 0
end U
def jqq:jO:=⟨[.val .int,.val .int,.val .int],[.bool],false,fun _=>[],fun d=>(U.ja d.1 d.2.1 d.2.2.1,())⟩
def jp4:Prop:=∀(d:Int×Int×Int×Unit),(decide (d.2.1<=d.1)&&decide (d.1<=d.2.2.1),())=(U.ja d.1 d.2.1 d.2.2.1,())
def jcj:jO:=⟨[.val (.slice tSp),.fn [tSp] [.bool]],[.int],false,fun d=>[∀g∈d.1,U.jx (d.2.1.pre (g,()))],fun d=>(U.gq (U.jb (α:=SpD) d.2.1.F) d.1,())⟩
def jcx:Ann:=fun r=>match r with
 |2=>some fun σ=>{X:=Nat,sl:=fun i=>[(8,.dat .int (i:Int))],ob:=fun _=>[],inv:=fun i=>i<=(gd (.slice tSp) σ 0).length/\∀b:Nat,b<i->U.jb (gfb tSp σ 1) (nth (gd (.slice tSp) σ 0) b)=false,mu:=fun i=>(gd (.slice tSp) σ 0).length-i}
 |_=>none
def jcf:Prop:=∀(d:List (Int×Int×Unit)×FnD [tSp] [Ty.bool]×Unit),(∀(g:Int×Int×Unit),g∈d.1->U.jx (d.2.1.1 (g,())))->d.1.length<4611686018427387904->(∃(x:Nat),((0=(x:Int)/\True)/\True)/\x<=d.1.length/\∀(b:Nat),b<x->U.jb d.2.1.2 (nth d.1 b)=false)/\∀(x:Nat),(x<=d.1.length/\∀(b:Nat),b<x->U.jb d.2.1.2 (nth d.1 b)=false)->(decide ((x:Int)<(d.1.length:Int))=true->0<=(x:Int)/\(x:Int)<(d.1.length:Int)/\asks (d.2.1.1 (nth d.1 (x:Int).toNat,())) (((d.2.1.2 (nth d.1 (x:Int).toNat,())).1=true->((x:Int),())=(U.gq (U.jb d.2.1.2) d.1,()))/\((d.2.1.2 (nth d.1 (x:Int).toNat,())).1=false->jA ((x:Int)+1)/\∃(a:Nat),(((x:Int)+1=(a:Int)/\True)/\True)/\(a<=d.1.length/\∀(b:Nat),b<a->U.jb d.2.1.2 (nth d.1 b)=false)/\d.1.length-a<d.1.length-x)))/\(decide ((x:Int)<(d.1.length:Int))=false->((-1:Int),())=(U.gq (U.jb d.2.1.2) d.1,()))
def gF:jO:=⟨[.val (.slice tSp),.fn [tSp] [.bool]],[.bool],false,fun d=>[∀g∈d.1,U.jx (d.2.1.pre (g,()))],fun d=>(d.1.any (U.jb (α:=SpD) d.2.1.F),())⟩
def gC:Prop:=∀(d:List (Int×Int×Unit)×FnD [tSp] [Ty.bool]×Unit),(∀(g:Int×Int×Unit),g∈d.1->U.jx (d.2.1.1 (g,())))->(∀(g:Int×Int×Unit),g∈d.1->U.jx (d.2.1.1 (g,())))/\(decide (0<=U.gq (U.jb d.2.1.2) d.1),())=(d.1.any (U.jb d.2.1.2),())
def ja3:jO:=⟨[.val (.slice (.slice tSp)),.fn [(.slice tSp)] [.bool]],[.int],false,fun d=>[∀g∈d.1,U.jx (d.2.1.pre (g,()))],fun d=>(U.gq (U.jb (α:=(List SpD)) d.2.1.F) d.1,())⟩
def jbL:Ann:=fun r=>match r with
 |2=>some fun σ=>{X:=Nat,sl:=fun i=>[(8,.dat .int (i:Int))],ob:=fun _=>[],inv:=fun i=>i<=(gd (.slice (.slice tSp)) σ 0).length/\∀b:Nat,b<i->U.jb (gfb (.slice tSp) σ 1) (nth (gd (.slice (.slice tSp)) σ 0) b)=false,mu:=fun i=>(gd (.slice (.slice tSp)) σ 0).length-i}
 |_=>none
def jaV:Prop:=∀(d:List (List (Int×Int×Unit))×FnD [tSp.slice] [Ty.bool]×Unit),(∀(g:List (Int×Int×Unit)),g∈d.1->U.jx (d.2.1.1 (g,())))->d.1.length<4611686018427387904->(∃(x:Nat),((0=(x:Int)/\True)/\True)/\x<=d.1.length/\∀(b:Nat),b<x->U.jb d.2.1.2 (nth d.1 b)=false)/\∀(x:Nat),(x<=d.1.length/\∀(b:Nat),b<x->U.jb d.2.1.2 (nth d.1 b)=false)->(decide ((x:Int)<(d.1.length:Int))=true->0<=(x:Int)/\(x:Int)<(d.1.length:Int)/\asks (d.2.1.1 (nth d.1 (x:Int).toNat,())) (((d.2.1.2 (nth d.1 (x:Int).toNat,())).1=true->((x:Int),())=(U.gq (U.jb d.2.1.2) d.1,()))/\((d.2.1.2 (nth d.1 (x:Int).toNat,())).1=false->jA ((x:Int)+1)/\∃(a:Nat),(((x:Int)+1=(a:Int)/\True)/\True)/\(a<=d.1.length/\∀(b:Nat),b<a->U.jb d.2.1.2 (nth d.1 b)=false)/\d.1.length-a<d.1.length-x)))/\(decide ((x:Int)<(d.1.length:Int))=false->((-1:Int),())=(U.gq (U.jb d.2.1.2) d.1,()))
def yB:jO:=⟨[.val (.slice (.slice tSp)),.fn [(.slice tSp)] [.bool]],[.bool],false,fun d=>[∀g∈d.1,U.jx (d.2.1.pre (g,()))],fun d=>(d.1.any (U.jb (α:=(List SpD)) d.2.1.F),())⟩
def yx:Prop:=∀(d:List (List (Int×Int×Unit))×FnD [tSp.slice] [Ty.bool]×Unit),(∀(g:List (Int×Int×Unit)),g∈d.1->U.jx (d.2.1.1 (g,())))->(∀(g:List (Int×Int×Unit)),g∈d.1->U.jx (d.2.1.1 (g,())))/\(decide (0<=U.gq (U.jb d.2.1.2) d.1),())=(d.1.any (U.jb d.2.1.2),())
def gE:jO:=⟨[.val (.slice tBk),.fn [tBk] [.bool]],[.int],false,fun d=>[∀g∈d.1,U.jx (d.2.1.pre (g,()))],fun d=>(U.gq (U.jb (α:=BkD) d.2.1.F) d.1,())⟩
def jah:Ann:=fun r=>match r with
 |2=>some fun σ=>{X:=Nat,sl:=fun i=>[(8,.dat .int (i:Int))],ob:=fun _=>[],inv:=fun i=>i<=(gd (.slice tBk) σ 0).length/\∀b:Nat,b<i->U.jb (gfb tBk σ 1) (nth (gd (.slice tBk) σ 0) b)=false,mu:=fun i=>(gd (.slice tBk) σ 0).length-i}
 |_=>none
def gB:Prop:=∀(d:List BkD×FnD [tBk] [Ty.bool]×Unit),(∀(g:BkD),g∈d.1->U.jx (d.2.1.1 (g,())))->d.1.length<4611686018427387904->(∃(x:Nat),((0=(x:Int)/\True)/\True)/\x<=d.1.length/\∀(b:Nat),b<x->U.jb d.2.1.2 (nth d.1 b)=false)/\∀(x:Nat),(x<=d.1.length/\∀(b:Nat),b<x->U.jb d.2.1.2 (nth d.1 b)=false)->(decide ((x:Int)<(d.1.length:Int))=true->0<=(x:Int)/\(x:Int)<(d.1.length:Int)/\asks (d.2.1.1 (nth d.1 (x:Int).toNat,())) (((d.2.1.2 (nth d.1 (x:Int).toNat,())).1=true->((x:Int),())=(U.gq (U.jb d.2.1.2) d.1,()))/\((d.2.1.2 (nth d.1 (x:Int).toNat,())).1=false->jA ((x:Int)+1)/\∃(a:Nat),(((x:Int)+1=(a:Int)/\True)/\True)/\(a<=d.1.length/\∀(b:Nat),b<a->U.jb d.2.1.2 (nth d.1 b)=false)/\d.1.length-a<d.1.length-x)))/\(decide ((x:Int)<(d.1.length:Int))=false->((-1:Int),())=(U.gq (U.jb d.2.1.2) d.1,()))
def vJ:jO:=⟨[.val (.slice tBk),.fn [tBk] [.bool]],[.bool],false,fun d=>[∀g∈d.1,U.jx (d.2.1.pre (g,()))],fun d=>(d.1.any (U.jb (α:=BkD) d.2.1.F),())⟩
def vI:Prop:=∀(d:List BkD×FnD [tBk] [Ty.bool]×Unit),(∀(g:BkD),g∈d.1->U.jx (d.2.1.1 (g,())))->(∀(g:BkD),g∈d.1->U.jx (d.2.1.1 (g,())))/\(decide (0<=U.gq (U.jb d.2.1.2) d.1),())=(d.1.any (U.jb d.2.1.2),())
def ja4:jO:=⟨[.val (.slice tSh),.fn [tSh] [.bool]],[.int],false,fun d=>[∀g∈d.1,U.jx (d.2.1.pre (g,()))],fun d=>(U.gq (U.jb (α:=ShD) d.2.1.F) d.1,())⟩
def jbM:Ann:=fun r=>match r with
 |2=>some fun σ=>{X:=Nat,sl:=fun i=>[(8,.dat .int (i:Int))],ob:=fun _=>[],inv:=fun i=>i<=(gd (.slice tSh) σ 0).length/\∀b:Nat,b<i->U.jb (gfb tSh σ 1) (nth (gd (.slice tSh) σ 0) b)=false,mu:=fun i=>(gd (.slice tSh) σ 0).length-i}
 |_=>none
def jaW:Prop:=∀(d:List ShD×FnD [tSh] [Ty.bool]×Unit),(∀(g:ShD),g∈d.1->U.jx (d.2.1.1 (g,())))->d.1.length<4611686018427387904->(∃(x:Nat),((0=(x:Int)/\True)/\True)/\x<=d.1.length/\∀(b:Nat),b<x->U.jb d.2.1.2 (nth d.1 b)=false)/\∀(x:Nat),(x<=d.1.length/\∀(b:Nat),b<x->U.jb d.2.1.2 (nth d.1 b)=false)->(decide ((x:Int)<(d.1.length:Int))=true->0<=(x:Int)/\(x:Int)<(d.1.length:Int)/\asks (d.2.1.1 (nth d.1 (x:Int).toNat,())) (((d.2.1.2 (nth d.1 (x:Int).toNat,())).1=true->((x:Int),())=(U.gq (U.jb d.2.1.2) d.1,()))/\((d.2.1.2 (nth d.1 (x:Int).toNat,())).1=false->jA ((x:Int)+1)/\∃(a:Nat),(((x:Int)+1=(a:Int)/\True)/\True)/\(a<=d.1.length/\∀(b:Nat),b<a->U.jb d.2.1.2 (nth d.1 b)=false)/\d.1.length-a<d.1.length-x)))/\(decide ((x:Int)<(d.1.length:Int))=false->((-1:Int),())=(U.gq (U.jb d.2.1.2) d.1,()))
def yC:jO:=⟨[.val (.slice tSh),.fn [tSh] [.bool]],[.bool],false,fun d=>[∀g∈d.1,U.jx (d.2.1.pre (g,()))],fun d=>(d.1.any (U.jb (α:=ShD) d.2.1.F),())⟩
def yy:Prop:=∀(d:List ShD×FnD [tSh] [Ty.bool]×Unit),(∀(g:ShD),g∈d.1->U.jx (d.2.1.1 (g,())))->(∀(g:ShD),g∈d.1->U.jx (d.2.1.1 (g,())))/\(decide (0<=U.gq (U.jb d.2.1.2) d.1),())=(d.1.any (U.jb d.2.1.2),())
def jfQ:jO:=⟨[.val tSp,.rfn [tSp] [.bool]],[.bool],false,fun d=>[U.jx (d.2.1.pre (d.1,()))],fun d=>(!(U.jb (α:=SpD) d.2.1.F d.1),())⟩
def jfL:Prop:=∀(d:(Int×Int×Unit)×FnD [tSp] [Ty.bool]×Unit),U.jx (d.2.1.1 (d.1,()))->asks (d.2.1.1 (d.1,())) ((!(d.2.1.2 (d.1,())).1,())=(!U.jb d.2.1.2 d.1,()))
def jiz:jO:=⟨[.val (.slice tSp),.fn [tSp] [.bool]],[.bool],false,fun d=>[∀g∈d.1,U.jx (d.2.1.pre (g,()))],fun d=>(d.1.all (U.jb (α:=SpD) d.2.1.F),())⟩
def jim:Prop:=∀(d:List (Int×Int×Unit)×FnD [tSp] [Ty.bool]×Unit),(∀(g:Int×Int×Unit),g∈d.1->U.jx (d.2.1.1 (g,())))->(∀(g:Int×Int×Unit),g∈d.1->U.jx [U.jx (d.2.1.1 (g,()))])/\(!d.1.any (U.jb fun(a:(Int×Int×Unit)×Unit)=>(!U.jb d.2.1.2 a.1,())),())=(d.1.all (U.jb d.2.1.2),())
def jem:jO:=⟨[.val (.slice tSp),.rfn [(.slice tSp)] [.bool]],[.bool],false,fun d=>[U.jx (d.2.1.pre (d.1,()))],fun d=>(!(U.jb (α:=(List SpD)) d.2.1.F d.1),())⟩
def jea:Prop:=∀(d:List (Int×Int×Unit)×FnD [tSp.slice] [Ty.bool]×Unit),U.jx (d.2.1.1 (d.1,()))->asks (d.2.1.1 (d.1,())) ((!(d.2.1.2 (d.1,())).1,())=(!U.jb d.2.1.2 d.1,()))
def jhi:jO:=⟨[.val (.slice (.slice tSp)),.fn [(.slice tSp)] [.bool]],[.bool],false,fun d=>[∀g∈d.1,U.jx (d.2.1.pre (g,()))],fun d=>(d.1.all (U.jb (α:=(List SpD)) d.2.1.F),())⟩
def jg8:Prop:=∀(d:List (List (Int×Int×Unit))×FnD [tSp.slice] [Ty.bool]×Unit),(∀(g:List (Int×Int×Unit)),g∈d.1->U.jx (d.2.1.1 (g,())))->(∀(g:List (Int×Int×Unit)),g∈d.1->U.jx [U.jx (d.2.1.1 (g,()))])/\(!d.1.any (U.jb fun(a:List (Int×Int×Unit)×Unit)=>(!U.jb d.2.1.2 a.1,())),())=(d.1.all (U.jb d.2.1.2),())
def jck:jO:=⟨[.val tBk,.rfn [tBk] [.bool]],[.bool],false,fun d=>[U.jx (d.2.1.pre (d.1,()))],fun d=>(!(U.jb (α:=BkD) d.2.1.F d.1),())⟩
def jci:Prop:=∀(d:BkD×FnD [tBk] [Ty.bool]×Unit),U.jx (d.2.1.1 (d.1,()))->asks (d.2.1.1 (d.1,())) ((!(d.2.1.2 (d.1,())).1,())=(!U.jb d.2.1.2 d.1,()))
def jeo:jO:=⟨[.val (.slice tBk),.fn [tBk] [.bool]],[.bool],false,fun d=>[∀g∈d.1,U.jx (d.2.1.pre (g,()))],fun d=>(d.1.all (U.jb (α:=BkD) d.2.1.F),())⟩
def jec:Prop:=∀(d:List BkD×FnD [tBk] [Ty.bool]×Unit),(∀(g:BkD),g∈d.1->U.jx (d.2.1.1 (g,())))->(∀(g:BkD),g∈d.1->U.jx [U.jx (d.2.1.1 (g,()))])/\(!d.1.any (U.jb fun(a:BkD×Unit)=>(!U.jb d.2.1.2 a.1,())),())=(d.1.all (U.jb d.2.1.2),())
def jen:jO:=⟨[.val tSh,.rfn [tSh] [.bool]],[.bool],false,fun d=>[U.jx (d.2.1.pre (d.1,()))],fun d=>(!(U.jb (α:=ShD) d.2.1.F d.1),())⟩
def jeb:Prop:=∀(d:ShD×FnD [tSh] [Ty.bool]×Unit),U.jx (d.2.1.1 (d.1,()))->asks (d.2.1.1 (d.1,())) ((!(d.2.1.2 (d.1,())).1,())=(!U.jb d.2.1.2 d.1,()))
def jhj:jO:=⟨[.val (.slice tSh),.fn [tSh] [.bool]],[.bool],false,fun d=>[∀g∈d.1,U.jx (d.2.1.pre (g,()))],fun d=>(d.1.all (U.jb (α:=ShD) d.2.1.F),())⟩
def jg9:Prop:=∀(d:List ShD×FnD [tSh] [Ty.bool]×Unit),(∀(g:ShD),g∈d.1->U.jx (d.2.1.1 (g,())))->(∀(g:ShD),g∈d.1->U.jx [U.jx (d.2.1.1 (g,()))])/\(!d.1.any (U.jb fun(a:ShD×Unit)=>(!U.jb d.2.1.2 a.1,())),())=(d.1.all (U.jb d.2.1.2),())
def jn4:jO:=⟨[.val tSp],[.bool],false,fun _=>[],fun d=>(U.jgL d.1,())⟩
def jnH:Prop:=∀(d:(Int×Int×Unit)×Unit),(decide (0<=d.1.1)&&decide (d.1.1<=d.1.2.1)&&decide (d.1.2.1<=300),())=(U.jgL d.1,())
def jn3:jO:=⟨[.val (.slice tSp),.ref tDy,.rfn [tSp] [.bool]],[.bool],false,fun d=>[∀g∈d.1,U.jx (d.2.2.1.pre (g,()))],fun d=>(decide ((d.1.length:Int)=((U.jt d.2.1).length:Int))&&d.1.all (U.jb (α:=SpD) d.2.2.1.F),())⟩
def jnG:Prop:=∀(d:List (Int×Int×Unit)×DyD×FnD [tSp] [Ty.bool]×Unit),(∀(g:Int×Int×Unit),g∈d.1->U.jx (d.2.2.1.1 (g,())))->d.1.length<4611686018427387904->d.2.1.2.1.length<4611686018427387904->(decide ((d.1.length:Int)=(d.2.1.2.1.length:Int))=true->∀(g:Int×Int×Unit),g∈d.1->U.jx (d.2.2.1.1 (g,())))/\(decide ((d.1.length:Int)=(d.2.1.2.1.length:Int))&&d.1.all (U.jb d.2.2.1.2),())=(decide ((d.1.length:Int)=(↑(U.jt d.2.1).length:Int))&&d.1.all (U.jb d.2.2.1.2),())
def jn2:jO:=⟨[.val tBk,.ref tDy],[.bool],false,fun _=>[],fun d=>(U.ji2 (U.jt d.2.1).length d.1,())⟩
def jnF:Prop:=∀(d:BkD×DyD×Unit),d.2.1.2.1.length<4611686018427387904->jA ((d.2.1.2.1.length:Int)-1)/\(U.ja d.1.2.1 (0:Int) ((d.2.1.2.1.length:Int)-1)&&decide (0<=d.1.2.2.1)&&decide (d.1.2.2.1<d.1.2.2.2.1)&&decide (d.1.2.2.2.1<=1440),())=(U.ji2 (U.jt d.2.1).length d.1,())
def jn1:jO:=⟨[.val tSh,.ref tDy],[.bool],false,fun _=>[],fun d=>(U.joQ (U.jp d.2.1).length (U.jj (U.jf d.2.1)).length d.1,())⟩
abbrev q58_0 (d:ShD×DyD×Unit):=(U.ja d.1.1 (0:Int) (99:Int)&&U.ja d.1.2.1 (0:Int) (9999:Int)&&U.ja d.1.2.2.1 (1:Int) (2:Int)&&U.ja d.1.2.2.2.1 (0:Int) ((d.2.1.2.2.1.length:Int)-1))
abbrev q58_1 (d:ShD×DyD×Unit):=(U.ja d.1.1 (0:Int) (99:Int)&&U.ja d.1.2.1 (0:Int) (9999:Int)&&U.ja d.1.2.2.1 (1:Int) (2:Int))
def jnE:Prop:=∀(d:ShD×DyD×Unit),((q58_1 d)=true->d.2.1.2.2.1.length<4611686018427387904)->((q58_1 d)=true->jA ((d.2.1.2.2.1.length:Int)-1))/\(((q58_0 d)=true->d.2.1.1.2.1.length<4611686018427387904)->((q58_0 d)=true->jA ((d.2.1.1.2.1.length:Int)-1))/\(U.ja d.1.1 (0:Int) (99:Int)&&U.ja d.1.2.1 (0:Int) (9999:Int)&&U.ja d.1.2.2.1 (1:Int) (2:Int)&&U.ja d.1.2.2.2.1 (0:Int) ((d.2.1.2.2.1.length:Int)-1)&&U.ja d.1.2.2.2.2.1 (0:Int) ((d.2.1.1.2.1.length:Int)-1),())=(U.joQ (U.jp d.2.1).length (U.jj (U.jf d.2.1)).length d.1,()))
def jtD:jO:=⟨[.val tDy],[.bool],false,fun _=>[],fun d=>(U.zo d.1,())⟩
abbrev q59_0 (d:DyD×Unit):=((d.1.2.2.1.length:Int)<=4)
abbrev q59_1 (d:DyD×Unit):=(↑(U.jt d.1).length:Int)
abbrev q59_2 (d:DyD×Unit):=(d.1.2.1.length:Int)
def jtl:Prop:=∀(d:DyD×Unit),d.1.2.2.1.length<4611686018427387904->(decide (q59_0 d)=true->d.1.2.1.length<4611686018427387904)->((decide (q59_0 d)&&U.ja (q59_2 d) (1:Int) (5:Int))=true->∀(g:List (Int×Int×Unit)),g∈d.1.2.1->U.jx [∀(a:Int×Int×Unit),a∈g->U.jx []])/\((decide (q59_0 d)&&U.ja (q59_2 d) (1:Int) (5:Int)&&d.1.2.1.all (U.jb fun(b:List (Int×Int×Unit)×Unit)=>(decide ((b.1.length:Int)=(q59_1 d))&&b.1.all (U.jb fun(h:(Int×Int×Unit)×Unit)=>(U.jgL h.1,())),())))=true->∀(i:BkD),i∈d.1.2.2.1->U.jx [])/\(((decide (q59_0 d)&&U.ja (q59_2 d) (1:Int) (5:Int)&&d.1.2.1.all (U.jb fun(c:List (Int×Int×Unit)×Unit)=>(decide ((c.1.length:Int)=(q59_1 d))&&c.1.all (U.jb fun(j:(Int×Int×Unit)×Unit)=>(U.jgL j.1,())),()))&&d.1.2.2.1.all (U.jb fun(n:BkD×Unit)=>(U.ji2 (U.jt d.1).length n.1,()))&&U.ja d.1.2.2.2.1 (0:Int) (300:Int)&&U.ja d.1.2.2.2.2.1 (0:Int) (1440:Int))=true->d.1.2.2.2.2.2.1.length<4611686018427387904)->((decide (q59_0 d)&&U.ja (q59_2 d) (1:Int) (5:Int)&&d.1.2.1.all (U.jb fun(e:List (Int×Int×Unit)×Unit)=>(decide ((e.1.length:Int)=(q59_1 d))&&e.1.all (U.jb fun(k:(Int×Int×Unit)×Unit)=>(U.jgL k.1,())),()))&&d.1.2.2.1.all (U.jb fun(o:BkD×Unit)=>(U.ji2 (U.jt d.1).length o.1,()))&&U.ja d.1.2.2.2.1 (0:Int) (300:Int)&&U.ja d.1.2.2.2.2.1 (0:Int) (1440:Int)&&decide ((d.1.2.2.2.2.2.1.length:Int)<=30))=true->∀(l:ShD),l∈d.1.2.2.2.2.2.1->U.jx [])/\(decide (q59_0 d)&&U.ja (q59_2 d) (1:Int) (5:Int)&&d.1.2.1.all (U.jb fun(f:List (Int×Int×Unit)×Unit)=>(decide ((f.1.length:Int)=(q59_1 d))&&f.1.all (U.jb fun(m:(Int×Int×Unit)×Unit)=>(U.jgL m.1,())),()))&&d.1.2.2.1.all (U.jb fun(z6:BkD×Unit)=>(U.ji2 (U.jt d.1).length z6.1,()))&&U.ja d.1.2.2.2.1 (0:Int) (300:Int)&&U.ja d.1.2.2.2.2.1 (0:Int) (1440:Int)&&decide ((d.1.2.2.2.2.2.1.length:Int)<=30)&&d.1.2.2.2.2.2.1.all (U.jb fun(z7:ShD×Unit)=>(U.joQ (U.jp d.1).length (U.jj (U.jf d.1)).length z7.1,())),())=(U.zo d.1,()))
def jhl:jO:=⟨[.val .int],[.bool],false,fun _=>[],fun _=>(false,())⟩
def jhb:Prop:=∀(d:Int×Unit),(decide (d.1≠d.1),())=(false,())
def jep:jO:=⟨[.val .int,.val .int],[.int],false,fun _=>[],fun d=>(U.gi d.1 d.2.1,())⟩
abbrev q61_0 (d:Int×Int×Unit):=(U.gi d.1 d.2.1,())
def jed:Prop:=∀(d:Int×Int×Unit),(false=true->(false=true->((0:Int),())=(q61_0 d))/\(false=false->((-1:Int),())=(q61_0 d)))/\(false=false->(false=true->((1:Int),())=(q61_0 d))/\(false=false->(decide (d.1<d.2.1)=true->((-1:Int),())=(q61_0 d))/\(decide (d.1<d.2.1)=false->(decide (d.2.1<d.1)=true->((1:Int),())=(q61_0 d))/\(decide (d.2.1<d.1)=false->((0:Int),())=(q61_0 d)))))
def jmi:jO:=⟨[.val (.slice .int)],[.int],false,fun _=>[],fun d=>(U.wd d.1,())⟩
def jnn:Ann:=fun r=>match r with
 |3=>some fun σ=>{X:=Nat,sl:=fun i=>[(8,.dat .int (i:Int))],ob:=fun _=>[],inv:=fun i=>i<=(gd (.slice .int) σ 0).length/\∀b:Nat,b<i->nth (gd (.slice .int) σ 0) b=0,mu:=fun i=>(gd (.slice .int) σ 0).length-i}
 |_=>none
def jl8:Prop:=∀(d:List Int×Unit),d.1.length<4611686018427387904->(∃(x:Nat),((0=(x:Int)/\True)/\True)/\x<=d.1.length/\∀(b:Nat),b<x->nth d.1 b=0)/\∀(x:Nat),(x<=d.1.length/\∀(b:Nat),b<x->nth d.1 b=0)->(decide ((x:Int)<(d.1.length:Int))=true->0<=(x:Int)/\(x:Int)<(d.1.length:Int)/\(decide (nth d.1 (x:Int).toNat≠0)=true->(nth d.1 (x:Int).toNat,())=(U.wd d.1,()))/\(decide (nth d.1 (x:Int).toNat≠0)=false->jA ((x:Int)+1)/\∃(a:Nat),(((x:Int)+1=(a:Int)/\True)/\True)/\(a<=d.1.length/\∀(b:Nat),b<a->nth d.1 b=0)/\d.1.length-a<d.1.length-x))/\(decide ((x:Int)<(d.1.length:Int))=false->((0:Int),())=(U.wd d.1,()))
def jiA:jO:=⟨[.val tSh,.val tSh],[.int],false,fun _=>[],fun d=>(U.wY d.1 d.2.1,())⟩
def jin:Prop:=∀(d:ShD×ShD×Unit),(U.wd [U.gi d.1.1 d.2.1.1,U.gi d.1.2.1 d.2.1.2.1,U.gi d.1.2.2.1 d.2.1.2.2.1,U.gi d.1.2.2.2.1 d.2.1.2.2.2.1,U.gi d.1.2.2.2.2.1 d.2.1.2.2.2.2.1],())=(U.wY d.1 d.2.1,())
def jqr:jO:=⟨[.val tSh,.val tSh],[.int],false,fun _=>[],fun d=>(U.jo d.1 d.2.1,())⟩
def jp5:Prop:=∀(d:ShD×ShD×Unit),(U.wd [U.gi d.1.2.1 d.2.1.2.1,U.gi d.1.1 d.2.1.1],())=(U.jo d.1 d.2.1,())
def jfT:zr:=⟨[.val (.slice tSh)],[rwS],fun d=>[d.1.length<=100000],fun d=>((d.1,()),())⟩
def jfH:Prop:=∀(d:List ShD×Unit),d.1.length<=100000->∀(a:Bool),(a=true->d.1=[])->(a=true->([],())=d/\()=())/\(a=false->(0+d.1.length)*40<=140737488355328/\([]++d.1,())=d/\()=())
def jc8:zr:=⟨[.own rwS false],[rwS],fun d=>[d.1.length<=100000],fun d=>((U.qC U.kS d.1,()),())⟩
def jdU:Ann:=fun r=>match r with
 |4=>some fun σ=>{X:=Nat,sl:=fun i=>[(3,.dat .int (i:Int))],ob:=fun _=>[],inv:=fun i=>U.jA3 U.kS (gr tSh σ 1000000) i,mu:=fun i=>(gr tSh σ 1000000).length-i}
 |9=>some fun σ=>{X:=Nat×List ShD,sl:=fun x=>[(5,.dat .int (x.1:Int)),(3,.dat .int (U.jcC U.kS (gr tSh σ 1000000) ((gd .int σ 3).toNat+x.1)))],ob:=fun x=>[(1000000,some (.row 54 tSh false .unk x.2))],inv:=fun x=>U.jri U.kS (gr tSh σ 1000000) (gd .int σ 3).toNat x.1 x.2,mu:=fun x=>(gr tSh σ 1000000).length-x.1}
 |_=>none
abbrev q66_0 (x:Nat)(a:Nat×List ShD):=((x:Int).toNat+a.1)
abbrev q66_2 (d:List ShD×Unit)(x:Nat)(a:Nat×List ShD):=(List.take (U.jcC U.kS d.1 (q66_0 x a)).toNat a.2++List.replicate ((a.2.length:Int).toNat-(U.jcC U.kS d.1 (q66_0 x a)).toNat) ((0:Int),(0:Int),(0:Int),(0:Int),(0:Int),()))
abbrev q66_3 (a:Nat×List ShD)(x:Nat):=(!decide (nth a.2 ((x:Int).toNat+(a.1:Int).toNat)=nth a.2 ((x:Int).toNat+((a.1:Int)-1).toNat)))
abbrev q66_4 (d:List ShD×Unit):=(d.1.length:Int)
abbrev q66_1 (d:List ShD×Unit)(x:Nat):=(↑((q66_4 d).toNat-(x:Int).toNat):Int)
def jcW:Prop:=∀(d:List ShD×Unit),d.1.length<=100000->d.1.length<4611686018427387904->(decide ((q66_4 d)<2)=true->d=(U.qC U.kS d.1,())/\()=())/\(decide ((q66_4 d)<2)=false->(∃(x:Nat),((1=(x:Int)/\True)/\True)/\U.jA3 U.kS d.1 x)/\∀(x:Nat),U.jA3 U.kS d.1 x->d.1.length<4611686018427387904->(decide ((x:Int)<(q66_4 d))=true->0<=(x:Int)/\(x:Int)<(q66_4 d)/\jA ((x:Int)-1)/\0<=(x:Int)-1/\(x:Int)-1<(q66_4 d)/\(decide (nth d.1 (x:Int).toNat=nth d.1 ((x:Int)-1).toNat)=true->0<=(x:Int)/\(x:Int)<=(q66_4 d)/\(q66_4 d)<=(q66_4 d)/\(∃(a:Nat×List ShD),((1=(a.1:Int)/\(x:Int)=U.jcC U.kS d.1 (q66_0 x a)/\True)/\d.1=a.2/\True)/\U.jri U.kS d.1 (x:Int).toNat a.1 a.2)/\∀(a:Nat×List ShD),U.jri U.kS d.1 (x:Int).toNat a.1 a.2->(q66_4 d).toNat-(x:Int).toNat<4611686018427387904->(decide ((a.1:Int)<(q66_1 d x))=true->0<=(a.1:Int)/\(a.1:Int)<(q66_1 d x)/\jA ((a.1:Int)-1)/\0<=(a.1:Int)-1/\(a.1:Int)-1<(q66_1 d x)/\((q66_3 a x)=true->0<=(a.1:Int)/\(a.1:Int)<(q66_1 d x)/\0<=U.jcC U.kS d.1 (q66_0 x a)/\U.jcC U.kS d.1 (q66_0 x a)<(a.2.length:Int)/\jA (U.jcC U.kS d.1 (q66_0 x a)+1)/\jA ((a.1:Int)+1)/\∃(b:Nat×List ShD),(((a.1:Int)+1=(b.1:Int)/\U.jcC U.kS d.1 (q66_0 x a)+1=U.jcC U.kS d.1 ((x:Int).toNat+b.1)/\True)/\a.2.set (U.jcC U.kS d.1 (q66_0 x a)).toNat (nth a.2 ((x:Int).toNat+(a.1:Int).toNat))=b.2/\True)/\U.jri U.kS d.1 (x:Int).toNat b.1 b.2/\d.1.length-b.1<d.1.length-a.1)/\((q66_3 a x)=false->jA ((a.1:Int)+1)/\∃(b:Nat×List ShD),((U.jcC U.kS d.1 (q66_0 x a)=U.jcC U.kS d.1 ((x:Int).toNat+b.1)/\(a.1:Int)+1=(b.1:Int)/\True)/\a.2=b.2/\True)/\U.jri U.kS d.1 (x:Int).toNat b.1 b.2/\d.1.length-b.1<d.1.length-a.1))/\(decide ((a.1:Int)<(q66_1 d x))=false->0<=U.jcC U.kS d.1 (q66_0 x a)/\U.jcC U.kS d.1 (q66_0 x a)<=(a.2.length:Int)/\(a.2.length:Int)<=(a.2.length:Int)/\(U.jcC U.kS d.1 (q66_0 x a)).toNat+((a.2.length:Int).toNat-(U.jcC U.kS d.1 (q66_0 x a)).toNat)=a.2.length/\(0:Int)<=0/\0<=U.jcC U.kS d.1 (q66_0 x a)/\U.jcC U.kS d.1 (q66_0 x a)<=(↑(q66_2 d x a).length:Int)/\(List.take ((U.jcC U.kS d.1 (q66_0 x a)).toNat-Int.toNat 0) (q66_2 d x a),())=(U.qC U.kS d.1,())/\()=()))/\(decide (nth d.1 (x:Int).toNat=nth d.1 ((x:Int)-1).toNat)=false->jA ((x:Int)+1)/\∃(c:Nat),(((x:Int)+1=(c:Int)/\True)/\True)/\U.jA3 U.kS d.1 c/\d.1.length-c<d.1.length-x))/\(decide ((x:Int)<(q66_4 d))=false->d=(U.qC U.kS d.1,())/\()=()))
abbrev jcm:zr:=jzL tSh 54
def jmm:zr:=⟨[.val (.slice tSh)],[rwS],fun d=>[d.1.length<=100000],fun d=>((U.jG d.1,()),())⟩
abbrev q67_0:=(Ty.int.pair (Ty.int.pair (Ty.int.pair (Ty.int.pair (Ty.int.pair Ty.unit)))))
def jl7:Prop:=∀(d:List ShD×Unit),d.1.length<=100000->d.1.length<=100000/\(∀(x:ShD),x∈d.1->∀(y:ShD),y∈d.1->U.jx [])/\kj (U.jd q67_0 fun(a:ShD×ShD×Unit)=>(U.wY a.1 a.2.1,())) d.1/\(U.jc (U.jd q67_0 fun(b:ShD×ShD×Unit)=>(U.wY b.1 b.2.1,())) d.1).length<=100000/\(U.qC U.kS (U.jc (U.jd q67_0 fun(c:ShD×ShD×Unit)=>(U.wY c.1 c.2.1,())) d.1),())=(U.jG d.1,())/\()=()
def jod:zr:=⟨[.val tSh,.own (.box 125 [.map .int .int]) true],[.cl (.dat .bool)],fun d=>[U.jvD d.2.1.1],fun d=>((U.jta d.2.1.1 d.1,()),((U.jca d.2.1.1 d.1,()),()))⟩
abbrev q68_0 (d:ShD×(List (Int×Int)×Unit)×Unit):=(kx (0:Int) (zl Ty.int d.1.1 d.2.1.1)+1)
def jnK:Prop:=∀(d:ShD×(List (Int×Int)×Unit)×Unit),U.jvD d.2.1.1->jA (q68_0 d)/\(decide (1<kx (0:Int) (zl Ty.int d.1.1 (jdr Ty.int d.1.1 (q68_0 d) d.2.1.1))),())=(U.jta d.2.1.1 d.1,())/\((jdr Ty.int d.1.1 (q68_0 d) d.2.1.1,()),())=((U.jca d.2.1.1 d.1,()),())
abbrev clV:Sh:= .fbox 96 125 [.map .int .int]
def yE:zr:=⟨[.val (.slice tSh),.own clV true],[.cl (.dat .int)],fun d=>[d.1.length<=100000,U.jCy d.2.1.1],fun d=>((U.jbP d.2.1.1 d.1,()),((U.jdL d.2.1.1 d.1,()),()))⟩
def gm:Ann:=fun r=>match r with
 |2=>some fun σ=>{X:=Nat,sl:=fun i=>[(8,.dat .int (i:Int))],ob:=fun i=>[(400020,some (.map false .int .int (U.kC [] (gd (.slice tSh) σ 0) i)))],inv:=fun i=>i<=(gd (.slice tSh) σ 0).length/\∀b:Nat,b<i->U.jfA [] (gd (.slice tSh) σ 0) b=false,mu:=fun i=>(gd (.slice tSh) σ 0).length-i}
 |_=>none
def yw:Prop:=∀(d:List ShD×(List (Int×Int)×Unit)×Unit),d.1.length<=100000->U.jCy d.2.1.1->d.1.length<4611686018427387904->(∃(x:Nat),((0=(x:Int)/\True)/\d.2.1.1=U.kC [] d.1 x/\True)/\x<=d.1.length/\∀(b:Nat),b<x->U.jfA [] d.1 b=false)/\∀(x:Nat),(x<=d.1.length/\∀(b:Nat),b<x->U.jfA [] d.1 b=false)->(decide ((x:Int)<(d.1.length:Int))=true->0<=(x:Int)/\(x:Int)<(d.1.length:Int)/\U.jvD (U.kC [] d.1 x)/\(U.jta (U.kC [] d.1 x) (nth d.1 (x:Int).toNat)=true->((x:Int),())=(U.jbP d.2.1.1 d.1,())/\((U.jca (U.kC [] d.1 x) (nth d.1 (x:Int).toNat),()),())=((U.jdL d.2.1.1 d.1,()),()))/\(U.jta (U.kC [] d.1 x) (nth d.1 (x:Int).toNat)=false->jA ((x:Int)+1)/\∃(a:Nat),(((x:Int)+1=(a:Int)/\True)/\(True/\True)/\U.jca (U.kC [] d.1 x) (nth d.1 (x:Int).toNat)=U.kC [] d.1 a/\True)/\(a<=d.1.length/\∀(b:Nat),b<a->U.jfA [] d.1 b=false)/\d.1.length-a<d.1.length-x))/\(decide ((x:Int)<(d.1.length:Int))=false->((-1:Int),())=(U.jbP d.2.1.1 d.1,())/\((U.kC [] d.1 x,()),())=((U.jdL d.2.1.1 d.1,()),()))
def vi:zr:=⟨[.val (.slice tSh),.own clV true],[.cl (.dat .bool)],fun d=>[d.1.length<=100000,U.jCy d.2.1.1],fun d=>((decide (0<=U.jbP d.2.1.1 d.1),()),((U.jdL d.2.1.1 d.1,()),()))⟩
def va:Prop:=∀(d:List ShD×(List (Int×Int)×Unit)×Unit),d.1.length<=100000->U.jCy d.2.1.1->d.1.length<=100000/\U.jCy d.2.1.1/\(decide (0<=U.jbP d.2.1.1 d.1),())=(decide (0<=U.jbP d.2.1.1 d.1),())/\((U.jdL d.2.1.1 d.1,()),())=((U.jdL d.2.1.1 d.1,()),())
def jtE:jO:=⟨[.val (.slice tSh)],[.bool],false,fun d=>[d.1.length<=100000],fun d=>(U.jrL d.1,())⟩
def jtm:Prop:=∀(d:List ShD×Unit),d.1.length<=100000->d.1.length<=100000/\U.jCy []/\(decide (0<=U.jbP [] d.1),())=(U.jrL d.1,())
def jkr:jO:=⟨[.val tDy],[.int],false,fun _=>[],fun d=>(U.jj1 d.1,())⟩
def jk0:Ann:=fun r=>match r with
 |5=>some fun σ=>{X:=Nat,sl:=fun i=>[(17,.dat .int (i:Int))],ob:=fun _=>[],inv:=fun i=>i<=(gd (.slice tBk) σ 15).length/\∀b:Nat,b<i->U.zu (U.jf (gd tDy σ 0)) (U.jfE (nth (gd (.slice tBk) σ 15) b))=true,mu:=fun i=>(gd (.slice tBk) σ 15).length-i}
 |_=>none
abbrev q72_0:=((0:Int),(1:Int),(0:Int),(0:Int),(0:Int),(1:Int),())
def jki:Prop:=∀(d:DyD×Unit),(decide (U.zP d.1.1 q72_0≠0)=true->(U.zP d.1.1 q72_0,())=(U.jj1 d.1,()))/\(decide (U.zP d.1.1 q72_0≠0)=false->d.1.2.2.1.length<4611686018427387904->(∃(x:Nat),((0=(x:Int)/\True)/\True)/\x<=d.1.2.2.1.length/\∀(b:Nat),b<x->U.zu (U.jf d.1) (U.jfE (nth d.1.2.2.1 b))=true)/\∀(x:Nat),(x<=d.1.2.2.1.length/\∀(b:Nat),b<x->U.zu (U.jf d.1) (U.jfE (nth d.1.2.2.1 b))=true)->(decide ((x:Int)<(d.1.2.2.1.length:Int))=true->0<=(x:Int)/\(x:Int)<(d.1.2.2.1.length:Int)/\(decide (U.zP d.1.1 (nth d.1.2.2.1 (x:Int).toNat).1≠0)=true->(U.zP d.1.1 (nth d.1.2.2.1 (x:Int).toNat).1,())=(U.jj1 d.1,()))/\(decide (U.zP d.1.1 (nth d.1.2.2.1 (x:Int).toNat).1≠0)=false->jA ((x:Int)+1)/\∃(a:Nat),(((x:Int)+1=(a:Int)/\True)/\True)/\(a<=d.1.2.2.1.length/\∀(b:Nat),b<a->U.zu (U.jf d.1) (U.jfE (nth d.1.2.2.1 b))=true)/\d.1.2.2.1.length-a<d.1.2.2.1.length-x))/\(decide ((x:Int)<(d.1.2.2.1.length:Int))=false->((0:Int),())=(U.jj1 d.1,())))
def jtH:jO:=⟨[.val tDy],[.int],false,fun d=>[(U.jW d.1).length<=100000],fun d=>(U.jz d.1,())⟩
def jtq:Prop:=∀(d:DyD×Unit),(U.jW d.1).length<=100000->(decide (U.jj1 d.1≠0)=true->(U.jj1 d.1,())=(U.jz d.1,()))/\(decide (U.jj1 d.1≠0)=false->((!U.zo d.1)=true->((50:Int),())=(U.jz d.1,()))/\((!U.zo d.1)=false->d.1.2.2.2.2.2.1.length<=100000/\(U.jG d.1.2.2.2.2.2.1).length<=100000/\(U.jrL (U.jG d.1.2.2.2.2.2.1)=true->((51:Int),())=(U.jz d.1,()))/\(U.jrL (U.jG d.1.2.2.2.2.2.1)=false->((0:Int),())=(U.jz d.1,()))))
end Go.X
namespace Go.X
open Go.Proofs
theorem jui:jp4:=by
 intro d;rfl
theorem jdp:ze PR 90 jqq:=jL jui Tryz.func90 kcN koN
theorem jdA:jcf:=by
 rintro⟨l,f,⟨⟩⟩ a g;refine⟨⟨0,⟨⟨rfl,trivial⟩,trivial⟩,jDV _,fun b c=>by omega⟩,fun i hi=>⟨fun h=> ?_,fun h=> ?_⟩⟩
 .have h:i<l.length:=(by simpa using h);simp only[jDN] at*;refine⟨by omega,by omega,wx _ (a _ (L.mem_nth h)) ⟨fun c=> ?_,fun c=>⟨L.in64 (by omega) (by omega),i+1,⟨⟨by simp,trivial⟩,trivial⟩,⟨by omega,fun b d=> ?_⟩,by omega⟩⟩⟩
  .rw[wC (p:=U.jb (α:=SpD) f.F) h hi.2 c]
  .by_cases e:b=i
   .subst e;exact c
   .exact hi.2 b (by omega)
 .have h:l.length<=i:=(by simpa using h);rw[kr (p:=U.jb (α:=SpD) f.F) h hi.2]
theorem jcq:ze PR 164 jcj:=wa jcx jdA Tryz.func164 kcN koN
theorem jaM:gC:=by
 rintro⟨l,f,⟨⟩⟩ a;refine⟨a,?_⟩;exact congrArg (·,()) (jby (U.jb (α:=SpD) f.F) l)
theorem gO:ze PR 134 gF:=jL jaM Tryz.func134 (kcC jcq kcN) koN
theorem jcu:jaV:=by
 rintro⟨l,f,⟨⟩⟩ a g;refine⟨⟨0,⟨⟨rfl,trivial⟩,trivial⟩,jDV _,fun b c=>by omega⟩,fun i hi=>⟨fun h=> ?_,fun h=> ?_⟩⟩
 .have h:i<l.length:=(by simpa using h);simp only[jDN] at*;refine⟨by omega,by omega,wx _ (a _ (L.mem_nth h)) ⟨fun c=> ?_,fun c=>⟨L.in64 (by omega) (by omega),i+1,⟨⟨by simp,trivial⟩,trivial⟩,⟨by omega,fun b d=> ?_⟩,by omega⟩⟩⟩
  .rw[wC (p:=U.jb (α:=(List SpD)) f.F) h hi.2 c]
  .by_cases e:b=i
   .subst e;exact c
   .exact hi.2 b (by omega)
 .have h:l.length<=i:=(by simpa using h);rw[kr (p:=U.jb (α:=(List SpD)) f.F) h hi.2]
theorem jbi:ze PR 165 ja3:=wa jbL jcu Tryz.func165 kcN koN
theorem gX:yx:=by
 rintro⟨l,f,⟨⟩⟩ a;refine⟨a,?_⟩;exact congrArg (·,()) (jby (U.jb (α:=(List SpD)) f.F) l)
theorem yO:ze PR 136 yB:=jL gX Tryz.func136 (kcC jbi kcN) koN
theorem jaL:gB:=by
 rintro⟨l,f,⟨⟩⟩ a g;refine⟨⟨0,⟨⟨rfl,trivial⟩,trivial⟩,jDV _,fun b c=>by omega⟩,fun i hi=>⟨fun h=> ?_,fun h=> ?_⟩⟩
 .have h:i<l.length:=(by simpa using h);simp only[jDN] at*;refine⟨by omega,by omega,wx _ (a _ (L.mem_nth h)) ⟨fun c=> ?_,fun c=>⟨L.in64 (by omega) (by omega),i+1,⟨⟨by simp,trivial⟩,trivial⟩,⟨by omega,fun b d=> ?_⟩,by omega⟩⟩⟩
  .rw[wC (p:=U.jb (α:=BkD) f.F) h hi.2 c]
  .by_cases e:b=i
   .subst e;exact c
   .exact hi.2 b (by omega)
 .have h:l.length<=i:=(by simpa using h);rw[kr (p:=U.jb (α:=BkD) f.F) h hi.2]
theorem gN:ze PR 166 gE:=wa jah jaL Tryz.func166 kcN koN
theorem yp:vI:=by
 rintro⟨l,f,⟨⟩⟩ a;refine⟨a,?_⟩;exact congrArg (·,()) (jby (U.jb (α:=BkD) f.F) l)
theorem vL:ze PR 138 vJ:=jL yp Tryz.func138 (kcC gN kcN) koN
theorem jcv:jaW:=by
 rintro⟨l,f,⟨⟩⟩ a g;refine⟨⟨0,⟨⟨rfl,trivial⟩,trivial⟩,jDV _,fun b c=>by omega⟩,fun i hi=>⟨fun h=> ?_,fun h=> ?_⟩⟩
 .have h:i<l.length:=(by simpa using h);simp only[jDN] at*;refine⟨by omega,by omega,wx _ (a _ (L.mem_nth h)) ⟨fun c=> ?_,fun c=>⟨L.in64 (by omega) (by omega),i+1,⟨⟨by simp,trivial⟩,trivial⟩,⟨by omega,fun b d=> ?_⟩,by omega⟩⟩⟩
  .rw[wC (p:=U.jb (α:=ShD) f.F) h hi.2 c]
  .by_cases e:b=i
   .subst e;exact c
   .exact hi.2 b (by omega)
 .have h:l.length<=i:=(by simpa using h);rw[kr (p:=U.jb (α:=ShD) f.F) h hi.2]
theorem jbj:ze PR 141 ja4:=wa jbM jcv Tryz.func141 kcN koN
theorem gY:yy:=by
 rintro⟨l,f,⟨⟩⟩ a;refine⟨a,?_⟩;exact congrArg (·,()) (jby (U.jb (α:=ShD) f.F) l)
theorem yP:ze PR 95 yC:=jL gY Tryz.func95 (kcC jbj kcN) koN
theorem jhO:jfL:=by
 intro d h;exact wx _ h rfl
theorem jf5:ze PR 135 jfQ:=jL jhO Tryz.func135 kcN koN
theorem jkO:jim:=by
 intro d h;exact⟨fun g a=>⟨h g a,trivial⟩,congrArg (·,()) (ji6 d.snd.fst.2 d.fst)⟩
theorem jiY:ze PR 88 jiz:=jL jkO Tryz.func88 (kcC gO (kcC jf5 kcN)) koN
theorem jgm:jea:=by
 intro d h;exact wx _ h rfl
theorem jeL:ze PR 137 jem:=jL jgm Tryz.func137 kcN koN
theorem jjC:jg8:=by
 intro d h;exact⟨fun g a=>⟨h g a,trivial⟩,congrArg (·,()) (ji6 d.snd.fst.2 d.fst)⟩
theorem jhB:ze PR 92 jhi:=jL jjC Tryz.func92 (kcC yO (kcC jeL kcN)) koN
theorem jdC:jci:=by
 intro d h;exact wx _ h rfl
theorem jcs:ze PR 139 jck:=jL jdC Tryz.func139 kcN koN
theorem jgo:jec:=by
 intro d h;exact⟨fun g a=>⟨h g a,trivial⟩,congrArg (·,()) (ji6 d.snd.fst.2 d.fst)⟩
theorem jeN:ze PR 93 jeo:=jL jgo Tryz.func93 (kcC vL (kcC jcs kcN)) koN
theorem jgn:jeb:=by
 intro d h;exact wx _ h rfl
theorem jeM:ze PR 140 jen:=jL jgn Tryz.func140 kcN koN
theorem jjD:jg9:=by
 intro d h;exact⟨fun g a=>⟨h g a,trivial⟩,congrArg (·,()) (ji6 d.snd.fst.2 d.fst)⟩
theorem jhC:ze PR 94 jhj:=jL jjD Tryz.func94 (kcC yP (kcC jeM kcN)) koN
theorem jrt:jnH:=fun _=>rfl
theorem joM:ze PR 86 jn4:=jL jrt Tryz.func86 kcN koN
theorem jrs:jnG:=by
 rintro⟨l,d,f,⟨⟩⟩ a _ _;exact⟨fun _=>a,rfl⟩
theorem joL:ze PR 87 jn3:=jL jrs Tryz.func87 (kcC jiY kcN) koN
theorem jrr:jnF:=by
 rintro⟨b,d,⟨⟩⟩ h;have h:(U.jt d).length<4611686018427387904:=h;exact⟨L.in64 (by show _<=((U.jt d).length:Int)-1;omega) (by show((U.jt d).length:Int)-1<=_;omega),rfl⟩
theorem joK:ze PR 89 jn2:=jL jrr Tryz.func89 (kcC jdp kcN) koN
theorem jrq:jnE:=by
 unfold jnE q58_1 q58_0;rintro⟨s,d,⟨⟩⟩ h;refine⟨fun a=> ?_,fun b=>⟨fun a=> ?_,rfl⟩⟩
 .have h:=h a;exact L.in64 (by simp only at*;omega) (by simp only at*;omega)
 .have h:=b a;exact L.in64 (by simp only at*;omega) (by simp only at*;omega)
theorem joJ:ze PR 91 jn1:=jL jrq Tryz.func91 (kcC jdp kcN) koN
theorem jyG (s:SpD):U.jgL s=U.jeO s:=by
 unfold U.jgL U.jeO;rw[jEm];simp only[jDR,decide_eq_true_eq];omega
theorem jyI (n:Nat) (b:BkD):U.ji2 n b=U.jct n b:=by
 unfold U.ji2 U.jct U.ja;rw[jEm];simp only[jDR,decide_eq_true_eq];omega
theorem jyH (nb a:Nat) (s:ShD):U.joQ nb a s=U.jbn nb a s:=by
 unfold U.joQ U.jbn U.ja;rw[jEm];simp only[jDR,decide_eq_true_eq];omega
theorem jyW (d:DyD):(((((((decide (((U.jp d).length:Int)<=4)&&U.ja ((U.jt d).length:Int) 1 5)&&(U.jt d).all (fun r=>decide ((r.length:Int)=((U.jt d).length:Int))&&r.all U.jeO))&&(U.jp d).all (U.jct (U.jt d).length))&&U.ja (U.jtN d) 0 300)&&U.ja (U.jAY d) 0 1440)&&decide (((U.jW d).length:Int)<=30))&&(U.jW d).all (U.jbn (U.jp d).length (U.jj (U.jf d)).length))=U.zo d:=by
 unfold U.zo;have e:(fun(r:List SpD)=>decide ((r.length:Int)=((U.jt d).length:Int))&&r.all U.jeO)=U.qP (U.jt d).length:=by
  funext r;unfold U.qP;congr 1;exact decide_eq_decide.2 (by omega)
 rw[e];cases (U.jt d).all (U.qP (U.jt d).length)<;>cases (U.jp d).all (U.jct (U.jt d).length)<;>cases (U.jW d).all (U.jbn (U.jp d).length (U.jj (U.jf d)).length)<;>simp only[Bool.and_false,Bool.and_true,Bool.false_and,U.ja]
 rw[jEm];simp only[jDR,decide_eq_true_eq];omega
theorem jw4:jtl:=by
 unfold jtl q59_2 q59_1 q59_0;rintro⟨d,⟨⟩⟩ _ _;refine⟨fun _ _ _=>⟨fun _ _=>trivial,trivial⟩,fun _ _ _=>trivial,fun _=>⟨fun _ _ _=>trivial,?_⟩⟩;have a:(U.jb fun(x:SpD×Unit)=>(U.jgL x.fst,()))=U.jeO:=funext jyG;have b:(U.jb fun(x:BkD×Unit)=>(U.ji2 (U.jt d).length x.fst,()))=U.jct (U.jt d).length:=funext (jyI _);have c:(U.jb fun(x:ShD×Unit)=>(U.joQ (U.jp d).length (U.jj (U.jf d)).length x.fst,()))=U.jbn (U.jp d).length (U.jj (U.jf d)).length:=funext (jyH _ _);simp only;rw[a,b,c];exact congrArg (·,()) (jyW d)
theorem jtX:ze PR 46 jtD:=jL jw4 Tryz.func46 (kcC jdp (kcC joM (kcC joL (kcC joK (kcC joJ (kcC jhB (kcC jeN (kcC jhC kcN)))))))) koN
theorem jjF:jhb:=by
 intro d;simp
theorem jhE:ze PR 144 jhl:=jL jjF Tryz.func144 kcN koN
theorem jgp:jed:=by
 unfold jed q61_0;rintro⟨a,b,⟨⟩⟩;refine⟨fun h=>(by cases h),fun _=>⟨fun h=>(by cases h),fun _=>⟨fun h=> ?_,fun h=>⟨fun c=> ?_,fun c=> ?_⟩⟩⟩⟩
 .have h:a<b:=of_decide_eq_true h;simp only;unfold U.gi;rw[if_pos h]
 .have h:¬a<b:=of_decide_eq_false h;have c:b<a:=of_decide_eq_true c;simp only;unfold U.gi;rw[if_neg h,if_pos c]
 .have h:¬a<b:=of_decide_eq_false h;have c:¬b<a:=of_decide_eq_false c;simp only;unfold U.gi;rw[if_neg h,if_neg c]
theorem wH:ze PR 101 jep:=jL jgp Tryz.func101 (kcC jhE kcN) koN
theorem jus {l:List Int} {i:Nat} (h:i<l.length) (a:∀b:Nat,b<i->nth l b=0) (hi:nth l i≠0):U.wd l=nth l i:=by
 have e:l.find? (fun n=>decide (n≠0))=some (nth l i):=by
  rw[List.find?_eq_some_iff_getElem];refine⟨decide_eq_true hi,i,h,by rw[L.nth_lt h],fun j c=> ?_⟩;have:=a j c;rw[L.nth_lt (by omega)] at this;simp[this]
 unfold U.wd;rw[e]
theorem jpm {l:List Int} (a:∀b:Nat,b<l.length->nth l b=0):U.wd l=0:=by
 have e:l.find? (fun n=>decide (n≠0))=none:=by
  rw[List.find?_eq_none];intro x c;obtain⟨i,hi,rfl⟩:=L.mem_iff.1 c;simp[a i hi]
 unfold U.wd;rw[e]
theorem jpc:jl8:=by
 rintro⟨l,⟨⟩⟩ f;refine⟨⟨0,⟨⟨rfl,trivial⟩,trivial⟩,jDV _,fun b c=>by omega⟩,fun x d=>⟨fun h=> ?_,fun h=> ?_⟩⟩
 .have h:x<l.length:=(by simpa using h);simp only[jDN];refine⟨by omega,by omega,fun a=> ?_,fun a=>⟨L.in64 (by omega) (by simp only at f;omega),x+1,⟨⟨by simp,trivial⟩,trivial⟩,⟨h,fun b c=> ?_⟩,by omega⟩⟩
  .rw[jus h d.2 (of_decide_eq_true a)]
  .by_cases e:b=x
   .subst e;exact Classical.not_not.1 (of_decide_eq_false a)
   .exact d.2 b (by omega)
 .have h:l.length<=x:=(by simpa using h);rw[jpm (fun b c=>d.2 b (by simp only at c;omega))]
theorem gQ:ze PR 100 jmi:=wa jnn jpc Tryz.func100 kcN koN
theorem jkP:jin:=fun _=>rfl
theorem jiZ:ze PR 99 jiA:=jL jkP Tryz.func99 (kcC wH (kcC gQ kcN)) koN
theorem juj:jp5:=fun _=>rfl
theorem jq6:ze PR 119 jqr:=jL juj Tryz.func119 (kcC wH (kcC gQ kcN)) koN
theorem jhK:jfH:=by
 rintro⟨l,⟨⟩⟩ b c a;have b:l.length<=100000:=b;refine⟨fun h=>⟨?_,rfl⟩,fun _=>⟨by simp only;omega,by simp,rfl⟩⟩;have:l=[]:=a h;rw[this]
theorem jf1:wE PR 97 jfT:=jgN jhK Tryz.func97 kcN koN
theorem je6:jcW:=by
 unfold jcW q66_1 q66_4 q66_3 q66_2 q66_0;rintro⟨l,⟨⟩⟩ m C;have m:l.length<=100000:=m;obtain⟨eq,k⟩:∃eq,eq=U.kS:=⟨_,rfl⟩;have A:∀a b:ShD,decide (a=b)=eq a b:=fun a b=>by rw[k];rfl
 simp only[<-k,A,jDN];refine⟨fun h=>⟨?_,trivial⟩,fun h=> ?_⟩
 .have h:(l.length:Int)<2:=of_decide_eq_true h;rw[L.comp_short (by omega)]
 have h:¬(l.length:Int)<2:=of_decide_eq_false h;refine⟨⟨1,⟨⟨rfl,trivial⟩,trivial⟩,jDO _,by omega,?_⟩,fun i hi _=>⟨fun g=> ?_,fun g=>⟨?_,trivial⟩⟩⟩
 .rw[L.comp_short];rw[jEf];omega
 .have g:(i:Int)<(l.length:Int):=of_decide_eq_true g;obtain⟨s,D,f⟩:=hi;have z:((i:Int)-1).toNat=i-1:=(by omega);rw[z];have n:=L.comp_take (eq:=eq) (l:=l) s (by omega:i<l.length);refine⟨by omega,g,by unfold jA;omega,by omega,by omega,fun j=>⟨by omega,by omega,jEF _,⟨(1,l),⟨⟨rfl,?_,trivial⟩,rfl,trivial⟩,jDO _,by omega,rfl,?_,rfl,?_⟩,fun x q _=>⟨fun e=> ?_,fun e=> ?_⟩⟩,fun j=>⟨L.in64 (by omega) (by omega),i+1,⟨⟨by simp,trivial⟩,trivial⟩,⟨by omega,by omega,?_⟩,by omega⟩⟩
  .unfold U.jcC;rw[n,if_pos j,jEg,f,jEf];omega
  .rw[n,if_pos j,jEg,f,jEf];show l.take i=l.take (min i l.length);congr 1;omega
  .rw[n,if_pos j,jEg,f,jEf];omega
  .have e:(x.1:Int)<((l.length-i:Nat):Int):=of_decide_eq_true e;have r:=q;obtain⟨G,H,I,v,J,w⟩:=r;obtain⟨E,F⟩:=L.inv9_next s q (by omega);have y:((x.1:Int)-1).toNat=x.1-1:=(by omega);have o:i+(x.1-1)=i+x.1-1:=(by omega);rw[y,o];have p:U.jcC eq l (i+x.1)=((U.qC eq (l.take (i+x.1))).length:Int):=rfl;refine⟨by omega,e,by unfold jA;omega,by omega,by omega,fun c=> ?_,fun c=> ?_⟩
   .have c:eq (nth x.2 (i+x.1)) (nth x.2 (i+x.1-1))=false:=(by simpa using c);obtain⟨t,u⟩:=E c;refine⟨by omega,e,by omega,by omega,by unfold jA;omega,L.in64 (by omega) (by omega),(x.1+1,_),⟨⟨by simp,t.symm,trivial⟩,rfl,trivial⟩,u,by show _-(x.1+1)<_;omega⟩
   .have c:eq (nth x.2 (i+x.1)) (nth x.2 (i+x.1-1))=true:=(by simpa using c);obtain⟨t,u⟩:=F c;exact⟨L.in64 (by omega) (by omega),(x.1+1,x.2),⟨⟨t.symm,by simp,trivial⟩,rfl,trivial⟩,u,by show _-(x.1+1)<_;omega⟩
  .have e:¬(x.1:Int)<((l.length-i:Nat):Int):=of_decide_eq_false e;obtain⟨G,H,I,v,J,w⟩:=q;have p:U.jcC eq l (i+x.1)=((U.qC eq (l.take (i+x.1))).length:Int):=rfl;have d:l.take (i+x.1)=l:=jEC (by omega);rw[d] at p v w;rw[p];simp only[jDN];have B:=L.comp_len (eq:=eq) l;refine⟨by omega,by omega,jEF _,by omega,by omega,by omega,?_,⟨?_,trivial⟩⟩
   .simp only[jD2,jEf,jEK];omega
   .congr 1;rw[show(U.qC eq l).length-Int.toNat 0=(U.qC eq l).length from rfl];rw[List.take_left' (by rw[jEf];omega)];exact v.symm
  .rw[n,if_neg (by rw[j];simp),f];exact(L.take_succ (by omega)).symm
 .have g:¬(i:Int)<(l.length:Int):=of_decide_eq_false g;obtain⟨s,D,f⟩:=hi;have d:l.take i=l:=jEC (by omega);rw[d] at f;rw[f]
theorem jdn:wE PR 102 jc8:=ji9 jdU je6 Tryz.func102 kcN koN
theorem qO:wE PR 98 jcm:=
 jqE Tryz.sortSh 54 rfl (jDY (by kernel_rfl)) Tryz.isAgg54 Tryz.sizeOf54 (wl Tryz.func98 (c:=zw Tryz.f98) (by kernel_rfl) (by kernel_rfl))
theorem jzl:jaQ U.wY:=by
 have e:U.wY=jx8 (fun a b=>U.gi (U.zT a) (U.zT b)) (jx8 (fun a b=>U.gi (U.jnu a) (U.jnu b)) (jx8 (fun a b=>U.gi (U.jyo a) (U.jyo b)) (jx8 (fun a b=>U.gi (U.joi a) (U.joi b)) (fun a b=>U.gi (U.jcA a) (U.jcA b))))):=by
  funext a b;unfold U.wY;simp only[jZ,kR,jx8]
  split<;>(try rfl);split<;>(try rfl);split<;>(try rfl);split<;>(try rfl);split<;>(try rfl)
  rename_i h;exact(Classical.not_not.1 h).symm
 rw[e];exact jga (jgI jfo U.zT) (jga (jgI jfo U.jnu) (jga (jgI jfo U.jyo) (jga (jgI jfo U.joi) (jgI jfo U.jcA))))
theorem juK {a b:ShD} (h:U.wY a b=0):a=b:=by
 unfold U.wY at h;rw[jZ] at h
 split at h
 .contradiction
 rename_i c;rw[jZ] at h
 split at h
 .contradiction
 rename_i d;rw[jZ] at h
 split at h
 .contradiction
 rename_i e;rw[jZ] at h
 split at h
 .contradiction
 rename_i f;rw[kR] at h;have c:=qU.1 (Classical.not_not.1 c);have d:=qU.1 (Classical.not_not.1 d);have e:=qU.1 (Classical.not_not.1 e);have f:=qU.1 (Classical.not_not.1 f);have g:=qU.1 h;obtain⟨i,j,k,l,m,⟨⟩⟩:=a;obtain⟨n,o,p,q,r,⟨⟩⟩:=b;have c:i=n:=c;have d:j=o:=d;have e:k=p:=e;have f:l=q:=f;have g:m=r:=g;rw[c,d,e,f,g]
theorem jmB (l:List ShD):kj (U.jd tSh fun x=>(U.wY x.1 x.2.1,())) l:=jmC jzl (fun _ _ _ _ h=>juK h)
theorem jxA (l:List ShD):(U.jG l).length<=l.length:=by
 unfold U.jG;refine jDZ (L.comp_len _) ?_;rw[(j6 l).length_eq];exact jDO _
theorem jpb:jl7:=by
 unfold jl7 q67_0;rintro⟨l,⟨⟩⟩ a;exact⟨a,fun _ _ _ _=>trivial,jmB l,by rw[(j6 (lt:=U.jd tSh fun x=>(U.wY x.1 x.2.1,())) l).length_eq];exact a,rfl,rfl⟩
theorem gP:wE PR 48 jmm:=jgN jpb Tryz.func48 (kcC jiZ kcN) (koC jf1 (koC qO (koC jdn koN)))
theorem jrv:jnK:=by
 unfold jnK q68_0;rintro⟨s,⟨m,⟨⟩⟩,⟨⟩⟩ h;have h:U.jvD m:=h;have:=h (U.zT s);have this:0<=kx 0 (zl .int s.1 m)/\kx 0 (zl .int s.1 m)<=200000:=this;exact⟨L.in64 (by simp only;omega) (by simp only;omega),rfl,rfl⟩
theorem joO:wE PR 96 jod:=jgN jrv Tryz.func96 kcN koN
theorem ga {m:List (Int×Int)} {l:List ShD} {i:Nat} (h:i<l.length):U.kC m l (i+1)=U.jca (U.kC m l i) (nth l i):=by
 unfold U.kC;rw[L.take_succ h,jEo];rfl
theorem jz3 (l:List ShD):∀i,i<=l.length->∀k,0<=kx 0 (zl .int k (U.kC [] l i))/\kx 0 (zl .int k (U.kC [] l i))<=(i:Int)
 |0,_,k=>⟨jEF 0,jEF 0⟩
 |i+1,hi,k=>by
  have b:=jz3 l i (by omega)
  rw[ga (by omega)]
  unfold U.jca
  by_cases e:k=U.zT (nth l i)
  .rw[e]
   have a:=M.mfind_mput (kt:= .int) (U.zT (nth l i)) (kx 0 (zl .int (U.zT (nth l i)) (U.kC [] l i))+1) (U.kC [] l i)
   rw[a]
   have:=b (U.zT (nth l i))
   show 0<=kx 0 (zl .int (U.zT (nth l i)) (U.kC [] l i))+1/\kx 0 (zl .int (U.zT (nth l i)) (U.kC [] l i))+1<=_
   omega
  .have a:=M.mfind_mput_ne (kt:= .int) (k:=U.zT (nth l i)) (k':=k) e (kx 0 (zl .int (U.zT (nth l i)) (U.kC [] l i))+1) (U.kC [] l i)
   rw[a]
   have:=b k
   omega
theorem jzx {m:List (Int×Int)} {l:List ShD} {i:Nat} (h:i<l.length) (a:∀b:Nat,b<i->U.jfA m l b=false) (hi:U.jfA m l i=true):U.jbP m l=(i:Int)/\U.jxZ m l=i+1:=by
 have e:(List.range l.length).findIdx? (U.jfA m l)=some i:=by
  rw[List.findIdx?_eq_some_iff_getElem];refine⟨by simpa using h,by simpa using hi,fun j c=>by simp[a j c]⟩
 unfold U.jbP U.jxZ U.gq;rw[e];exact⟨rfl,rfl⟩
theorem jlZ {m:List (Int×Int)} {l:List ShD} (a:∀b:Nat,b<l.length->U.jfA m l b=false):U.jbP m l= -1/\U.jxZ m l=l.length:=by
 have e:(List.range l.length).findIdx? (U.jfA m l)=none:=by
  rw[List.findIdx?_eq_none_iff];intro x c;exact a x (jD8.1 c)
 unfold U.jbP U.jxZ U.gq;rw[e];exact⟨rfl,rfl⟩
theorem gW:yw:=by
 rintro⟨l,⟨m,⟨⟩⟩,⟨⟩⟩ n g o;have g:m=[]:=g;subst g;have n:l.length<=100000:=n;refine⟨⟨0,⟨⟨rfl,trivial⟩,rfl,trivial⟩,jDV _,fun b j=>by omega⟩,fun x a=>⟨fun h=> ?_,fun h=> ?_⟩⟩
 .have h:x<l.length:=(by simpa using h);simp only[jDN];refine⟨by omega,by omega,fun k=> ?_,fun f=> ?_,fun f=>⟨L.in64 (by omega) (by omega),x+1,⟨⟨by simp,trivial⟩,⟨trivial,trivial⟩,(ga h).symm,trivial⟩,⟨h,fun b j=> ?_⟩,by omega⟩⟩
  .have:=jz3 l x (by omega) k;omega
  .obtain⟨c,d⟩:=jzx h a.2 f;unfold U.jdL;rw[c,d,ga h];exact⟨rfl,rfl⟩
  .by_cases e:b=x
   .subst e;exact f
   .exact a.2 b (by omega)
 .have h:l.length<=x:=(by simpa using h);obtain⟨c,d⟩:=jlZ (m:=[]) (l:=l) (fun b j=>a.2 b (by omega));have i:x=l.length:=(by have:=a.1;simp only at this;omega);unfold U.jdL;rw[c,d,i];exact⟨rfl,rfl⟩
theorem yN:wE PR 141 yE:=ji9 gm gW Tryz.func141 kcN (koC joO koN)
theorem vM:va:=fun _ a b=>⟨a,b,rfl,rfl⟩
theorem vo:wE PR 95 vi:=jgN vM Tryz.func95 kcN (koC yN koN)
theorem jw5:jtm:=fun _ h=>⟨h,rfl,rfl⟩
theorem jll:ze PR 47 jtE:=jL jw5 Tryz.func47 kcN (koC vo koN)
theorem jyn {c:CrD} (h:U.ju c=true):U.zu c (0,1,0,0,0,1,())=true:=by
 obtain⟨a,_⟩:=jI h;unfold U.zu;refine decide_eq_true ?_;refine⟨by decide,?_,by decide,?_,by decide,by decide,by decide,by decide,by decide,by decide,by decide,by decide,by decide⟩
 .show(0:Int)<=U.la c-1;omega
 .show(1:Int)<=U.la c-1;omega
theorem jxK (c:CrD):U.zP c (0,1,0,0,0,1,())=if U.ju c=false then 30 else 0:=by
 unfold U.zP;by_cases h:U.ju c=false
 .rw[if_pos h,if_pos h]
 .rw[if_neg h,if_neg h,if_neg (by rw[jyn (by simpa using h)];simp)]
theorem jm1:jki:=by
 unfold jki q72_0;rintro⟨d,⟨⟩⟩;have e:=jxK d.1;simp only[e];by_cases f:U.ju d.1=false
 .rw[if_pos f];refine⟨fun _=> ?_,fun h=>by simp at h⟩;have f:U.ju (U.jf d)=false:=f;unfold U.jj1;rw[if_pos f]
 .rw[if_neg f];have c:U.ju (U.jf d)=true:=eq_true_of_ne_false f;refine⟨fun h=>by simp at h,fun _ k=>⟨⟨0,⟨⟨rfl,trivial⟩,trivial⟩,jDV _,fun b j=>by omega⟩,fun x l=>⟨fun h=> ?_,fun h=> ?_⟩⟩⟩
  .have h:(x:Int)<((U.jp d).length:Int):=of_decide_eq_true h;have h:x<(U.jp d).length:=(by omega);have k:(U.jp d).length<4611686018427387904:=k;have m:U.zP d.1 (nth d.2.2.1 x).1=if U.zu (U.jf d) (U.jfE (nth (U.jp d) x))=false then 31 else 0:=by
    show(if U.ju (U.jf d)=false then(30:Int) else if U.zu (U.jf d) (U.jfE (nth (U.jp d) x))=false then 31 else 0)=_;rw[if_neg (by rw[c];simp)]
   simp only[jDN,m];refine⟨by omega,by show(x:Int)<((U.jp d).length:Int);omega,fun a=> ?_,fun a=>⟨L.in64 (by omega) (by omega),x+1,⟨⟨by simp,trivial⟩,trivial⟩,⟨h,fun b j=> ?_⟩,(by show(U.jp d).length-(x+1)<(U.jp d).length-x;omega)⟩⟩
   .have a:=of_decide_eq_true a;by_cases g:U.zu (U.jf d) (U.jfE (nth (U.jp d) x))=false
    .rw[if_pos g];unfold U.jj1;rw[if_neg (by rw[c];simp),if_pos];unfold U.jwN;exact L.all_false h g
    .rw[if_neg g] at a;exact absurd rfl a
   .have a:=of_decide_eq_false a;by_cases n:b=x
    .subst n;by_cases g:U.zu (U.jf d) (U.jfE (nth (U.jp d) b))=false
     .rw[if_pos g] at a;exact absurd (by decide) a
     .exact eq_true_of_ne_false g
    .exact l.2 b (by omega)
  .have h:¬(x:Int)<((U.jp d).length:Int):=of_decide_eq_false h;have h:(U.jp d).length<=x:=(by omega);unfold U.jj1;rw[if_neg (by rw[c];simp),if_neg];rw[Bool.not_eq_false];unfold U.jwN;rw[jEp];intro b j;obtain⟨i,hi,rfl⟩:=L.mem_iff.1 j;exact l.2 i (by omega)
theorem jkD:ze PR 45 jkr:=wa jk0 jm1 Tryz.func45 (kcC jlk kcN) koN
theorem jw8:jtq:=by
 rintro⟨d,⟨⟩⟩ c;refine⟨fun h=> ?_,fun h=>⟨fun b=> ?_,fun b=>⟨c,jDZ (jxA _) c,fun a=> ?_,fun a=> ?_⟩⟩⟩
 .have h:=of_decide_eq_true h;simp only at h⊢;unfold U.jz;rw[if_pos h]
 .have h:=of_decide_eq_false h;simp only at h⊢;unfold U.jz;rw[if_neg h,if_pos (by simpa using b)]
 .have h:=of_decide_eq_false h;simp only at h⊢;unfold U.jz;rw[if_neg h,if_neg (by simpa using b)];have a:U.jrL (U.jG (U.jW d))=true:=a;rw[if_pos a]
 .have h:=of_decide_eq_false h;simp only at h⊢;unfold U.jz;rw[if_neg h,if_neg (by simpa using b)];have a:U.jrL (U.jG (U.jW d))=false:=a;rw[if_neg (by rw[a];simp)]
theorem jlm:ze PR 16 jtH:=jL jw8 Tryz.func16 (kcC jkD (kcC jtX (kcC jll kcN))) (koC gP koN)
end Go.X
namespace Go.X
namespace U
def jtx {α:Type} [Inhabited α] (l:List α) (j k:Nat):List α:=(l.set j (nth l k)).set k (nth l j)
def jcn {α:Type} [Inhabited α] (lt:α->α->Bool):List α->Nat->List α
 |l,0=>l
 |l,j+1=>if lt (nth l (j+1)) (nth l j)=true then jcn lt (jtx l (j+1) j) j else l
def yk {α:Type} [Inhabited α] (lt:α->α->Bool) (l:List α) (i:Nat):List α:=(List.range i).foldl (jcn lt) l
def jav {α:Type} [Inhabited α] (lt:α->α->Bool) (l:List α):List α:=yk lt l l.length
def jdx {α:Type} (lt:α->α->Bool) (x:α):List α->List α
 |[]=>[x]
 |y::r=>if lt x y=true then y::jdx lt x r else x::y::r
end U
namespace IS
variable {α:Type} [Inhabited α] {lt:α->α->Bool}
theorem swap_perm {l:List α} {j k:Nat} (a:j<l.length) (hk:k<l.length):(U.jtx l j k).Perm l:=by
 unfold U.jtx;rw[L.nth_lt a,L.nth_lt hk];exact List.set_set_perm a hk
theorem sink_perm:∀(j:Nat) (l:List α),j<l.length->(U.jcn lt l j).Perm l
 |0,l,_=>List.Perm.refl _
 |j+1,l,h=>by
  unfold U.jcn
  have a:=swap_perm (l:=l) (j:=j+1) (k:=j) h (by omega)
  split
  .exact(sink_perm j _ (by rw[a.length_eq];omega)).trans a
  .exact List.Perm.refl _
theorem part_succ (lt:α->α->Bool) (l:List α) (i:Nat):U.yk lt l (i+1)=U.jcn lt (U.yk lt l i) i:=by
 simp[U.yk,jEz]
theorem part_perm {l:List α}:∀(i:Nat),i<=l.length->(U.yk lt l i).Perm l
 |0,_=>List.Perm.refl _
 |i+1,h=>by
  rw[part_succ]
  have a:=part_perm (l:=l) i (by omega)
  exact(sink_perm i _ (by rw[a.length_eq];omega)).trans a
theorem isort_perm (lt:α->α->Bool) (l:List α):(U.jav lt l).Perm l:=part_perm _ (jDO _)
theorem part_isort {l:List α} {i:Nat} (a:1<=i) (b:i<=max l.length 1) (c:l.length<=i):U.yk lt l i=U.jav lt l:=by
 unfold U.jav;by_cases h:l.length=0
 .have:i=1:=(by omega);subst this;rw[h];rfl
 .have:i=l.length:=(by omega);rw[this]
theorem insR_len {α:Type} {lt:α->α->Bool} (x:α):∀q:List α,(U.jdx lt x q).length=q.length+1
 |[]=>rfl
 |y::r=>by
  unfold U.jdx
  split
  .simp[insR_len x r]
  .simp
theorem nth_mid (a:List α) (x:α) (s:List α):nth (a++x::s) a.length=x:=by
 rw[L.nth_lt (by simp)];simp
theorem sink_app:∀(q:List α) (x:α) (s:List α),U.jcn lt (q.reverse++x::s) q.length=(U.jdx lt x q).reverse++s
 |[],x,s=>rfl
 |y::r,x,s=>by
  have e:(y::r).reverse++x::s=r.reverse++y::x::s:=by simp
  rw[e]
  have g:nth (r.reverse++y::x::s) (r.length+1)=x:=by
   have:=nth_mid (r.reverse++[y]) x s;simpa using this
  have h:nth (r.reverse++y::x::s) r.length=y:=by
   have:=nth_mid r.reverse y (x::s);simpa using this
  show(if lt (nth _ (r.length+1)) (nth _ r.length)=true then U.jcn lt (U.jtx _ (r.length+1) r.length) r.length else _)=_;rw[g,h];unfold U.jdx
  split
  .have a:U.jtx (r.reverse++y::x::s) (r.length+1) r.length=r.reverse++x::(y::s):=by
    unfold U.jtx;rw[g,h];apply List.ext_getElem?;intro k;simp only[List.getElem?_set,List.length_set];by_cases b:r.length=k
    .subst b;rw[if_pos rfl,if_pos (by simp)];rw[jDW (by simp)];simp
    .rw[if_neg b];by_cases c:r.length+1=k
     .subst c;rw[if_pos rfl,if_pos (by simp)];rw[jDW (by simp)];simp
     .rw[if_neg c];by_cases f:k<r.length
      .rw[jDX (by simpa using f),jDX (by simpa using f)]
      .rw[jDW (by simp;omega),jDW (by simp;omega)];obtain⟨d,i⟩:∃d,k-r.reverse.length=d+2:=⟨k-r.length-2,by simp;omega⟩;rw[i];simp
   rw[a,sink_app r x (y::s)];simp
  .simp
theorem fold_len {α:Type} {lt:α->α->Bool}:∀(l q:List α),(l.foldl (fun q x=>U.jdx lt x q) q).length=q.length+l.length
 |[],q=>rfl
 |x::l,q=>by
  simp only[List.foldl_cons,jEi]
  rw[fold_len l,insR_len];omega
theorem part_eq (l:List α):∀i,i<=l.length->U.yk lt l i=((l.take i).foldl (fun q x=>U.jdx lt x q) []).reverse++l.drop i
 |0,_=>by simp[U.yk]
 |i+1,h=>by
  rw[part_succ,part_eq l i (by omega)]
  have b:l.drop i=nth l i::l.drop (i+1):=by
   rw[L.nth_lt (by omega)];exact List.drop_eq_getElem_cons (by omega)
  rw[b];have a:((l.take i).foldl (fun q x=>U.jdx lt x q) []).length=i:=(by rw[fold_len];simp;omega);have:=sink_app (lt:=lt) ((l.take i).foldl (fun q x=>U.jdx lt x q) []) (nth l i) (l.drop (i+1));rw[a] at this;rw[this,L.take_succ (by omega),jEo];rfl
theorem isort_eq (l:List α):U.jav lt l=(l.foldl (fun q x=>U.jdx lt x q) []).reverse:=by
 unfold U.jav;rw[part_eq l _ (jDO _)];simp
theorem insR_mem {α:Type} {lt:α->α->Bool} {x z:α}:∀{q:List α},z∈U.jdx lt x q↔z=x\/z∈q
 |[]=>by simp[U.jdx]
 |y::r=>by
  unfold U.jdx
  split
  .simp only[jDL,insR_mem (q:=r)]
   constructor
   .rintro(h|h|h)<;>simp[h]
   .rintro(h|h|h)<;>simp[h]
  .simp
theorem insR_desc {α:Type} {lt:α->α->Bool} {x:α}:∀{q:List α},kj lt (x::q)->q.Pairwise (fun a b=>lt a b=false)->(U.jdx lt x q).Pairwise (fun a b=>lt a b=false)
 |[],_,_=>by simp[U.jdx]
 |y::r,ho,h=>by
  rw[jEv] at h
  unfold U.jdx
  split
  .rename_i d
   rw[jEv]
   refine⟨fun z c=> ?_,insR_desc (ho.sub (fun z c=>by rcases jDL.1 c with h|h;exact h▸jEj;exact jDS _ (jDS _ h))) h.2⟩
   rcases insR_mem.1 c with rfl|c
   .exact ho.asymm (by simp) (by simp) d
   .exact h.1 z c
  .rename_i d
   have d:lt x y=false:=by simpa using d
   rw[jEv]
   refine⟨fun z c=> ?_,jEv.2 h⟩
   rcases jDL.1 c with rfl|c
   .exact d
   .exact ho.ntrans (by simp) (by simp) (by simp[c]) d (h.1 z c)
theorem fold_desc {α:Type} {lt:α->α->Bool}:∀(l q:List α),kj lt (l++q)->q.Pairwise (fun a b=>lt a b=false)->(l.foldl (fun q x=>U.jdx lt x q) q).Pairwise (fun a b=>lt a b=false)
 |[],q,_,h=>h
 |x::l,q,ho,h=>by
  refine fold_desc l _ (ho.sub (fun z c=> ?_)) (insR_desc (ho.sub (fun z c=> ?_)) h)
  .rcases jDU.1 c with c|c
   .simp[c]
   .rcases insR_mem.1 c with rfl|c
    .simp
    .simp[c]
  .rcases jDL.1 c with rfl|c
   .simp
   .simp[c]
theorem isort_asc {l:List α} (a:kj lt l):jte lt (U.jav lt l):=by
 rw[isort_eq];unfold jte;rw[List.pairwise_reverse];exact fold_desc l [] (by simpa using a) (by simp)
theorem isort_sort {l:List α} (a:kj lt l):U.jav lt l=U.jc lt l:=joa a (isort_perm lt l) (isort_asc a)
end IS
end Go.X
namespace Go.X
open Go.Proofs
def U.len8tab:ByteArray:=⟨#[0,1,2,2,3,3,3,3,4,4,4,4,4,4,4,4,5,5,5,5,5,5,5,5,5,5,5,5,5,5,5,5,6,6,6,6,6,6,6,6,6,6,6,6,6,6,6,6,6,6,6,6,6,6,6,6,6,6,6,6,6,6,6,6,7,7,7,7,7,7,7,7,7,7,7,7,7,7,7,7,7,7,7,7,7,7,7,7,7,7,7,7,7,7,7,7,7,7,7,7,7,7,7,7,7,7,7,7,7,7,7,7,7,7,7,7,7,7,7,7,7,7,7,7,7,7,7,7,8,8,8,8,8,8,8,8,8,8,8,8,8,8,8,8,8,8,8,8,8,8,8,8,8,8,8,8,8,8,8,8,8,8,8,8,8,8,8,8,8,8,8,8,8,8,8,8,8,8,8,8,8,8,8,8,8,8,8,8,8,8,8,8,8,8,8,8,8,8,8,8,8,8,8,8,8,8,8,8,8,8,8,8,8,8,8,8,8,8,8,8,8,8,8,8,8,8,8,8,8,8,8,8,8,8,8,8,8,8,8,8,8,8,8,8,8,8,8,8,8,8,8,8,8,8,8,8]⟩
abbrev rwI:Sh:= .cl (.row 3 .int .unk)
namespace U
abbrev FC:=Int×Int×Unit->Int×Unit
abbrev qT (F:FC):Int->Int->Bool:=jd .int F
def jat (p:Int×Int×Unit->List Prop) (l:List Int):Prop:=∀x∈l,∀y∈l,jx (p (x,y,()))
def jdQ (n:Int):Int:=if n=0 then 0 else if n<2 then 1 else if n<4 then 2 else if n<8 then 3 else 4
end U
def jmk:jO:=⟨[.val (.uint .u64)],[.int],false,fun d=>[0<=d.1/\d.1<=12],fun d=>(U.jdQ d.1,())⟩
abbrev q74_0 (d:Int×Unit):=(d.1/(2:Int)^Int.toNat 32/(2:Int)^Int.toNat 16/(2:Int)^Int.toNat 8)
abbrev q74_1 (d:Int×Unit):=(d.1/(2:Int)^Int.toNat 32/(2:Int)^Int.toNat 16)
abbrev q74_2 (d:Int×Unit):=(d.1/(2:Int)^Int.toNat 32/(2:Int)^Int.toNat 8)
abbrev q74_3 (d:Int×Unit):=(d.1/(2:Int)^Int.toNat 16/(2:Int)^Int.toNat 8)
abbrev q74_4 (d:Int×Unit):=(256<=d.1/(2:Int)^Int.toNat 32/(2:Int)^Int.toNat 16)
def jma:Prop:=∀(d:Int×Unit),0<=d.1/\d.1<=12->(decide (4294967296<=d.1)=true->(0:Int)<=32/\(32:Int)<=64/\(decide (65536<=d.1/(2:Int)^Int.toNat 32)=true->(0:Int)<=16/\(16:Int)<=64/\jA ((32:Int)+16)/\(decide (q74_4 d)=true->(0:Int)<=8/\(8:Int)<=64/\jA ((32:Int)+16+8)/\0<=d.1/(2:Int)^Int.toNat 32/(2:Int)^Int.toNat 16/(2:Int)^Int.toNat 8/\d.1/(2:Int)^Int.toNat 32/(2:Int)^Int.toNat 16/(2:Int)^Int.toNat 8<=255/\0<=d.1/(2:Int)^Int.toNat 32/(2:Int)^Int.toNat 16/(2:Int)^Int.toNat 8/\d.1/(2:Int)^Int.toNat 32/(2:Int)^Int.toNat 16/(2:Int)^Int.toNat 8<(U.len8tab.size:Int)/\jA (wR U.len8tab (q74_0 d).toNat)/\jA ((32:Int)+16+8+wR U.len8tab (q74_0 d).toNat)/\((32:Int)+16+8+wR U.len8tab (q74_0 d).toNat,())=(U.jdQ d.1,()))/\(decide (q74_4 d)=false->0<=d.1/(2:Int)^Int.toNat 32/(2:Int)^Int.toNat 16/\d.1/(2:Int)^Int.toNat 32/(2:Int)^Int.toNat 16<=255/\0<=d.1/(2:Int)^Int.toNat 32/(2:Int)^Int.toNat 16/\d.1/(2:Int)^Int.toNat 32/(2:Int)^Int.toNat 16<(U.len8tab.size:Int)/\jA (wR U.len8tab (q74_1 d).toNat)/\jA ((32:Int)+16+wR U.len8tab (q74_1 d).toNat)/\((32:Int)+16+wR U.len8tab (q74_1 d).toNat,())=(U.jdQ d.1,())))/\(decide (65536<=d.1/(2:Int)^Int.toNat 32)=false->(decide (256<=d.1/(2:Int)^Int.toNat 32)=true->(0:Int)<=8/\(8:Int)<=64/\jA ((32:Int)+8)/\0<=d.1/(2:Int)^Int.toNat 32/(2:Int)^Int.toNat 8/\d.1/(2:Int)^Int.toNat 32/(2:Int)^Int.toNat 8<=255/\0<=d.1/(2:Int)^Int.toNat 32/(2:Int)^Int.toNat 8/\d.1/(2:Int)^Int.toNat 32/(2:Int)^Int.toNat 8<(U.len8tab.size:Int)/\jA (wR U.len8tab (q74_2 d).toNat)/\jA ((32:Int)+8+wR U.len8tab (q74_2 d).toNat)/\((32:Int)+8+wR U.len8tab (q74_2 d).toNat,())=(U.jdQ d.1,()))/\(decide (256<=d.1/(2:Int)^Int.toNat 32)=false->0<=d.1/(2:Int)^Int.toNat 32/\d.1/(2:Int)^Int.toNat 32<=255/\0<=d.1/(2:Int)^Int.toNat 32/\d.1/(2:Int)^Int.toNat 32<(U.len8tab.size:Int)/\jA (wR U.len8tab (d.1/(2:Int)^Int.toNat 32).toNat)/\jA ((32:Int)+wR U.len8tab (d.1/(2:Int)^Int.toNat 32).toNat)/\((32:Int)+wR U.len8tab (d.1/(2:Int)^Int.toNat 32).toNat,())=(U.jdQ d.1,()))))/\(decide (4294967296<=d.1)=false->(decide (65536<=d.1)=true->(0:Int)<=16/\(16:Int)<=64/\jA ((0:Int)+16)/\(decide (256<=d.1/(2:Int)^Int.toNat 16)=true->(0:Int)<=8/\(8:Int)<=64/\jA ((0:Int)+16+8)/\0<=d.1/(2:Int)^Int.toNat 16/(2:Int)^Int.toNat 8/\d.1/(2:Int)^Int.toNat 16/(2:Int)^Int.toNat 8<=255/\0<=d.1/(2:Int)^Int.toNat 16/(2:Int)^Int.toNat 8/\d.1/(2:Int)^Int.toNat 16/(2:Int)^Int.toNat 8<(U.len8tab.size:Int)/\jA (wR U.len8tab (q74_3 d).toNat)/\jA ((0:Int)+16+8+wR U.len8tab (q74_3 d).toNat)/\((0:Int)+16+8+wR U.len8tab (q74_3 d).toNat,())=(U.jdQ d.1,()))/\(decide (256<=d.1/(2:Int)^Int.toNat 16)=false->0<=d.1/(2:Int)^Int.toNat 16/\d.1/(2:Int)^Int.toNat 16<=255/\0<=d.1/(2:Int)^Int.toNat 16/\d.1/(2:Int)^Int.toNat 16<(U.len8tab.size:Int)/\jA (wR U.len8tab (d.1/(2:Int)^Int.toNat 16).toNat)/\jA ((0:Int)+16+wR U.len8tab (d.1/(2:Int)^Int.toNat 16).toNat)/\((0:Int)+16+wR U.len8tab (d.1/(2:Int)^Int.toNat 16).toNat,())=(U.jdQ d.1,())))/\(decide (65536<=d.1)=false->(decide (256<=d.1)=true->(0:Int)<=8/\(8:Int)<=64/\jA ((0:Int)+8)/\0<=d.1/(2:Int)^Int.toNat 8/\d.1/(2:Int)^Int.toNat 8<=255/\0<=d.1/(2:Int)^Int.toNat 8/\d.1/(2:Int)^Int.toNat 8<(U.len8tab.size:Int)/\jA (wR U.len8tab (d.1/(2:Int)^Int.toNat 8).toNat)/\jA ((0:Int)+8+wR U.len8tab (d.1/(2:Int)^Int.toNat 8).toNat)/\((0:Int)+8+wR U.len8tab (d.1/(2:Int)^Int.toNat 8).toNat,())=(U.jdQ d.1,()))/\(decide (256<=d.1)=false->0<=d.1/\d.1<=255/\0<=d.1/\d.1<(U.len8tab.size:Int)/\jA (wR U.len8tab d.1.toNat)/\jA ((0:Int)+wR U.len8tab d.1.toNat)/\((0:Int)+wR U.len8tab d.1.toNat,())=(U.jdQ d.1,()))))
def jqy:jO:=⟨[.val (.uint .u64)],[.int],false,fun d=>[0<=d.1/\d.1<=12],fun d=>(U.jdQ d.1,())⟩
def jqc:Prop:=∀(d:Int×Unit),0<=d.1/\d.1<=12->(false=true->False)/\(false=false->(0<=d.1/\d.1<=12)/\(U.jdQ d.1,())=(U.jdQ d.1,()))
def qm:zr:=⟨[.own rwI true,.val .int,.val .int,.fn [.int,.int] [.int]],[],fun d=>[d.2.1=0/\d.2.2.1=(d.1.length:Int)/\d.1.length<=12,U.jat d.2.2.2.1.pre d.1],fun d=>((),(U.jav (U.qT d.2.2.2.1.F) d.1,()))⟩
def qE:Ann:=fun r=>match r with
 |1=>some fun σ=>{X:=Nat,sl:=fun i=>[(8,.dat .int (i:Int))],ob:=fun i=>[(1000000,some (.row 3 .int false .unk (U.yk (U.qT (gfn [.int,.int] [.int] σ 3)) (gr .int σ 1000000) i)))],inv:=fun i=>1<=i/\i<=max (gr .int σ 1000000).length 1,mu:=fun i=>(gr .int σ 1000000).length-i}
 |4=>some fun σ=>{X:=Nat×List Int,sl:=fun x=>[(9,.dat .int (x.1:Int))],ob:=fun x=>[(1000000,some (.row 3 .int false .unk x.2))],inv:=fun x=>(x.1:Int)<=gd .int σ 8/\x.2.Perm (gr .int σ 1000000)/\U.jcn (U.qT (gfn [.int,.int] [.int] σ 3)) x.2 x.1=U.jcn (U.qT (gfn [.int,.int] [.int] σ 3)) (gr .int σ 1000000) (gd .int σ 8).toNat,mu:=fun x=>x.1}
 |_=>none
abbrev q76_0 (a:Nat×List Int):=(nth a.2 (a.1:Int).toNat,nth a.2 ((a.1:Int)-1).toNat,())
abbrev q76_1 (d:List Int×Int×Int×FnD [Ty.int,Ty.int] [Ty.int]×Unit):=(U.qT d.2.2.2.1.2)
def ql:Prop:=∀(d:List Int×Int×Int×FnD [Ty.int,Ty.int] [Ty.int]×Unit),d.2.1=0/\d.2.2.1=(d.1.length:Int)/\d.1.length<=12->U.jat d.2.2.2.1.1 d.1->jA (d.2.1+1)/\(∃(x:Nat),((d.2.1+1=(x:Int)/\True)/\d.1=U.yk (q76_1 d) d.1 x/\True)/\1<=x/\x<=max d.1.length 1)/\∀(x:Nat),1<=x/\x<=max d.1.length 1->(decide ((x:Int)<d.2.2.1)=true->(∃(a:Nat×List Int),(((x:Int)=(a.1:Int)/\True)/\U.yk (q76_1 d) d.1 x=a.2/\True)/\(a.1:Int)<=(x:Int)/\a.2.Perm (U.yk (q76_1 d) d.1 x)/\U.jcn (q76_1 d) a.2 a.1=U.jcn (q76_1 d) (U.yk (q76_1 d) d.1 x) (x:Int).toNat)/\∀(a:Nat×List Int),(a.1:Int)<=(x:Int)/\a.2.Perm (U.yk (q76_1 d) d.1 x)/\U.jcn (q76_1 d) a.2 a.1=U.jcn (q76_1 d) (U.yk (q76_1 d) d.1 x) (x:Int).toNat->(decide (d.2.1<(a.1:Int))=true->0<=(a.1:Int))/\(decide (d.2.1<(a.1:Int))=true->(a.1:Int)<(a.2.length:Int))/\(decide (d.2.1<(a.1:Int))=true->jA ((a.1:Int)-1))/\(decide (d.2.1<(a.1:Int))=true->0<=(a.1:Int)-1)/\(decide (d.2.1<(a.1:Int))=true->(a.1:Int)-1<(a.2.length:Int))/\jxT (decide (d.2.1<(a.1:Int))) (d.2.2.2.1.1 (q76_0 a)) (((decide (d.2.1<(a.1:Int))&&decide ((d.2.2.2.1.2 (q76_0 a)).1<0))=true->jA ((a.1:Int)-1)/\jA ((a.1:Int)-1)/\0<=(a.1:Int)-1/\(a.1:Int)-1<(a.2.length:Int)/\0<=(a.1:Int)/\(a.1:Int)<(a.2.length:Int)/\0<=(a.1:Int)/\(a.1:Int)<(a.2.length:Int)/\0<=(a.1:Int)-1/\(a.1:Int)-1<(↑(a.2.set (a.1:Int).toNat (nth a.2 ((a.1:Int)-1).toNat)).length:Int)/\jA ((a.1:Int)-1)/\∃(b:Nat×List Int),(((a.1:Int)-1=(b.1:Int)/\True)/\(a.2.set (a.1:Int).toNat (nth a.2 ((a.1:Int)-1).toNat)).set ((a.1:Int)-1).toNat (nth a.2 (a.1:Int).toNat)=b.2/\True)/\((b.1:Int)<=(x:Int)/\b.2.Perm (U.yk (q76_1 d) d.1 x)/\U.jcn (q76_1 d) b.2 b.1=U.jcn (q76_1 d) (U.yk (q76_1 d) d.1 x) (x:Int).toNat)/\b.1<a.1)/\((decide (d.2.1<(a.1:Int))&&decide ((d.2.2.2.1.2 (q76_0 a)).1<0))=false->jA ((x:Int)+1)/\∃(c:Nat),(((x:Int)+1=(c:Int)/\True)/\a.2=U.yk (q76_1 d) d.1 c/\True)/\(1<=c/\c<=max d.1.length 1)/\d.1.length-c<d.1.length-x)))/\(decide ((x:Int)<d.2.2.1)=false->()=()/\(U.yk (q76_1 d) d.1 x,())=(U.jav (q76_1 d) d.1,()))
def yD:zr:=⟨[.own rwI true,.val .int,.val .int,.val .int,.fn [.int,.int] [.int]],[],fun d=>[d.2.1=0/\d.2.2.1=(d.1.length:Int)/\d.1.length<=12,U.jat d.2.2.2.2.1.pre d.1],fun d=>((),(U.jav (U.qT d.2.2.2.2.1.F) d.1,()))⟩
def gj:Ann:=fun r=>match r with
 |1000002=>some fun _=>{X:=Unit,sl:=fun _=>[],ob:=fun _=>[],inv:=fun _=>True,mu:=fun _=>0}
 |_=>none
def yv:Prop:=∀(d:List Int×Int×Int×Int×FnD [Ty.int,Ty.int] [Ty.int]×Unit),d.2.1=0/\d.2.2.1=(d.1.length:Int)/\d.1.length<=12->U.jat d.2.2.2.2.1.1 d.1->jA (d.2.2.1-d.2.1)/\(decide (d.2.2.1-d.2.1<=12)=true->(d.2.1=0/\d.2.2.1=(d.1.length:Int)/\d.1.length<=12)/\U.jat d.2.2.2.2.1.1 d.1/\()=()/\(U.jav (U.qT d.2.2.2.2.1.2) d.1,())=(U.jav (U.qT d.2.2.2.2.1.2) d.1,()))/\(decide (d.2.2.1-d.2.1<=12)=false->(decide (d.2.2.2.1=0)=true->False)/\(decide (d.2.2.2.1=0)=false->((!true)=true->False)/\((!true)=false->False)))
def zt:zr:=⟨[.own rwI true,.fn [.int,.int] [.int]],[],fun d=>[d.1.length<=12,U.jat d.2.1.pre d.1,kj (U.qT d.2.1.F) d.1],fun d=>((),(U.jc (U.qT d.2.1.F) d.1,()))⟩
def jd4:Prop:=∀(d:List Int×FnD [Ty.int,Ty.int] [Ty.int]×Unit),d.1.length<=12->U.jat d.2.1.1 d.1->kj (U.qT d.2.1.2) d.1->d.1.length<4611686018427387904->0<=(d.1.length:Int)/\(d.1.length:Int)<=18446744073709551615/\(0<=(d.1.length:Int)/\(d.1.length:Int)<=12)/\((0:Int)=0/\(d.1.length:Int)=(d.1.length:Int)/\d.1.length<=12)/\U.jat d.2.1.1 d.1/\()=()/\(U.jav (U.qT d.2.1.2) d.1,())=(U.jc (U.qT d.2.1.2) d.1,())
def asI (l:List Int):List (Ty.st [.int]).Data:=l.map (fun x=>(x,()))
def LVi (d:PD [.ref (.slice .int)]) (xs:List (Ty.st [.int]).Data):Prop:=xs=asI d.1
def jfx:jib (YS [.int]):=fun r=>match r with
 |1=>some fun σ ys=>{X:=Nat,sl:=fun i=>[(7,.dat .int (i:Int))],ob:=fun _=>[],ys:=fun i=>(asI ((gd (.slice .int) σ 5).take i),true),inv:=fun i=>i<=(gd (.slice .int) σ 5).length,mu:=fun i=>(gd (.slice .int) σ 5).length-i}
 |_=>none
abbrev q79_0 (d:List Int×Unit)(x:Nat):=(nth d.1 (x:Int).toNat,())
def vP:Prop:=∀(d:List Int×Unit) (l:Nat),d.1.length<4611686018427387904->(∃(x:Nat),((0=(x:Int)/\True)/\True)/\([],true)=(List.map (fun(f:Int)=>(f,())) (List.take x d.1),true)/\x<=d.1.length)/\∀(x:Nat),x<=d.1.length->(decide ((x:Int)<(d.1.length:Int))=true->0<=(x:Int)/\(x:Int)<(d.1.length:Int)/\l=l/\(∃(rest:List (Int×Unit)),List.map (fun(g:Int)=>(g,())) (List.take x d.1)++[(q79_0 d x)]++rest=List.map (fun(h:Int)=>(h,())) d.1)/\(((!true)=true->true=true->List.map (fun(i:Int)=>(i,())) (List.take x d.1)++[(q79_0 d x)]=List.map (fun(j:Int)=>(j,())) d.1)/\((!true)=false->jA ((x:Int)+1)/\∃(a:Nat),(((x:Int)+1=(a:Int)/\True)/\True)/\(List.map (fun(k:Int)=>(k,())) (List.take x d.1)++[(q79_0 d x)],true)=(List.map (fun(z6:Int)=>(z6,())) (List.take a d.1),true)/\a<=d.1.length/\d.1.length-a<d.1.length-x))/\((!false)=true->false=true->List.map (fun(z7:Int)=>(z7,())) (List.take x d.1)++[(q79_0 d x)]=List.map (fun(z8:Int)=>(z8,())) d.1)/\((!false)=false->jA ((x:Int)+1)/\∃(a:Nat),(((x:Int)+1=(a:Int)/\True)/\True)/\(List.map (fun(m:Int)=>(m,())) (List.take x d.1)++[(q79_0 d x)],false)=(List.map (fun(b:Int)=>(b,())) (List.take a d.1),true)/\a<=d.1.length/\d.1.length-a<d.1.length-x))/\(decide ((x:Int)<(d.1.length:Int))=false->true=true->List.map (fun(c:Int)=>(c,())) (List.take x d.1)=List.map (fun(e:Int)=>(e,())) d.1)
theorem jaU:(jyp (ctx 16 [] []) (zw Tryz.f152) [.int] [.ref (.slice .int)] LVi (fun _=>[]) (fun _ _=>jfx) (fun d l=>hkY [.int] l [13] (fun q=>∃rest,LVi d (q++rest)) (fun _=>none)))=vP:=by kernel_rfl
def zy:jdZ:=⟨[.val (.slice .int)],fun _=>[],152,[.slice .int],fun d=>(d.1,())⟩
def jam:Prop:=∀(d:List Int×Unit),d=d
theorem jcT:(jxN (ctx 4 [] []) (fun _=>none) Tryz.f110 (zw Tryz.f110) zy)=jam:=by kernel_rfl
def vk:jpO [.int]:={ps:=[.own (.box 33 [.row 3 .int .unk]) true],slots:=[2],dst:=20,pre:=fun _=>[],G:=fun d q=>((d.1.1++q.map (·.1),()),()),seq:=fun sv=>match sv with
 | .clo 152 [.ep t m]=>(match j0 t (.slice .int) m with
  |some a=>some (True,fun xs=>xs=asI a)
  |none=>none)
 |_=>none}
def wo:Nat->Option ((ts:List Ty)×jpO ts):=fun r=>match r with
 |3=>some ⟨[.int],vk⟩
 |_=>none
def zO:jdW:=⟨[none,some (152,1)],[.nil false,.ref (.slice .int)],[rwI],fun d=>[d.2.1.length<=12],fun d r=>r.1.1=d.2.1⟩
def ke:jdW:=⟨[some (152,1)],[.ref (.slice .int)],[rwI],fun d=>[d.1.length<=12],fun d r=>r.1.1=d.1⟩
def zC:jdW:=⟨[some (152,1),none],[.ref (.slice .int),.fn [.int,.int] [.int]],[rwI],fun d=>[d.1.length<=12,U.jat d.2.1.pre d.1,kj (U.qT d.2.1.F) d.1],fun d r=>r.1.1=U.jc (U.qT d.2.1.F) d.1⟩
def jdR (d:OD zO.ps):List SV:=[.lit (.slice none 0 0),.clo 152 [.ep (.slice .int) d.2.1]]
def vb:Prop:=∀(d:Unit×List Int×Unit),d.2.1.length<=12/\True->True/\True/\(([]++List.map (fun(a:Int×Unit)=>a.1) [],()),())=(([],()),())/\(∀(q:List (Int×Unit)) (x:Int×Unit) (rest:List (Int×Unit)),q++x::rest=List.map (fun(b:Int)=>(b,())) d.2.1->kI (fun(i:List (Int×Unit))=>false) q->(([]++List.map (fun(e:Int×Unit)=>e.1) q).length+[x.1].length)*8<=140737488355328/\false=false/\(([]++List.map (fun(f:Int×Unit)=>f.1) q++[x.1],()),())=(([]++List.map (fun(g:Int×Unit)=>g.1) (q++[x]),()),()))/\(∀(xs:List (Int×Unit)),xs=List.map (fun(z6:Int)=>(z6,())) d.2.1->kI (fun(z7:List (Int×Unit))=>false) xs->∃(k:Unit),[]++List.map (fun(z8:Int×Unit)=>z8.1) xs=d.2.1)/\∀(q:List (Int×Unit)) (x:Int×Unit) (rest:List (Int×Unit)),q++x::rest=List.map (fun(h:Int)=>(h,())) d.2.1->kI (fun(c:List (Int×Unit))=>false) q->false=true->∃(k:Unit),[]=d.2.1
theorem jaE:(jvR (ctx 13 [] []) (fun _=>none) (hkC (ctx 13 [] []) (fun _=>none) wo [] []) Tryz.f178 (zw Tryz.f178) zO jdR)=vb:=by kernel_rfl
def jgv (d:OD ke.ps):List SV:=[.clo 152 [.ep (.slice .int) d.1]]
def yz:Prop:=∀(d:List Int×Unit),d.1.length<=12/\True->(d.1.length<=12/\True)/\∀(r:(List Int×Unit)×Unit),r.1.1=d.1->∃(k:Unit),r.1.1=d.1
theorem jcg:(jvR (ctx 5 [] []) (fun _=>none) (hkC (ctx 5 [] []) (fun _=>none) jAp [4] [(178,20,zO)]) Tryz.f150 (zw Tryz.f150) ke jgv)=yz:=by kernel_rfl
def jcw (d:OD zC.ps):List SV:=[.clo 152 [.ep (.slice .int) d.1],.fn [.int,.int] [.int] d.2.1.pre d.2.1.F]
def qL:Prop:=∀(d:List Int×FnD [Ty.int,Ty.int] [Ty.int]×Unit),d.1.length<=12/\U.jat d.2.1.1 d.1/\kj (U.qT d.2.1.2) d.1/\True->(d.1.length<=12/\True)/\∀(r:(List Int×Unit)×Unit),r.1.1=d.1->r.1.1.length<=12/\U.jat d.2.1.1 r.1.1/\kj (U.qT d.2.1.2) r.1.1/\∃(k:Unit),U.jc (U.qT d.2.1.2) r.1.1=U.jc (U.qT d.2.1.2) d.1
theorem gA:(jvR (ctx 12 [] [(151,zt)]) (fun _=>none) (hkC (ctx 12 [] [(151,zt)]) (fun _=>none) jAp [7] [(150,20,ke)]) Tryz.f109 (zw Tryz.f109) zC jcw)=qL:=by kernel_rfl
end Go.X
namespace Go.X
open Go.Proofs
theorem ju1 {γ:Bool} {l:List Prop} {k:Prop} (h:γ=true->U.jx l) (hk:k):jxT γ l k:=by
 induction l with
 |nil=>exact hk
 |cons p l b=>exact⟨fun a=>(h a).1,b (fun a=>(h a).2)⟩
theorem jDy:∀n:Nat,n<13->wR U.len8tab n=U.jdQ (n:Int):=by decide+kernel
theorem jBx (n:Int):0<=U.jdQ n/\U.jdQ n<=4:=by
 unfold U.jdQ
 split
 .omega
 split
 .omega
 split
 .omega
 split<;>omega
theorem jpe:jma:=by
 unfold jma q74_4 q74_3 q74_2 q74_1 q74_0;rintro⟨n,⟨⟩⟩ ⟨a,b⟩;have a:0<=n:=a;have b:n<=12:=b;refine⟨fun h=>absurd (of_decide_eq_true h) (by simp only;omega),fun _=>⟨fun h=>absurd (of_decide_eq_true h) (by simp only;omega),fun _=>⟨fun h=>absurd (of_decide_eq_true h) (by simp only;omega),fun _=> ?_⟩⟩⟩;have c:=jDy n.toNat (by omega);rw[Int.toNat_of_nonneg a] at c;have d:=jBx n;simp only;rw[c];refine⟨by omega,by omega,by omega,?_,by unfold jA;omega,by unfold jA;omega,by rw[Int.zero_add]⟩;have:U.len8tab.size=256:=(by decide+kernel);omega
theorem jmI:ze PR 176 jmk:=jL jpe Tryz.func176 kcN koN
theorem juq:jqc:=by
 rintro⟨n,⟨⟩⟩ h;exact⟨fun e=>(by cases e),fun _=>⟨h,rfl⟩⟩
theorem jrc:ze PR 143 jqy:=jL juq Tryz.func143 (kcC jmI kcN) koN
theorem qJ:ql:=by
 unfold ql q76_1 q76_0;rintro⟨l,a,b,⟨pre,c⟩,⟨⟩⟩ x y;obtain⟨z,n,E⟩:a=0/\b=(l.length:Int)/\l.length<=12:=x;have s:U.jat pre l:=y;subst z n;simp only;refine⟨by unfold jA;omega,⟨1,⟨⟨rfl,trivial⟩,rfl,trivial⟩,jDO _,by omega⟩,fun i hi=>⟨fun h=> ?_,fun h=> ?_⟩⟩
 .have h:i<l.length:=(by have:=of_decide_eq_true h;omega);have u:=IS.part_perm (lt:=U.qT c) (l:=l) i (by omega);refine⟨⟨(i,U.yk (U.qT c) l i),⟨⟨rfl,trivial⟩,rfl,trivial⟩,jEF _,List.Perm.refl _,rfl⟩,?_⟩;rintro⟨j,m⟩ ⟨v,o,p⟩;have v:(j:Int)<=i:=v;have o:m.Perm (U.yk (U.qT c) l i):=o;have p:U.jcn (U.qT c) m j=U.jcn (U.qT c) (U.yk (U.qT c) l i) i:=p;have C:m.length=l.length:=(o.trans u).length_eq;have g:∀{k:Nat},k<m.length->nth m k∈l:=fun hk=>(o.trans u).mem_iff.1 (L.mem_nth hk)
  simp only[jDN];refine⟨fun _=>by omega,fun f=>by have:=of_decide_eq_true f;omega,fun f=>by have:=of_decide_eq_true f;unfold jA;omega,fun f=>by have:=of_decide_eq_true f;omega,fun f=>by have:=of_decide_eq_true f;omega,ju1 (fun f=> ?_) ⟨fun n=> ?_,fun n=> ?_⟩⟩
  .have f:=of_decide_eq_true f;exact s _ (g (by omega)) _ (g (by omega))
  .simp only[jDR,decide_eq_true_eq] at n;obtain⟨D,q⟩:=n;obtain⟨d,rfl⟩:∃d,j=d+1:=⟨j-1,by omega⟩;have r:((d+1:Nat):Int)-1=(d:Int):=(by omega);rw[r] at q⊢;simp only[jDN] at q⊢;have t:=IS.swap_perm (l:=m) (j:=d+1) (k:=d) (by omega) (by omega);have e:jA (d:Int):=(by unfold jA;omega);refine⟨e,e,by omega,by omega,by omega,by omega,by omega,by omega,by omega,by simp;omega,e,⟨(d,U.jtx m (d+1) d),⟨⟨rfl,trivial⟩,rfl,trivial⟩,⟨by simp only;omega,t.trans o,?_⟩,by simp⟩⟩;rw[<-p];show _=(if U.qT c (nth m (d+1)) (nth m d)=true then U.jcn (U.qT c) (U.jtx m (d+1) d) d else m);have w:U.qT c (nth m (d+1)) (nth m d)=true:=decide_eq_true q;rw[if_pos w]
  .have B:m=U.yk (U.qT c) l (i+1):=by
    rw[IS.part_succ,<-p];cases j with
    |zero=>rfl
    |succ d=>
     unfold U.jcn;rw[if_neg];intro A;refine absurd n (by
      rw[Bool.and_eq_false_iff];rintro(h|h)
      .exact absurd (of_decide_eq_false h) (by simp)
      .refine of_decide_eq_false h ?_;have r:((d+1:Nat):Int)-1=(d:Int):=(by omega);rw[r];exact of_decide_eq_true A)
   exact⟨by unfold jA;omega,i+1,⟨⟨by simp,trivial⟩,B,trivial⟩,by omega,by omega⟩
 .have h:l.length<=i:=(by have:=of_decide_eq_false h;omega);exact⟨trivial,by rw[IS.part_isort hi.1 hi.2 h]⟩
theorem qr:wE PR 200 qm:=ji9 qE qJ Tryz.func200 kcN koN
theorem gV:yv:=by
 rintro⟨l,a,b,lim,⟨pre,c⟩,⟨⟩⟩ e d;obtain⟨f,g,i⟩:a=0/\b=(l.length:Int)/\l.length<=12:=e;subst f g;refine⟨by unfold jA;simp only;omega,fun _=>⟨⟨rfl,rfl,by simp only;omega⟩,d,rfl,rfl⟩,fun h=>absurd (of_decide_eq_false h) (by simp only;omega)⟩
theorem yM:wE PR 179 yD:=ji9 gj gV Tryz.func179 kcN (koC qr koN)
theorem jgf:jd4:=by
 rintro⟨l,⟨pre,c⟩,⟨⟩⟩ a b d _;have a:l.length<=12:=a;exact⟨by simp only;omega,by simp only;omega,⟨by simp only;omega,by simp only;omega⟩,⟨rfl,rfl,a⟩,b,rfl,congrArg (·,()) (IS.isort_sort d)⟩
theorem jeF:wE PR 151 zt:=jgN jgf Tryz.func151 (kcC jrc kcN) (koC yM koN)
theorem jzv {l:List Int} {i:Nat} (h:i<l.length):asI (l.take (i+1))=asI (l.take i)++[(nth l i,())]:=by
 unfold asI;rw[L.take_succ h,jEH];rfl
theorem jge:vP:=by
 unfold vP q79_0;rintro⟨l,⟨⟩⟩ y b;have b:l.length<4611686018427387904:=b;refine⟨⟨0,⟨⟨rfl,trivial⟩,trivial⟩,rfl,jDV _⟩,fun x c=>⟨fun h=> ?_,fun h _=> ?_⟩⟩
 .have h:(x:Int)<(l.length:Int):=of_decide_eq_true h;have a:x<l.length:=(by omega);have e:=jzv a;unfold asI at e;simp only[jDN];refine⟨by omega,h,trivial,⟨asI (l.drop (x+1)),?_⟩,⟨fun h=>(by cases h),fun _=>⟨L.in64 (by omega) (by omega),x+1,⟨⟨by simp,trivial⟩,trivial⟩,?_,by show x+1<=l.length;omega,by show l.length-(x+1)<l.length-x;omega⟩⟩,fun _ h=>(by cases h),fun h=>(by cases h)⟩
  .rw[<-e];unfold asI;rw[<-jEH,jE3]
  .rw[e]
 .have h:¬(x:Int)<(l.length:Int):=of_decide_eq_false h;have c:x<=l.length:=c;rw[jEC (by show l.length<=x;omega)]
theorem jtL {H:Imm} {lb:Array Value} {d:PD [.ref (.slice .int)]} (e:pvs PR H [.ref (.slice .int)] lb.toList d):jzy PR H [.int] (LVi d) (.func (.func 152) #[] lb):=
 jzN (C:=ctx 16 [] []) (jjW trivial trivial) mixed Tryz.func152 (by kernel_rfl) (by kernel_rfl) (by kernel_rfl) (by kernel_rfl) (by decide) (jaU.mpr jge) (fun d l B0 R f a b c=>jB9 a c) e trivial
theorem jjv:jam:=by intro d;rfl
theorem jhv:jpR PR 110 zy:=jCa (jcT.mpr jjv) Tryz.func110 (by kernel_rfl) (by kernel_rfl) (by kernel_rfl) (by kernel_rfl) trivial trivial
theorem jBB (l:List Int):(asI l).map (fun(x:Int×Unit)=>x.1)=l:=by
 unfold asI;rw[List.map_map];exact List.map_id l
theorem je8:vb:=by
 intro d ⟨a,_⟩;refine⟨trivial,trivial,rfl,fun q x rest h _=>⟨?_,rfl,?_⟩,fun xs h _=>⟨(),?_⟩,fun _ _ _ _ _ h=>(by cases h)⟩
 .have b:=congrArg List.length h;simp only[jEX,jD2,jEi] at b;have a:d.2.1.length<=12:=a;simp only[jEa,jEX,jEi,jEx];omega
 .simp
 .rw[h,jEa];exact jBB d.2.1
theorem jhJ:yz:=fun d a=>⟨a,fun r h=>⟨(),h⟩⟩
theorem jdz:qL:=fun d ⟨a,b,c,_⟩=>⟨⟨a,trivial⟩,fun r h=>by rw[h];exact⟨a,b,c,(),rfl⟩⟩
theorem jsX {P:Program} {ρ:Env} {H:Imm} (b:ρ.H=H) {g:Nat} {t:Ty} {d:t.Data} {lb:Array Value} {w:World} {bs:List Nat} (a:gp P H w [.ref t] lb.toList (d,()) bs):SV.den P ρ (.clo g [.ep t d]) (.func (.func g) #[] lb):=by
 subst b
 match e:lb.toList,a with
 |[],a=>exact a.elim
 |[x],⟨_,_,_,⟨c,_⟩,_⟩=>
  simp only[SV.den,SV.denL];exact⟨lb,rfl,x,[],e,c,rfl⟩
 |x::y::r,⟨_,_,_,_,h2⟩=>cases h2.1
theorem jq2 {lb:Array Value} (h:lb.size=1):∃x,lb.toList=[x]:=by
 have a:lb.toList.length=1:=(by rw[jEd];exact h);exact List.length_eq_one_iff.1 a
theorem jwe {g n:Nat} {s:jdW} (h:ROK PR g s):∀(f:Nat) (p:Nat×jdW),js [(g,n,s)] f=some p->ROK PR f p.2:=by
 intro f p a;simp only[js] at a
 split at a
 .rename_i b;have:=jDI b;subst this;simp at a;subst a;exact h
 .cases a
theorem jzr (n:Nat):(ctx n [] []).ok PR:=jjW trivial trivial
theorem jcp:ROK PR 178 zO:=by
 refine jvQ (body:=zw Tryz.f178) (C:=ctx 13 [] []) (hk:=hkC (ctx 13 [] []) (fun _=>none) wo [] []) (jzr 13) mixed Tryz.func178 (by kernel_rfl) (by kernel_rfl) (by kernel_rfl) (fun B=>jlE (jzr 13) mixed ?_ jAN B) rfl (fun H w vals fl d bs c b ρ f=> ?_) (fun d=>rfl) (jaE.mpr je8)
 .intro k t rs sv A L v ρ hk a p g;unfold wo at hk
  split at hk
  case h_2=>cases hk
  simp only[Option.some.injEq] at hk;cases hk;simp only[vk] at a
  split at a
  case h_2=>cases a
  rename_i t m
  split at a
  case h_2=>cases a
  rename_i z o;simp only[Option.some.injEq,Prod.mk.injEq] at a;obtain⟨rfl,rfl⟩:=a;obtain⟨e,rfl⟩:=jh o;subst e;simp only[SV.den,SV.denL] at g;obtain⟨lb,rfl,x,r,n,j,l⟩:=g;exact jtL (d:=(m,())) (by rw[n,l];exact⟨j,rfl⟩)
 .obtain⟨v,q,h,rfl,rfl,lb,s,i,rfl,rfl,_,rfl,rfl⟩:=c;obtain⟨u,y,_,⟨rfl,_⟩,b⟩:=b;rw[jEg] at b;refine⟨_,_,rfl,rfl,_,_,rfl,jsX f b,rfl⟩
theorem jey:ROK PR 150 ke:=by
 refine jvQ (body:=zw Tryz.f150) (C:=ctx 5 [] []) (hk:=hkC (ctx 5 [] []) (fun _=>none) jAp [4] [(178,20,zO)]) (jzr 5) mixed Tryz.func150 (by kernel_rfl) (by kernel_rfl) (by kernel_rfl) (fun B=>jlE (jzr 5) mixed jqg (jwe jcp) B) rfl (fun H w vals fl d bs a c ρ b=> ?_) (fun d=>rfl) (jcg.mpr jhJ);obtain⟨lb,f,e,rfl,rfl,_,rfl,rfl⟩:=a;rw[jEg] at c;exact⟨_,_,rfl,jsX b c,rfl⟩
theorem jlM:(ctx 12 [] [(151,zt)]).ok PR:=jjW trivial ⟨jeF,trivial⟩
theorem jbb:ROK PR 109 zC:=by
 refine jvQ (body:=zw Tryz.f109) (C:=ctx 12 [] [(151,zt)]) (hk:=hkC (ctx 12 [] [(151,zt)]) (fun _=>none) jAp [7] [(150,20,ke)]) jlM mixed Tryz.func109 (by kernel_rfl) (by kernel_rfl) (by kernel_rfl)
  (fun B=>jlE jlM mixed jqg (jwe jey) B) rfl (fun H w vals fl d bs a e ρ c=> ?_) (fun d=>rfl) (gA.mpr jdz)
 obtain⟨lb,k,g,rfl,rfl,b,v,l,h,rfl,rfl,rfl,rfl⟩:=a;obtain⟨x,f⟩:=jq2 b;rw[f] at e;obtain⟨m,n,_,⟨i,_⟩,c1,c2,_,⟨j,_⟩,_⟩:=e;subst c;refine⟨_,_,rfl,⟨lb,rfl,x,[],f,i,rfl⟩,_,_,rfl,j,rfl⟩
end Go.X
namespace Go.X
open Go.Proofs
abbrev tRo:Ty:= .st [tDy,.slice .int,.slice (.slice .int),.slice .int]
abbrev RoD:Type:=DyD×List Int×List (List Int)×List Int×Unit
namespace U
def ro (o:Option RoD):RoD:=jQ (Ty.dflt tRo) o
def rd (r:RoD):DyD:=r.1
def gT (r:RoD):List Int:=r.2.1
def wm (r:RoD):List (List Int):=r.2.2.1
def jCP (r:RoD):List Int:=r.2.2.2.1
def q6 (d:DyD) (b:Int):Prop:=0<=b/\b<((jp d).length:Int)
def joT (d:DyD) (l:List Int):Prop:=l.length<=12/\∀b∈l,q6 d b
def jpV (d:DyD):Prop:=ju (jf d)=true/\jwN d=true/\zo d=true
def joS (r:RoD):Prop:=jpV (rd r)/\(gT r).length=(jp (rd r)).length
def jt3 (d:DyD) (p:Int):Prop:=0<=p/\p<((jj (jf d)).length:Int)
def jfp (d:DyD) (a b:Int):Int:=wd [gi (jdP (bk d a)) (jdP (bk d b)),gi a b]
def jk (d:DyD) (l:List Int):List Int:=jc (yc d) l
def w9 (d:DyD) (s:List Int) (n:Nat):Int:=jrf d (s.take n)
def jmJ (d:DyD) (vY:List Int) (p:Int) (s:List Int) (i:Nat):Bool:= !(decide (vG (nth vY (nth s i).toNat/2^p.toNat) 1=0)||(s.drop (i+1)).any (fun c=>decide (vg d (nth s i) c<0)))
def jBs (d:DyD) (vY:List Int) (p:Int) (s:List Int):Bool:=(List.range s.length).all (jmJ d vY p s)&&decide (jrf d s<=jAY d)
def jrY (d:DyD) (vY:List Int) (p:Int) (l:List Int):Bool:=jBs d vY p (jk d l)
def jaO (r:RoD) (p:Int) (l:List Int):Bool:=jrY (rd r) (gT r) p l
def w4 (on:List (List Int)) (b:Int) (n:Nat):Int:=(List.range n).foldl (fun s p=>if(nth on p).any (fun x=>decide (x=b))=true then bor s (1*2^p) else s) 0
def jfM (on:List (List Int)) (b:Int):Int:=w4 on b on.length
def jxh (d:DyD) (b t:Int):Bool:=(decide (ve (jf d) (jfE (bk d b)) t=0)&&decide (jCG (jf d) (jfE (bk d b)) t=0))&&decide (t≠0)
def jax (l:List PeD) (t:Int) (n:Nat):Int:=(List.range n).foldl (fun s i=>s+vG (t/2^i) 1*fe (nth l i)) 0
def vC (d:DyD) (t:Int):Int:=jax (jj (jf d)) t (jj (jf d)).length
end U
def jfO:jO:=⟨[.val (.ptr tRo),.val .int,.val .int],[.int],false,fun d=>[d.1.isSome=true,U.jpV (U.rd (U.ro d.1)),U.q6 (U.rd (U.ro d.1)) d.2.1,U.q6 (U.rd (U.ro d.1)) d.2.2.1],fun d=>(U.vg (U.rd (U.ro d.1)) d.2.1 d.2.2.1,())⟩
abbrev q84_0 (d:Option RoD×Int×Int×Unit):=(jQ ((((0:Int),[],[],()),[],[],(0:Int),(0:Int),[],()),[],[],[],()) d.1)
abbrev q84_1 (d:Option RoD×Int×Int×Unit):=(nth (q84_0 d).1.2.2.1 d.2.1.toNat)
abbrev q84_2 (d:Option RoD×Int×Int×Unit):=(nth (q84_0 d).1.2.2.1 d.2.2.1.toNat)
def jfJ:Prop:=∀(d:Option RoD×Int×Int×Unit),d.1.isSome=true->U.jpV (U.rd (U.ro d.1))->U.q6 (U.rd (U.ro d.1)) d.2.1->U.q6 (U.rd (U.ro d.1)) d.2.2.1->d.1.isSome=true/\0<=d.2.1/\d.2.1<(↑(q84_0 d).1.2.2.1.length:Int)/\d.1.isSome=true/\0<=d.2.2.1/\d.2.2.1<(↑(q84_0 d).1.2.2.1.length:Int)/\jA ((q84_2 d).2.2.1-(q84_1 d).2.2.2.1)/\d.1.isSome=true/\jA ((q84_2 d).2.2.1-(q84_1 d).2.2.2.1-(q84_0 d).1.2.2.2.1)/\d.1.isSome=true/\(0:Int)<=(q84_1 d).2.1/\(q84_1 d).2.1<(↑(q84_0 d).1.2.1.length:Int)/\(0:Int)<=(q84_2 d).2.1/\(q84_2 d).2.1<(↑(nth (q84_0 d).1.2.1 (q84_1 d).2.1.toNat).length:Int)/\jA ((q84_2 d).2.2.1-(q84_1 d).2.2.2.1-(q84_0 d).1.2.2.2.1-(nth (nth (q84_0 d).1.2.1 (q84_1 d).2.1.toNat) (q84_2 d).2.1.toNat).2.1)/\((q84_2 d).2.2.1-(q84_1 d).2.2.2.1-(q84_0 d).1.2.2.2.1-(nth (nth (q84_0 d).1.2.1 (q84_1 d).2.1.toNat) (q84_2 d).2.1.toNat).2.1,())=(U.vg (U.rd (U.ro d.1)) d.2.1 d.2.2.1,())
def zb:jO:=⟨[.val .int,.val .int,.ref (.ptr tRo)],[.int],false,fun d=>[d.2.2.1.isSome=true,U.q6 (U.rd (U.ro d.2.2.1)) d.1,U.q6 (U.rd (U.ro d.2.2.1)) d.2.1],fun d=>(U.jfp (U.rd (U.ro d.2.2.1)) d.1 d.2.1,())⟩
abbrev q85_0 (d:Int×Int×Option RoD×Unit):=(jQ ((((0:Int),[],[],()),[],[],(0:Int),(0:Int),[],()),[],[],[],()) d.2.2.1)
def jch:Prop:=∀(d:Int×Int×Option RoD×Unit),d.2.2.1.isSome=true->U.q6 (U.rd (U.ro d.2.2.1)) d.1->U.q6 (U.rd (U.ro d.2.2.1)) d.2.1->d.2.2.1.isSome=true/\0<=d.1/\d.1<(↑(q85_0 d).1.2.2.1.length:Int)/\d.2.2.1.isSome=true/\0<=d.2.1/\d.2.1<(↑(q85_0 d).1.2.2.1.length:Int)/\(U.wd [U.gi (nth (q85_0 d).1.2.2.1 d.1.toNat).2.2.1 (nth (q85_0 d).1.2.2.1 d.2.1.toNat).2.2.1,U.gi d.1 d.2.1],())=(U.jfp (U.rd (U.ro d.2.2.1)) d.1 d.2.1,())
def vT:jO:=⟨[.val (.ptr tRo),.val (.slice .int)],[.slice .int],false,fun d=>[d.1.isSome=true,U.joT (U.rd (U.ro d.1)) d.2.1],fun d=>(U.jk (U.rd (U.ro d.1)) d.2.1,())⟩
def vQ:Prop:=∀(d:Option RoD×List Int×Unit),d.1.isSome=true->U.joT (U.rd (U.ro d.1)) d.2.1->(d.2.1.length<=12/\U.jat (fun(a:Int×Int×Unit)=>[d.1.isSome=true,U.q6 (U.rd (U.ro d.1)) a.1,U.q6 (U.rd (U.ro d.1)) a.2.1]) d.2.1/\kj (U.qT fun(b:Int×Int×Unit)=>(U.jfp (U.rd (U.ro d.1)) b.1 b.2.1,())) d.2.1/\True)/\∀(r:(List Int×Unit)×Unit),r.1.1=U.jc (U.qT fun(c:Int×Int×Unit)=>(U.jfp (U.rd (U.ro d.1)) c.1 c.2.1,())) d.2.1->r.1=(U.jk (U.rd (U.ro d.1)) d.2.1,())
theorem jaX:(jAy (jpX 9 [(111,zb)] [] [(110,zy)] []) (fun _=>none) (hkC (jpX 9 [(111,zb)] [] [(110,zy)] []) (fun _=>none) jAp [8] [(109,20,zC)]) Tryz.f58 (zw Tryz.f58) vT)=vQ:=by kernel_rfl
def jfP:jO:=⟨[.val .int,.ref (.ptr tRo),.ref .int],[.bool],false,fun d=>[d.2.1.isSome=true,U.jpV (U.rd (U.ro d.2.1)),U.q6 (U.rd (U.ro d.2.1)) d.1,U.q6 (U.rd (U.ro d.2.1)) d.2.2.1],fun d=>(decide (U.vg (U.rd (U.ro d.2.1)) d.2.2.1 d.1<0),())⟩
def jfK:Prop:=∀(d:Int×Option RoD×Int×Unit),d.2.1.isSome=true->U.jpV (U.rd (U.ro d.2.1))->U.q6 (U.rd (U.ro d.2.1)) d.1->U.q6 (U.rd (U.ro d.2.1)) d.2.2.1->d.2.1.isSome=true/\U.jpV (U.rd (U.ro d.2.1))/\U.q6 (U.rd (U.ro d.2.1)) d.2.2.1/\U.q6 (U.rd (U.ro d.2.1)) d.1/\(decide (U.vg (U.rd (U.ro d.2.1)) d.2.2.1 d.1<0),())=(decide (U.vg (U.rd (U.ro d.2.1)) d.2.2.1 d.1<0),())
def ja6:jO:=⟨[.val (.ptr tRo),.val .int,.val (.slice .int)],[.bool],false,fun d=>[d.1.isSome=true,U.joS (U.ro d.1),U.jt3 (U.rd (U.ro d.1)) d.2.1,U.joT (U.rd (U.ro d.1)) d.2.2.1],fun d=>(U.jaO (U.ro d.1) d.2.1 d.2.2.1,())⟩
def jj9:Ann:=fun r=>match r with
 |4=>some fun σ=>{X:=Nat,sl:=fun i=>[(16,.dat .int (i:Int)),(7,.dat .int (U.w9 (U.rd (U.ro (gd (.ptr tRo) σ 0))) (gd (.slice .int) σ 14) i))],ob:=fun _=>[],inv:=fun i=>i<=(gd (.slice .int) σ 14).length/\∀b:Nat,b<i->U.jmJ (U.rd (U.ro (gd (.ptr tRo) σ 0))) (U.gT (U.ro (gd (.ptr tRo) σ 0))) (gd .int σ 1) (gd (.slice .int) σ 14) b=true,mu:=fun i=>(gd (.slice .int) σ 14).length-i}
 |_=>none
abbrev q88_0 (d:Option RoD×Int×List Int×Unit):=(jQ ((((0:Int),[],[],()),[],[],(0:Int),(0:Int),[],()),[],[],[],()) d.1)
abbrev q88_5 (d:Option RoD×Int×List Int×Unit):=(U.rd (U.ro d.1))
abbrev q88_1 (d:Option RoD×Int×List Int×Unit):=(U.jk (q88_5 d) d.2.2.1)
abbrev q88_4 (d:Option RoD×Int×List Int×Unit):=(↑(q88_1 d).length:Int)
abbrev q88_6 (d:Option RoD×Int×List Int×Unit)(x:Nat):=(nth (q88_1 d) (x:Int).toNat)
abbrev q88_2 (d:Option RoD×Int×List Int×Unit)(x:Nat):=(vG (nth (q88_0 d).2.1 (q88_6 d x).toNat/(2:Int)^d.2.1.toNat) (1:Int)=0)
abbrev q88_3 (d:Option RoD×Int×List Int×Unit)(x:Nat):=((nth (q88_0 d).1.2.2.1 (q88_6 d x).toNat).2.2.2.1-(nth (q88_0 d).1.2.2.1 (q88_6 d x).toNat).2.2.1)
abbrev q88_7 (d:Option RoD×Int×List Int×Unit)(x:Nat):=(List.take ((q88_4 d).toNat-((x:Int)+1).toNat) (List.drop ((x:Int)+1).toNat (q88_1 d)))
def jil:Prop:=∀(d:Option RoD×Int×List Int×Unit),d.1.isSome=true->U.joS (U.ro d.1)->U.jt3 (q88_5 d) d.2.1->U.joT (q88_5 d) d.2.2.1->d.1.isSome=true/\U.joT (q88_5 d) d.2.2.1/\((q88_1 d).length<4611686018427387904->(∃(x:Nat),((0=(x:Int)/\0=U.w9 (q88_5 d) (q88_1 d) x/\True)/\True)/\x<=(q88_1 d).length/\∀(b:Nat),b<x->U.jmJ (q88_5 d) (U.gT (U.ro d.1)) d.2.1 (q88_1 d) b=true)/\∀(x:Nat),(x<=(q88_1 d).length/\∀(b:Nat),b<x->U.jmJ (q88_5 d) (U.gT (U.ro d.1)) d.2.1 (q88_1 d) b=true)->(decide ((x:Int)<(q88_4 d))=true->0<=(x:Int)/\(x:Int)<(q88_4 d)/\d.1.isSome=true/\0<=nth (q88_1 d) (x:Int).toNat/\nth (q88_1 d) (x:Int).toNat<(↑(q88_0 d).1.2.2.1.length:Int)/\d.1.isSome=true/\0<=nth (q88_1 d) (x:Int).toNat/\nth (q88_1 d) (x:Int).toNat<(↑(q88_0 d).1.2.2.1.length:Int)/\jA (q88_3 d x)/\jA (U.w9 (q88_5 d) (q88_1 d) x+(q88_3 d x))/\d.1.isSome=true/\0<=nth (q88_1 d) (x:Int).toNat/\nth (q88_1 d) (x:Int).toNat<(↑(q88_0 d).2.1.length:Int)/\0<=d.2.1/\d.2.1<=64/\((!decide (q88_2 d x))=true->jA ((x:Int)+1))/\((!decide (q88_2 d x))=true->0<=(x:Int)+1)/\((!decide (q88_2 d x))=true->(x:Int)+1<=(q88_4 d))/\((!decide (q88_2 d x))=true->(q88_4 d)<=(q88_4 d))/\((!decide (q88_2 d x))=true->∀(g:Int),g∈List.take ((q88_4 d).toNat-((x:Int)+1).toNat) (List.drop ((x:Int)+1).toNat (q88_1 d))->U.jx [d.1.isSome=true,U.jpV (q88_5 d),U.q6 (q88_5 d) g,U.q6 (q88_5 d) (q88_6 d x)])/\((decide (q88_2 d x)||(q88_7 d x).any (U.jb fun(c:Int×Unit)=>(decide (U.vg (q88_5 d) (q88_6 d x) c.1<0),())))=true->(false,())=(U.jaO (U.ro d.1) d.2.1 d.2.2.1,()))/\((decide (q88_2 d x)||(q88_7 d x).any (U.jb fun(e:Int×Unit)=>(decide (U.vg (q88_5 d) (q88_6 d x) e.1<0),())))=false->jA ((x:Int)+1)/\∃(a:Nat),(((x:Int)+1=(a:Int)/\U.w9 (q88_5 d) (q88_1 d) x+(q88_3 d x)=U.w9 (q88_5 d) (q88_1 d) a/\True)/\True)/\(a<=(q88_1 d).length/\∀(b:Nat),b<a->U.jmJ (q88_5 d) (U.gT (U.ro d.1)) d.2.1 (q88_1 d) b=true)/\(q88_1 d).length-a<(q88_1 d).length-x))/\(decide ((x:Int)<(q88_4 d))=false->d.1.isSome=true/\(decide (U.w9 (q88_5 d) (q88_1 d) x<=(q88_0 d).1.2.2.2.2.1),())=(U.jaO (U.ro d.1) d.2.1 d.2.2.1,())))
def jhg:jO:=⟨[.val (.ptr tRo),.val .int],[.int],false,fun d=>[d.1.isSome=true,(U.wm (U.ro d.1)).length<=60],fun d=>(U.jfM (U.wm (U.ro d.1)) d.2.1,())⟩
def jhS:Ann:=fun r=>match r with
 |2=>some fun σ=>{X:=Nat,sl:=fun i=>[(12,.dat .int (i:Int)),(4,.dat .int (U.w4 (U.wm (U.ro (gd (.ptr tRo) σ 0))) (gd .int σ 1) i))],ob:=fun _=>[],inv:=fun i=>i<=(U.wm (U.ro (gd (.ptr tRo) σ 0))).length,mu:=fun i=>(U.wm (U.ro (gd (.ptr tRo) σ 0))).length-i}
 |_=>none
abbrev q89_0 (d:Option RoD×Int×Unit):=(jQ ((((0:Int),[],[],()),[],[],(0:Int),(0:Int),[],()),[],[],[],()) d.1)
abbrev q89_1 (d:Option RoD×Int×Unit):=(U.wm (U.ro d.1))
def jg6:Prop:=∀(d:Option RoD×Int×Unit),d.1.isSome=true->(q89_1 d).length<=60->d.1.isSome=true/\((q89_0 d).2.2.1.length<4611686018427387904->(∃(x:Nat),((0=(x:Int)/\0=U.w4 (q89_1 d) d.2.1 x/\True)/\True)/\x<=(q89_1 d).length)/\∀(x:Nat),x<=(q89_1 d).length->(decide ((x:Int)<(↑(q89_0 d).2.2.1.length:Int))=true->0<=(x:Int)/\(x:Int)<(↑(q89_0 d).2.2.1.length:Int)/\(((nth (q89_0 d).2.2.1 (x:Int).toNat).any fun(b:Int)=>decide (b=d.2.1))=true->0<=(x:Int)/\(x:Int)<=64/\jA ((1:Int)*2^(x:Int).toNat)/\jA ((x:Int)+1)/\∃(a:Nat),(((x:Int)+1=(a:Int)/\bor (U.w4 (q89_1 d) d.2.1 x) ((1:Int)*2^(x:Int).toNat)=U.w4 (q89_1 d) d.2.1 a/\True)/\True)/\a<=(q89_1 d).length/\(q89_1 d).length-a<(q89_1 d).length-x)/\(((nth (q89_0 d).2.2.1 (x:Int).toNat).any fun(c:Int)=>decide (c=d.2.1))=false->jA ((x:Int)+1)/\∃(a:Nat),((U.w4 (q89_1 d) d.2.1 x=U.w4 (q89_1 d) d.2.1 a/\(x:Int)+1=(a:Int)/\True)/\True)/\a<=(q89_1 d).length/\(q89_1 d).length-a<(q89_1 d).length-x))/\(decide ((x:Int)<(↑(q89_0 d).2.2.1.length:Int))=false->(U.w4 (q89_1 d) d.2.1 x,())=(U.jfM (q89_1 d) d.2.1,())))
def jhh:jO:=⟨[.val (.ptr tRo),.val .int,.val .int],[.bool],false,fun d=>[d.1.isSome=true,U.q6 (U.rd (U.ro d.1)) d.2.1],fun d=>(U.jxh (U.rd (U.ro d.1)) d.2.1 d.2.2.1,())⟩
abbrev q90_0 (d:Option RoD×Int×Int×Unit):=(jQ ((((0:Int),[],[],()),[],[],(0:Int),(0:Int),[],()),[],[],[],()) d.1)
def jg7:Prop:=∀(d:Option RoD×Int×Int×Unit),d.1.isSome=true->U.q6 (U.rd (U.ro d.1)) d.2.1->d.1.isSome=true/\d.1.isSome=true/\0<=d.2.1/\d.2.1<(↑(q90_0 d).1.2.2.1.length:Int)/\(decide (U.ve (q90_0 d).1.1 (nth (q90_0 d).1.2.2.1 d.2.1.toNat).1 d.2.2.1=0)&&decide (U.jCG (q90_0 d).1.1 (nth (q90_0 d).1.2.2.1 d.2.1.toNat).1 d.2.2.1=0)&&decide (d.2.2.1≠0),())=(U.jxh (U.rd (U.ro d.1)) d.2.1 d.2.2.1,())
def ja5:jO:=⟨[.val (.ptr tRo),.val .int],[.int],false,fun d=>[d.1.isSome=true,U.ju (U.jf (U.rd (U.ro d.1)))=true,0<=d.2.1,d.2.1<=1000000],fun d=>(U.vC (U.rd (U.ro d.1)) d.2.1,())⟩
def jj8:Ann:=fun r=>match r with
 |2=>some fun σ=>{X:=Nat,sl:=fun i=>[(14,.dat .int (i:Int)),(4,.dat .int (U.jax (U.jj (U.jf (U.rd (U.ro (gd (.ptr tRo) σ 0))))) (gd .int σ 1) i))],ob:=fun _=>[],inv:=fun i=>i<=(U.jj (U.jf (U.rd (U.ro (gd (.ptr tRo) σ 0))))).length,mu:=fun i=>(U.jj (U.jf (U.rd (U.ro (gd (.ptr tRo) σ 0))))).length-i}
 |_=>none
abbrev q91_0 (d:Option RoD×Int×Unit):=(jQ ((((0:Int),[],[],()),[],[],(0:Int),(0:Int),[],()),[],[],[],()) d.1)
abbrev q91_1 (d:Option RoD×Int×Unit):=(U.jj (U.jf (U.rd (U.ro d.1))))
def jik:Prop:=∀(d:Option RoD×Int×Unit),d.1.isSome=true->U.ju (U.jf (U.rd (U.ro d.1)))=true->0<=d.2.1->d.2.1<=1000000->d.1.isSome=true/\((q91_0 d).1.1.2.1.length<4611686018427387904->(∃(x:Nat),((0=(x:Int)/\0=U.jax (q91_1 d) d.2.1 x/\True)/\True)/\x<=(q91_1 d).length)/\∀(x:Nat),x<=(q91_1 d).length->(decide ((x:Int)<(↑(q91_0 d).1.1.2.1.length:Int))=true->0<=(x:Int)/\(x:Int)<(↑(q91_0 d).1.1.2.1.length:Int)/\0<=(x:Int)/\(x:Int)<=64/\jA (vG (d.2.1/(2:Int)^(x:Int).toNat) (1:Int)*(nth (q91_0 d).1.1.2.1 (x:Int).toNat).2.2.2.2.2.1)/\jA (U.jax (q91_1 d) d.2.1 x+vG (d.2.1/(2:Int)^(x:Int).toNat) (1:Int)*(nth (q91_0 d).1.1.2.1 (x:Int).toNat).2.2.2.2.2.1)/\jA ((x:Int)+1)/\∃(a:Nat),(((x:Int)+1=(a:Int)/\U.jax (q91_1 d) d.2.1 x+vG (d.2.1/(2:Int)^(x:Int).toNat) (1:Int)*(nth (q91_0 d).1.1.2.1 (x:Int).toNat).2.2.2.2.2.1=U.jax (q91_1 d) d.2.1 a/\True)/\True)/\a<=(q91_1 d).length/\(q91_1 d).length-a<(q91_1 d).length-x)/\(decide ((x:Int)<(↑(q91_0 d).1.1.2.1.length:Int))=false->(U.jax (q91_1 d) d.2.1 x,())=(U.vC (U.rd (U.ro d.1)) d.2.1,())))
end Go.X
namespace Go.X
open Go.Proofs
theorem zp {d:DyD} (h:U.zo d=true):(U.jp d).length<=4/\(1<=(U.jt d).length/\(U.jt d).length<=5)/\(0<=U.jtN d/\U.jtN d<=300)/\(0<=U.jAY d/\U.jAY d<=1440)/\(U.jW d).length<=30/\
 (∀r∈U.jt d,U.qP (U.jt d).length r=true)/\(∀b∈U.jp d,U.jct (U.jt d).length b=true)/\∀s∈U.jW d,U.jbn (U.jp d).length (U.jj (U.jf d)).length s=true:=by
 unfold U.zo at h;simp only[jDR,decide_eq_true_eq,jEp] at h;obtain⟨⟨e,f,g,i,j,k,l,m⟩,n,a,c⟩:=h;exact⟨e,⟨f,g⟩,⟨i,j⟩,⟨k,l⟩,m,n,a,c⟩
theorem jDh {d:DyD} {b:Int} (h:U.q6 d b):U.bk d b∈U.jp d:=by
 unfold U.bk;exact L.mem_nth (by unfold U.q6 at h;omega)
theorem jcc {d:DyD} (h:U.zo d=true) {b:Int} (a:U.q6 d b):(0<=U.jBv (U.bk d b)/\U.jBv (U.bk d b)<((U.jt d).length:Int))/\0<=U.jdP (U.bk d b)/\U.jdP (U.bk d b)<U.jzt (U.bk d b)/\U.jzt (U.bk d b)<=1440:=by
 have:=(zp h).2.2.2.2.2.2.1 _ (jDh a);unfold U.jct at this;have:=of_decide_eq_true this;omega
theorem jol {d:DyD} (h:U.zo d=true) {i:Nat} (hi:i<(U.jt d).length):(nth (U.jt d) i).length=(U.jt d).length/\∀j,j<(U.jt d).length->0<=U.lo (nth (nth (U.jt d) i) j)/\U.lo (nth (nth (U.jt d) i) j)<=U.hi (nth (nth (U.jt d) i) j)/\U.hi (nth (nth (U.jt d) i) j)<=300:=by
 have:=(zp h).2.2.2.2.2.1 _ (L.mem_nth hi);unfold U.qP at this;rw[jDR,decide_eq_true_eq,jEp] at this;refine⟨this.1,fun j b=> ?_⟩;have a:=this.2 _ (L.mem_nth (l:=nth (U.jt d) i) (i:=j) (by omega));unfold U.jeO at a;exact of_decide_eq_true a
theorem jxl {d:DyD} (h:U.zo d=true) {a b:Int} (c:U.q6 d a) (e:U.q6 d b):0<=U.jBc d a b/\U.jBc d a b<=300:=by
 have f:=(jcc h c).1;have g:=(jcc h e).1;have:=(jol h (i:=(U.jBv (U.bk d a)).toNat) (by omega)).2 (U.jBv (U.bk d b)).toNat (by omega);unfold U.jBc;omega
theorem jhM:jfJ:=by
 unfold jfJ q84_2 q84_1 q84_0;rintro⟨(_|r),a,b,⟨⟩⟩ h c d e
 .cases h
 obtain⟨c1,c2,c⟩:U.jpV (U.rd r):=c;have d:U.q6 (U.rd r) a:=d;have e:U.q6 (U.rd r) b:=e;have g:=jcc c d;have j:=jcc c e;have k:=jxl c d e;have l:=(zp c).2.2.1;have m:=(jol c (i:=(U.jBv (U.bk (U.rd r) a)).toNat) (by omega)).1;have f:(0<=a/\a<((U.jp (U.rd r)).length:Int))/\0<=b/\b<((U.jp (U.rd r)).length:Int):=⟨d,e⟩;refine⟨rfl,f.1.1,f.1.2,rfl,f.2.1,f.2.2,?_,rfl,?_,rfl,g.1.1,g.1.2,j.1.1,?_,?_,rfl⟩
 .show jA (U.jdP (U.bk (U.rd r) b)-U.jzt (U.bk (U.rd r) a));exact L.in64 (by omega) (by omega)
 .show jA (U.jdP (U.bk (U.rd r) b)-U.jzt (U.bk (U.rd r) a)-U.jtN (U.rd r));exact L.in64 (by omega) (by omega)
 .show U.jBv (U.bk (U.rd r) b)<((nth (U.jt (U.rd r)) (U.jBv (U.bk (U.rd r) a)).toNat).length:Int);omega
 .show jA (U.jdP (U.bk (U.rd r) b)-U.jzt (U.bk (U.rd r) a)-U.jtN (U.rd r)-U.jBc (U.rd r) a b);exact L.in64 (by omega) (by omega)
theorem jf3:ze PR 59 jfO:=jL jhM Tryz.func59 kcN koN
theorem jdB:jch:=by
 unfold jch q85_0;rintro⟨a,b,(_|r),⟨⟩⟩ e c d
 .cases e
 have c:U.q6 (U.rd r) a:=c;have d:U.q6 (U.rd r) b:=d;exact⟨rfl,c.1,c.2,rfl,d.1,d.2,rfl⟩
theorem jcr:ze PR 111 zb:=jL jdB Tryz.func111 (kcC wH (kcC gQ kcN)) koN
theorem jBn (d:DyD):jaQ (U.jfp d):=by
 have e:U.jfp d=jx8 (fun a b=>U.gi (U.jdP (U.bk d a)) (U.jdP (U.bk d b))) U.gi:=by
  funext a b;unfold U.jfp;rw[jZ,kR];rfl
 rw[e];exact jga (jgI jfo (fun a=>U.jdP (U.bk d a))) jfo
theorem jxG {d:DyD} {a b:Int} (h:U.jfp d a b=0):a=b:=by
 unfold U.jfp at h;rw[jZ] at h
 split at h
 .contradiction
 .rw[kR] at h;exact qU.1 h
theorem jxH (d:DyD) (a b:Int):decide (U.jfp d a b<0)=U.yc d a b:=by
 unfold U.jfp U.yc;rw[jZ,kR];refine decide_eq_decide.2 ?_;by_cases c:U.jdP (U.bk d a)<U.jdP (U.bk d b)
 .have e:U.gi (U.jdP (U.bk d a)) (U.jdP (U.bk d b))= -1:=(by unfold U.gi;rw[if_pos c]);rw[e];simp;omega
 .by_cases f:U.jdP (U.bk d b)<U.jdP (U.bk d a)
  .have e:U.gi (U.jdP (U.bk d a)) (U.jdP (U.bk d b))=1:=(by unfold U.gi;rw[if_neg c,if_pos f]);rw[e];simp;omega
  .have e:U.gi (U.jdP (U.bk d a)) (U.jdP (U.bk d b))=0:=(by unfold U.gi;rw[if_neg c,if_neg f]);rw[e];unfold U.gi;simp only[ne_eq,not_true_eq_false,if_false]
   split<;>(try split)<;>omega
theorem jDB (d:DyD) (l:List Int):kj (U.yc d) l:=by
 have:=jmC (t:= .int) (jBn d) (l:=l) (fun _ _ _ _ h=>jxG h);have e:(U.jd .int fun(x:Int×Int×Unit)=>(U.jfp d x.1 x.2.1,()))=U.yc d:=by
  funext a b;exact jxH d a b
 rw[e] at this;exact this
theorem ltK (d:DyD):(U.qT fun(x:Int×Int×Unit)=>(U.jfp d x.1 x.2.1,()))=U.yc d:=by
 funext a b;exact jxH d a b
theorem jgl:vQ:=by
 rintro⟨(_|r),l,⟨⟩⟩ c f
 .cases c
 obtain⟨d,b⟩:U.joT (U.rd r) l:=f;refine⟨⟨d,fun x g y h=>⟨rfl,b x g,b y h,trivial⟩,?_,trivial⟩,fun q a=> ?_⟩
 .have e:=ltK (U.rd r);show kj (U.qT fun(x:Int×Int×Unit)=>(U.jfp (U.rd r) x.1 x.2.1,())) l;rw[e];exact jDB _ l
 .have e:=ltK (U.rd r);have a:q.1.1=U.jc (U.qT fun(x:Int×Int×Unit)=>(U.jfp (U.rd r) x.1 x.2.1,())) l:=a;rw[e] at a;obtain⟨⟨q,⟨⟩⟩,⟨⟩⟩:=q;rw[show q=_ from a];rfl
theorem jpz:(jpX 9 [(111,zb)] [] [(110,zy)] []).ok PR:=jrT ⟨fun _=>jcr,trivial⟩ trivial ⟨jhv,trivial⟩ trivial
theorem jeK:ze PR 58 vT:=
 jB1 (body:=zw Tryz.f58) (C:=jpX 9 [(111,zb)] [] [(110,zy)] []) (hk:=hkC (jpX 9 [(111,zb)] [] [(110,zy)] []) (fun _=>none) jAp [8] [(109,20,zC)]) jpz mixed Tryz.func58 (by kernel_rfl) (by kernel_rfl) (by kernel_rfl) (by decide)
  (fun B=>jlE jpz mixed jqg (jwe jbb) B) (jaX.mpr jgl)
theorem jhN:jfK:=by
 rintro⟨b,(_|r),a,⟨⟩⟩ c f e d
 .cases c
 exact⟨rfl,f,d,e,rfl⟩
theorem jf4:ze PR 123 jfP:=jL jhN Tryz.func123 (kcC jf3 kcN) koN
theorem jja {d:DyD} {s:List Int} {i:Nat} (h:i<s.length):U.w9 d s (i+1)=U.w9 d s i+(U.jzt (U.bk d (nth s i))-U.jdP (U.bk d (nth s i))):=by
 unfold U.w9 U.jrf;rw[L.take_succ h,jEH,jEo];rfl
theorem jwA {d:DyD} (a:U.zo d=true) {s:List Int} (c:∀b∈s,U.q6 d b):∀i,i<=s.length->0<=U.w9 d s i/\U.w9 d s i<=1440*(i:Int)
 |0,_=>⟨jEF _,jEF _⟩
 |i+1,hi=>by
  have f:=jwA a c i (by omega)
  have e:=jcc a (c _ (L.mem_nth (l:=s) (i:=i) (by omega)))
  rw[jja (by omega)]
  omega
theorem jqB {d:DyD} {l:List Int} {b:Int}:b∈U.jk d l↔b∈l:=(j6 l).mem_iff
theorem jqC (d:DyD) (l:List Int):(U.jk d l).length=l.length:=(j6 l).length_eq
theorem jkN:jil:=by
 unfold jil q88_7 q88_3 q88_2 q88_6 q88_4 q88_1 q88_5 q88_0;rintro⟨(_|r),p,l,⟨⟩⟩ D v q K
 .cases D
 obtain⟨⟨c1,c2,u⟩,v⟩:U.joS r:=v;have q:U.jt3 (U.rd r) p:=q;obtain⟨z,A⟩:U.joT (U.rd r) l:=K;have N:=(jI c1).2.2.1;refine⟨rfl,⟨z,A⟩,fun _=> ?_⟩;obtain⟨s,o⟩:∃s,s=U.jk (U.rd r) l:=⟨_,rfl⟩;have O:s.length<=12:=(by rw[o,jqC];exact z);have k:∀b∈s,U.q6 (U.rd r) b:=fun b d=>A b (by rw[o] at d;exact jqB.1 d)
 have t:U.ro (some r)=r:=rfl;simp only[t,<-o];refine⟨⟨0,⟨⟨rfl,rfl,trivial⟩,trivial⟩,jDV _,fun b d=>by omega⟩,fun x w=>⟨fun h=> ?_,fun h=> ?_⟩⟩
 .have h:(x:Int)<(s.length:Int):=of_decide_eq_true h;have a:x<s.length:=(by omega);have d:=k _ (L.mem_nth a);have H:=jcc u d;have M:=jwA u k x (by omega);have C:((x:Int)+1).toNat=x+1:=(by omega);have B:(s.drop (x+1)).take (s.length-(x+1))=s.drop (x+1):=jEC (by rw[jE2];omega);have I:U.jdP (U.bk (U.rd r) (nth s x))=(nth (U.jp (U.rd r)) (nth s x).toNat).2.2.1:=rfl;simp only[jDN,C,B];have n:(nth s x)<((U.gT r).length:Int):=(by rw[v];exact d.2);have m:U.jmJ (U.rd r) (U.gT r) p s x= !(decide (vG (nth (U.gT r) (nth s x).toNat/2^p.toNat) 1=0)||(s.drop (x+1)).any (fun c=>decide (U.vg (U.rd r) (nth s x) c<0))):=rfl;have j:((s.drop (x+1)).any (U.jb fun(y:Int×Unit)=>(decide (U.vg (U.rd r) (nth s x) y.fst<0),())))=(s.drop (x+1)).any (fun c=>decide (U.vg (U.rd r) (nth s x) c<0)):=rfl;unfold U.jt3 at q;refine⟨by omega,h,rfl,d.1,d.2,rfl,d.1,d.2,?_,?_,rfl,d.1,n,q.1,by omega,fun _=>L.in64 (by omega) (by omega),fun _=>by omega,fun _=>by omega,fun _=>by omega,fun _ g J=>⟨rfl,⟨c1,c2,u⟩,k g (jE4 J),d,trivial⟩,fun f=> ?_,fun f=>⟨L.in64 (by omega) (by omega),x+1,⟨⟨by simp,(jja a).symm,trivial⟩,trivial⟩,⟨by omega,fun b G=> ?_⟩,by omega⟩⟩
  .show jA (U.jzt (U.bk (U.rd r) (nth s x))-U.jdP (U.bk (U.rd r) (nth s x)));exact L.in64 (by omega) (by omega)
  .show jA (U.w9 (U.rd r) s x+(U.jzt (U.bk (U.rd r) (nth s x))-U.jdP (U.bk (U.rd r) (nth s x))));exact L.in64 (by omega) (by omega)
  .have f:(decide (vG (nth (U.gT r) (nth s x).toNat/2^p.toNat) 1=0)||((s.drop (x+1)).any (U.jb fun(y:Int×Unit)=>(decide (U.vg (U.rd r) (nth s x) y.fst<0),()))))=true:=f;have f:U.jmJ (U.rd r) (U.gT r) p s x=false:=(by rw[m,<-j,f];rfl);have:U.jaO r p l=false:=by
    unfold U.jaO U.jrY U.jBs;rw[<-o];have:(List.range s.length).all (U.jmJ (U.rd r) (U.gT r) p s)=false:=by
     rw[jEQ];exact⟨x,by simpa using a,by rw[f];simp⟩
    rw[this];rfl
   rw[this]
  .by_cases e:b=x
   .subst e;have f:(decide (vG (nth (U.gT r) (nth s b).toNat/2^p.toNat) 1=0)||((s.drop (b+1)).any (U.jb fun(y:Int×Unit)=>(decide (U.vg (U.rd r) (nth s b) y.fst<0),()))))=false:=f;rw[m,<-j,f];rfl
   .exact w.2 b (by omega)
 .have h:¬(x:Int)<(s.length:Int):=of_decide_eq_false h;have a:x=s.length:=(by have:=w.1;omega);refine⟨rfl,?_⟩;have E:(List.range s.length).all (U.jmJ (U.rd r) (U.gT r) p s)=true:=by
   rw[jEp];intro i hi;exact w.2 i (by rw[a];simpa using hi)
  have F:U.w9 (U.rd r) s x=U.jrf (U.rd r) s:=by
   unfold U.w9;rw[a,jEC (jDO _)]
  rw[F];have:U.jaO r p l=decide (U.jrf (U.rd r) s<=U.jAY (U.rd r)):=by
   unfold U.jaO U.jrY U.jBs;rw[<-o,E,Bool.true_and]
  rw[this];rfl
theorem jbk:ze PR 83 ja6:=wa jj9 jkN Tryz.func83 (kcC jeK (kcC jf4 (kcC wX kcN))) koN
theorem jiq (on:List (List Int)) (b:Int) (n:Nat):U.w4 on b (n+1)=if(nth on n).any (fun x=>decide (x=b))=true then bor (U.w4 on b n) (1*2^n) else U.w4 on b n:=by
 unfold U.w4;rw[jEz,jEo];rfl
theorem jbg (n:Nat):(1:Int)*2^n=2^n:=Int.one_mul _
theorem jjA:jg6:=by
 unfold jg6 q89_1 q89_0;rintro⟨(_|r),b,⟨⟩⟩ g d
 .cases g
 have d:(U.wm r).length<=60:=d;have c:U.ro (some r)=r:=rfl;refine⟨rfl,fun _=>⟨⟨0,⟨⟨rfl,rfl,trivial⟩,trivial⟩,jDV _⟩,fun x f=>⟨fun h=> ?_,fun h=> ?_⟩⟩⟩
 .have h:(x:Int)<((U.wm r).length:Int):=of_decide_eq_true h;have e:=jiq (U.wm r) b x;have i:BT.Set' ((2:Int)^x):=BT.two_set (by omega);unfold BT.Set' at i;simp only[jDN,c];refine⟨by omega,h,fun a=>⟨by omega,by omega,by rw[jbg];exact L.in64 (by omega) (by omega),L.in64 (by omega) (by omega),x+1,⟨⟨by simp,?_,trivial⟩,trivial⟩,by omega,by omega⟩,fun a=>⟨L.in64 (by omega) (by omega),x+1,⟨⟨?_,by simp,trivial⟩,trivial⟩,by omega,by omega⟩⟩
  .rw[e];have a:((nth (U.wm r) x).any fun y=>decide (y=b))=true:=a;rw[if_pos a]
  .rw[e];have a:((nth (U.wm r) x).any fun y=>decide (y=b))=false:=a;rw[if_neg (by rw[a];simp)]
 .have h:¬(x:Int)<((U.wm r).length:Int):=of_decide_eq_false h;have f:x<=(U.wm r).length:=f;rw[show x=(U.wm r).length by omega];rfl
theorem jhz:ze PR 53 jhg:=wa jhS jjA Tryz.func53 (kcC vW kcN) koN
theorem jjB:jg7:=by
 unfold jg7 q90_0;rintro⟨(_|r),b,t,⟨⟩⟩ c a
 .cases c
 have a:U.q6 (U.rd r) b:=a;exact⟨rfl,rfl,a.1,a.2,rfl⟩
theorem jhA:ze PR 40 jhh:=jL jjB Tryz.func40 (kcC jq5 kcN) koN
theorem jlI (l:List PeD) (t:Int) (n:Nat):U.jax l t (n+1)=U.jax l t n+vG (t/2^n) 1*U.fe (nth l n):=by
 unfold U.jax;rw[jEz,jEo];rfl
theorem jsU {c:CrD} (h:U.ju c=true) {i:Nat} (hi:i<(U.jj c).length):0<=U.fe (nth (U.jj c) i)/\U.fe (nth (U.jj c) i)<=1000:=by
 have:=(jI h).2.2.2.2.1 _ (L.mem_nth hi);unfold U.yo at this;simp only[jDR,decide_eq_true_eq] at this;obtain⟨⟨_,_,_,_,_,_,a,b⟩,_⟩:=this;exact⟨a,b⟩
theorem jxQ {z f:Int} (a:0<=f/\f<=1000):0<=vG z 1*f/\vG z 1*f<=1000:=by
 rcases js4 z with h|h
 .rw[h,Int.zero_mul];omega
 .rw[h,Int.one_mul];omega
theorem jnb {c:CrD} (h:U.ju c=true) (t:Int):∀i,i<=(U.jj c).length->0<=U.jax (U.jj c) t i/\U.jax (U.jj c) t i<=1000*(i:Int)
 |0,_=>⟨jEF _,jEF _⟩
 |i+1,hi=>by
  have a:=jnb h t i (by omega)
  have:=jxQ (z:=t/2^i) (jsU h (i:=i) (by omega))
  rw[jlI]
  omega
theorem jkM:jik:=by
 unfold jik q91_1 q91_0;rintro⟨(_|r),t,⟨⟩⟩ d a f g
 .cases d
 have a:U.ju (U.jf (U.rd r))=true:=a;have l:=(jI a).2.2.1;have b:U.ro (some r)=r:=rfl;refine⟨rfl,fun _=>⟨⟨0,⟨⟨rfl,rfl,trivial⟩,trivial⟩,jDV _⟩,fun x c=>⟨fun h=> ?_,fun h=> ?_⟩⟩⟩
 .have h:(x:Int)<((U.jj (U.jf (U.rd r))).length:Int):=of_decide_eq_true h;have e:=jlI (U.jj (U.jf (U.rd r))) t x;have j:=jnb a t x (by omega);have k:=jxQ (z:=t/2^x) (jsU a (i:=x) (by omega));simp only[jDN,b];refine⟨by omega,h,by omega,by omega,L.in64 (by show _<=vG (t/2^x) 1*U.fe (nth (U.jj (U.jf (U.rd r))) x);omega) (by show vG (t/2^x) 1*U.fe (nth (U.jj (U.jf (U.rd r))) x)<=_;omega),L.in64 (by show _<=U.jax _ t x+vG (t/2^x) 1*U.fe (nth (U.jj (U.jf (U.rd r))) x);omega) (by show U.jax _ t x+vG (t/2^x) 1*U.fe (nth (U.jj (U.jf (U.rd r))) x)<=_;omega),L.in64 (by omega) (by omega),x+1,⟨⟨by simp,e.symm,trivial⟩,trivial⟩,by omega,by omega⟩
 .have h:¬(x:Int)<((U.jj (U.jf (U.rd r))).length:Int):=of_decide_eq_false h;have c:x<=(U.jj (U.jf (U.rd r))).length:=c;rw[show x=(U.jj (U.jf (U.rd r))).length by omega];rfl
theorem jiX:ze PR 68 ja5:=wa jj8 jkM Tryz.func68 kcN koN
end Go.X
namespace Go.X
theorem jad {l:List ShD} {s:ShD}:s∈U.jG l↔s∈l:=by
 have e:U.jG l=U.qC (fun a b=>decide (a=b)) (U.jc (U.jd tSh fun x=>(U.wY x.1 x.2.1,())) l):=by
  unfold U.jG;congr 1
 rw[e,L.comp_mem];exact(j6 l).mem_iff
theorem jfk (l:List ShD):(U.jG l).Nodup:=by
 have e:U.jG l=U.qC (fun a b=>decide (a=b)) (U.jc (U.jd tSh fun x=>(U.wY x.1 x.2.1,())) l):=by
  unfold U.jG;congr 1
 rw[e];refine L.asc_nodup (lt:=U.jd tSh fun x=>(U.wY x.1 x.2.1,())) (fun x=> ?_) (L.comp_asc (jmB _) (qX (jmB l)));exact(jmB [x]).irrefl x (List.mem_singleton.2 rfl)
theorem jz4 (l:List ShD):∀i,i<=l.length->∀k,kx 0 (zl .int k (U.kC [] l i))=(((l.take i).countP (fun s=>decide (U.zT s=k)):Nat):Int)
 |0,_,k=>rfl
 |i+1,hi,k=>by
  have a:=jz4 l i (by omega)
  rw[ga (by omega),L.take_succ (by omega),jE9]
  unfold U.jca
  by_cases e:k=U.zT (nth l i)
  .rw[e]
   rw[M.mfind_mput (kt:= .int) (U.zT (nth l i)) (kx 0 (zl .int (U.zT (nth l i)) (U.kC [] l i))+1) (U.kC [] l i)]
   show kx 0 (zl .int (U.zT (nth l i)) (U.kC [] l i))+1=_
   rw[a]
   simp
  .rw[M.mfind_mput_ne (kt:= .int) (k:=U.zT (nth l i)) (k':=k) e (kx 0 (zl .int (U.zT (nth l i)) (U.kC [] l i))+1) (U.kC [] l i),a]
   have:decide (U.zT (nth l i)=k)=false:=decide_eq_false fun h=>e h.symm
   simp[this]
theorem js9 {l:List ShD} {i:Nat} (h:i<l.length):U.jfA [] l i=(l.take i).any (fun s=>decide (U.zT s=U.zT (nth l i))):=by
 unfold U.jfA U.jta;rw[<-ga h,jz4 l (i+1) (by omega),L.take_succ h,jE9];rw[jEm,decide_eq_true_eq,jEM];have b:List.countP (fun s=>decide (U.zT s=U.zT (nth l i))) [nth l i]=1:=(by simp);rw[b];constructor
 .intro a;have:0<(l.take i).countP (fun s=>decide (U.zT s=U.zT (nth l i))):=(by omega);rw[List.countP_pos_iff] at this;exact this
 .intro a;have:0<(l.take i).countP (fun s=>decide (U.zT s=U.zT (nth l i))):=List.countP_pos_iff.2 a;omega
theorem jBh (l:List ShD):U.jrL l=false↔(l.map U.zT).Nodup:=by
 have g:U.jrL l=false↔∀i,i<l.length->U.jfA [] l i=false:=by
  unfold U.jrL;constructor
  .intro h i hi;cases k:U.jfA [] l i with
   |false=>rfl
   |true=>
    exfalso;have b:(List.range l.length).findIdx? (U.jfA [] l)≠none:=by
     intro f;rw[List.findIdx?_eq_none_iff] at f;have:=f i (jD8.2 hi);rw[k] at this;cases this
    unfold U.jbP U.gq at h;cases d:(List.range l.length).findIdx? (U.jfA [] l) with
    |none=>exact b d
    |some j=>
     rw[d] at h;have h:=of_decide_eq_false h;exact h (jD6 j)
  .intro h;rw[(jlZ h).1];rfl
 rw[g,List.nodup_iff_pairwise_ne,List.pairwise_map,jEE];constructor
 .intro h i j hi a m e;have:=h j a;rw[js9 a,jEA] at this;have c:=this (l[i]) (by rw[jEw];exact⟨i,by omega,rfl⟩);rw[L.nth_lt a] at c;simp[e] at c
 .intro h i hi;rw[js9 hi,jEA];intro s b;rw[jEw] at b;obtain⟨j,a,rfl⟩:=b;have:=h j i (by omega) hi (by omega);rw[L.nth_lt hi];simpa using this
theorem jxt (l:List ShD):U.jrL (U.jG l)=false↔∀a∈l,∀b∈l,U.zT a=U.zT b->a=b:=by
 rw[jBh];constructor
 .intro h a c b d e;exact L.nodup_inj h (jad.2 c) (jad.2 d) e
 .intro h;rw[List.nodup_iff_pairwise_ne,List.pairwise_map];exact(List.Pairwise.imp_of_mem (fun{a b} c d f e=>f (h a (jad.1 c) b (jad.1 d) e)) (jfk l))
theorem jbJ (l:List ShD):U.zZ l=false↔∀a∈l,∀b∈l,U.zT a=U.zT b->a=b:=by
 have k:U.zZ l=false↔∀i,i<l.length->∀j,j<i->U.jjZ (nth l i) (nth l j)=false:=by
  unfold U.zZ U.wK U.jh8;rw[jEA];constructor
  .intro h i hi j d;have:=h i (jD8.2 hi);rw[Bool.not_eq_true,jEA] at this;have:=this (nth l j) (by rw[jEw];exact⟨j,by omega,(L.nth_lt (by omega)).symm⟩);simpa using this
  .intro h i hi;have hi:=jD8.1 hi;rw[Bool.not_eq_true,jEA];intro s g;rw[jEw] at g;obtain⟨j,d,rfl⟩:=g;have:=h i hi j (by omega);rw[L.nth_lt (l:=l) (i:=j) (by omega)] at this;simpa using this
 rw[k];have f:∀a b:ShD,U.jjZ a b=false↔(U.zT a=U.zT b->a=b):=by
  intro a b;unfold U.jjZ;rw[Bool.and_eq_false_iff];simp only[decide_eq_false_iff_not,jEq,decide_eq_true_eq];constructor
  .rintro(h|h) e
   .exact absurd e h
   .exact h
  .intro h;by_cases e:U.zT a=U.zT b
   .exact .inr (h e)
   .exact .inl e
 constructor
 .intro h a m b n e;obtain⟨i,hi,rfl⟩:=L.mem_iff.1 m;obtain⟨j,d,rfl⟩:=L.mem_iff.1 n;rcases Nat.lt_trichotomy i j with c|rfl|c
  .exact((f _ _).1 (h j d i c) e.symm).symm
  .rfl
  .exact(f _ _).1 (h i hi j c) e
 .intro h i hi j d;exact(f _ _).2 (h _ (L.mem_nth hi) _ (L.mem_nth (by omega)))
theorem jpr (l:List ShD):U.jrL (U.jG l)=U.zZ l:=by
 have:=(jxt l).trans (jbJ l).symm;cases a:U.jrL (U.jG l) with
 |false=>exact(this.1 a).symm
 |true=>
  cases b:U.zZ l with
  |false=>rw[this.2 b] at a;cases a
  |true=>rfl
theorem jfq (d:DyD):U.jz d=U.qV d:=by
 unfold U.jz U.jj1 U.qV;rw[jpr]
 split
 .rfl
 .split
  .rfl
  .rw[if_neg (by simp)]
end Go.X
namespace Go.X
open Go.Proofs
abbrev tSt:Ty:= .st [.int,.int]
abbrev jCO:Sh:= .box 72 [.dat .int,.dat (.slice tPe),.dat (.slice tLw),.dat (.slice (.slice tSp)),.dat (.slice tBk),.dat .int,.dat .int,.dat (.slice tSh),.row 3 .int .yes,.row 33 (.slice .int) .no,.row 3 .int .unk]
namespace U
def q7:List Int:=[]
def ko (b:jCO.D):RoD:=(((b.1,b.2.1,b.2.2.1,()),b.2.2.2.1,b.2.2.2.2.1,b.2.2.2.2.2.1,b.2.2.2.2.2.2.1,b.2.2.2.2.2.2.2.1,()),b.2.2.2.2.2.2.2.2.1,b.2.2.2.2.2.2.2.2.2.1,b.2.2.2.2.2.2.2.2.2.2.1,())
def jhP (b:jCO.D) (x:List (List Int)×List Int):jCO.D:=(b.1,b.2.1,b.2.2.1,b.2.2.2.1,b.2.2.2.2.1,b.2.2.2.2.2.1,b.2.2.2.2.2.2.1,b.2.2.2.2.2.2.2.1,b.2.2.2.2.2.2.2.2.1,x.1,x.2,())
def yI (s:ShD):Int×Int×Unit:=(joi s,jcA s,())
def zn (l:List ShD) (n:Nat):List ((Int×Int×Unit)×ShD):=(l.take n).foldl (fun m s=>jdr tSt (yI s) s m) []
def ki (m:List ((Int×Int×Unit)×ShD)) (s:ShD):Bool:= !(!decide (kx (Ty.dflt tSh) (zl tSt (yI s) m)=s)|| !decide (jyo s=1))
def jnS (d:DyD) (vY:List Int) (m:List ((Int×Int×Unit)×ShD)) (x:List (List Int)×List Int) (s:ShD):List (List Int)×List Int:=
 if ki m s=true then(if jrY d vY (jcA s) (nth x.1 (jcA s).toNat++[joi s])=true then(x.1.set (jcA s).toNat (nth x.1 (jcA s).toNat++[joi s]),x.2) else(x.1,x.2++[zT s])) else x
def jDH (l:List ShD):List ShD:=jc (jd tSh fun x=>(jo x.1 x.2.1,())) l
def zA (d:DyD):List ShD:=jDH (jG (jW d))
def kk (r:RoD) (l:List ShD) (n:Nat):List (List Int)×List Int:=(l.take n).foldl (jnS (rd r) (gT r) (zn l l.length)) (wm r,jCP r)
def qH (r:RoD):List (List Int)×List Int:=((kk r (zA (rd r)) (zA (rd r)).length).1,jeq (kk r (zA (rd r)) (zA (rd r)).length).2)
def jAO (l:List (List Int)):Prop:=∀x∈l,x=q7
def jyF (r:RoD):Prop:=(jz (rd r)=0/\(gT r).length=(jp (rd r)).length)/\((wm r).length=(jj (jf (rd r))).length/\jAO (wm r))/\jCP r=q7
def vR (r:RoD) (l:List ShD) (n:Nat) (x:List (List Int)×List Int):Prop:=x.1.length=(jj (jf (rd r))).length/\x.2.length<=n/\∀p:Nat,(nth x.1 p).Nodup/\∀b∈nth x.1 p,q6 (rd r) b/\∃i:Nat,i<n/\yI (nth l i)=(b,(p:Int),())/\kx (Ty.dflt tSh) (zl tSt (yI (nth l i)) (zn l l.length))=nth l i
end U
def bx (σ:St) (o:Nat):List SV:=match σ.obj o with|some (.box _ _ cs)=>cs|_=>[]
def gb (t:Ty) (σ:St) (o:Nat):t.Data:=match kN σ t (bx σ o) with|some (x,_)=>x|none=>t.dflt
abbrev jku:zr:=jvC 3
def jfU:zr:=⟨[.own jCO true],[],fun d=>[U.jyF (U.ko d.1)],fun d=>((),(U.jhP d.1 (U.qH (U.ko d.1)),()))⟩
def jgw:Ann:=fun r=>match r with
 |4=>some fun σ=>{X:=Nat,sl:=fun i=>[(20,.dat .int (i:Int))],ob:=fun i=>[(9,some (.map false tSt tSh (U.zn (gr tSh σ 3) i)))],inv:=fun i=>i<=(gr tSh σ 3).length,mu:=fun i=>(gr tSh σ 3).length-i}
 |9=>some fun σ=>{X:=Nat,sl:=fun i=>[(34,.dat .int (i:Int))],ob:=fun i=>[(400009,some (.row 33 (.slice .int) false .no (U.kk (gb tRo σ 1000000) (gr tSh σ 3) i).1)),(400010,some (.row 3 .int false .unk (U.kk (gb tRo σ 1000000) (gr tSh σ 3) i).2))],inv:=fun i=>i<=(gr tSh σ 3).length/\U.vR (gb tRo σ 1000000) (gr tSh σ 3) i (U.kk (gb tRo σ 1000000) (gr tSh σ 3) i),mu:=fun i=>(gr tSh σ 3).length-i}
 |_=>none
abbrev q92_2 (d:(Int×List PeD×List LwD×List (List (Int×Int×Unit))×List BkD×Int×Int×List ShD×List Int×List (List Int)×List Int×Unit)×Unit):=(U.jG d.1.2.2.2.2.2.2.2.1)
abbrev q92_3 (d:(Int×List PeD×List LwD×List (List (Int×Int×Unit))×List BkD×Int×Int×List ShD×List Int×List (List Int)×List Int×Unit)×Unit):=((d.1.1,d.1.2.1,d.1.2.2.1,()),d.1.2.2.2.1,d.1.2.2.2.2.1,d.1.2.2.2.2.2.1,d.1.2.2.2.2.2.2.1,d.1.2.2.2.2.2.2.2.1,())
abbrev q92_1 (d:(Int×List PeD×List LwD×List (List (Int×Int×Unit))×List BkD×Int×Int×List ShD×List Int×List (List Int)×List Int×Unit)×Unit):=((q92_3 d),d.1.2.2.2.2.2.2.2.2)
abbrev q92_4:=(Ty.int.pair (Ty.int.pair Ty.unit))
abbrev q92_0:=(Ty.int.pair (Ty.int.pair (Ty.int.pair q92_4)))
abbrev q92_5:=((0:Int),(0:Int),(0:Int),(0:Int),(0:Int),())
def jfI:Prop:=∀(d:(Int×List PeD×List LwD×List (List (Int×Int×Unit))×List BkD×Int×Int×List ShD×List Int×List (List Int)×List Int×Unit)×Unit),U.jyF (U.ko d.1)->d.1.2.2.2.2.2.2.2.1.length<=100000/\(∀(u0:ShD),u0∈U.jG d.1.2.2.2.2.2.2.2.1->∀(y:ShD),y∈U.jG d.1.2.2.2.2.2.2.2.1->U.jx [])/\kj (U.jd q92_0 fun(z0:ShD×ShD×Unit)=>(U.jo z0.1 z0.2.1,())) (q92_2 d)/\((U.jc (U.jd q92_0 fun(z1:ShD×ShD×Unit)=>(U.jo z1.1 z1.2.1,())) (q92_2 d)).length<4611686018427387904->(∃(x:Nat),((0=(x:Int)/\True)/\[]=U.zn (U.jc (U.jd q92_0 fun(z2:ShD×ShD×Unit)=>(U.jo z2.1 z2.2.1,())) (q92_2 d)) x/\True)/\x<=(U.jc (U.jd q92_0 fun(z3:ShD×ShD×Unit)=>(U.jo z3.1 z3.2.1,())) (q92_2 d)).length)/\∀(x:Nat),x<=(U.jc (U.jd q92_0 fun(z4:ShD×ShD×Unit)=>(U.jo z4.1 z4.2.1,())) (q92_2 d)).length->(decide ((x:Int)<(↑(U.jc (U.jd q92_0 fun(z5:ShD×ShD×Unit)=>(U.jo z5.1 z5.2.1,())) (q92_2 d)).length:Int))=true->0<=(x:Int)/\(x:Int)<(↑(U.jc (U.jd q92_0 fun(z6:ShD×ShD×Unit)=>(U.jo z6.1 z6.2.1,())) (q92_2 d)).length:Int)/\jA ((x:Int)+1)/\∃(b:Nat),(((x:Int)+1=(b:Int)/\True)/\jdr q92_4 (nth (U.jc (U.jd q92_0 fun(z7:ShD×ShD×Unit)=>(U.jo z7.1 z7.2.1,())) (q92_2 d)) (x:Int).toNat).2.2.2 (nth (U.jc (U.jd q92_0 fun(z8:ShD×ShD×Unit)=>(U.jo z8.1 z8.2.1,())) (q92_2 d)) (x:Int).toNat) (U.zn (U.jc (U.jd q92_0 fun(z9:ShD×ShD×Unit)=>(U.jo z9.1 z9.2.1,())) (q92_2 d)) x)=U.zn (U.jc (U.jd q92_0 fun(v:ShD×ShD×Unit)=>(U.jo v.1 v.2.1,())) (q92_2 d)) b/\True)/\b<=(U.jc (U.jd q92_0 fun(w:ShD×ShD×Unit)=>(U.jo w.1 w.2.1,())) (q92_2 d)).length/\(U.jc (U.jd q92_0 fun(z:ShD×ShD×Unit)=>(U.jo z.1 z.2.1,())) (q92_2 d)).length-b<(U.jc (U.jd q92_0 fun(A:ShD×ShD×Unit)=>(U.jo A.1 A.2.1,())) (q92_2 d)).length-x)/\(decide ((x:Int)<(↑(U.jc (U.jd q92_0 fun(B:ShD×ShD×Unit)=>(U.jo B.1 B.2.1,())) (q92_2 d)).length:Int))=false->(U.jc (U.jd q92_0 fun(C:ShD×ShD×Unit)=>(U.jo C.1 C.2.1,())) (q92_2 d)).length<4611686018427387904->(∃(x:Nat),((0=(x:Int)/\True)/\d.1.2.2.2.2.2.2.2.2.2.1=(U.kk (q92_1 d) (U.jc (U.jd q92_0 fun(D:ShD×ShD×Unit)=>(U.jo D.1 D.2.1,())) (q92_2 d)) x).1/\d.1.2.2.2.2.2.2.2.2.2.2.1=(U.kk (q92_1 d) (U.jc (U.jd q92_0 fun(E:ShD×ShD×Unit)=>(U.jo E.1 E.2.1,())) (q92_2 d)) x).2/\True)/\x<=(U.jc (U.jd q92_0 fun(F:ShD×ShD×Unit)=>(U.jo F.1 F.2.1,())) (q92_2 d)).length/\U.vR (q92_1 d) (U.jc (U.jd q92_0 fun(G:ShD×ShD×Unit)=>(U.jo G.1 G.2.1,())) (q92_2 d)) x (U.kk (q92_1 d) (U.jc (U.jd q92_0 fun(H:ShD×ShD×Unit)=>(U.jo H.1 H.2.1,())) (q92_2 d)) x))/\∀(a:Nat),a<=(U.jc (U.jd q92_0 fun(I:ShD×ShD×Unit)=>(U.jo I.1 I.2.1,())) (q92_2 d)).length/\U.vR (q92_1 d) (U.jc (U.jd q92_0 fun(J:ShD×ShD×Unit)=>(U.jo J.1 J.2.1,())) (q92_2 d)) a (U.kk (q92_1 d) (U.jc (U.jd q92_0 fun(K:ShD×ShD×Unit)=>(U.jo K.1 K.2.1,())) (q92_2 d)) a)->(decide ((a:Int)<(↑(U.jc (U.jd q92_0 fun(L:ShD×ShD×Unit)=>(U.jo L.1 L.2.1,())) (q92_2 d)).length:Int))=true->0<=(a:Int)/\(a:Int)<(↑(U.jc (U.jd q92_0 fun(M:ShD×ShD×Unit)=>(U.jo M.1 M.2.1,())) (q92_2 d)).length:Int)/\((!decide (kx q92_5 (zl q92_4 (nth (U.jc (U.jd q92_0 fun(N:ShD×ShD×Unit)=>(U.jo N.1 N.2.1,())) (q92_2 d)) (a:Int).toNat).2.2.2 (U.zn (U.jc (U.jd q92_0 fun(O:ShD×ShD×Unit)=>(U.jo O.1 O.2.1,())) (q92_2 d)) x))=nth (U.jc (U.jd q92_0 fun(P:ShD×ShD×Unit)=>(U.jo P.1 P.2.1,())) (q92_2 d)) (a:Int).toNat)||decide ((nth (U.jc (U.jd q92_0 fun(Q:ShD×ShD×Unit)=>(U.jo Q.1 Q.2.1,())) (q92_2 d)) (a:Int).toNat).2.2.1≠1))=true->jA ((a:Int)+1)/\∃(b:Nat),(((a:Int)+1=(b:Int)/\True)/\(U.kk (q92_1 d) (U.jc (U.jd q92_0 fun(R:ShD×ShD×Unit)=>(U.jo R.1 R.2.1,())) (q92_2 d)) a).2=(U.kk (q92_1 d) (U.jc (U.jd q92_0 fun(S:ShD×ShD×Unit)=>(U.jo S.1 S.2.1,())) (q92_2 d)) b).2/\(U.kk (q92_1 d) (U.jc (U.jd q92_0 fun(T:ShD×ShD×Unit)=>(U.jo T.1 T.2.1,())) (q92_2 d)) a).1=(U.kk (q92_1 d) (U.jc (U.jd q92_0 fun(V:ShD×ShD×Unit)=>(U.jo V.1 V.2.1,())) (q92_2 d)) b).1/\True)/\(b<=(U.jc (U.jd q92_0 fun(W:ShD×ShD×Unit)=>(U.jo W.1 W.2.1,())) (q92_2 d)).length/\U.vR (q92_1 d) (U.jc (U.jd q92_0 fun(X:ShD×ShD×Unit)=>(U.jo X.1 X.2.1,())) (q92_2 d)) b (U.kk (q92_1 d) (U.jc (U.jd q92_0 fun(Y:ShD×ShD×Unit)=>(U.jo Y.1 Y.2.1,())) (q92_2 d)) b))/\(U.jc (U.jd q92_0 fun(Z:ShD×ShD×Unit)=>(U.jo Z.1 Z.2.1,())) (q92_2 d)).length-b<(U.jc (U.jd q92_0 fun(z38:ShD×ShD×Unit)=>(U.jo z38.1 z38.2.1,())) (q92_2 d)).length-a)/\((!decide (kx q92_5 (zl q92_4 (nth (U.jc (U.jd q92_0 fun(z39:ShD×ShD×Unit)=>(U.jo z39.1 z39.2.1,())) (q92_2 d)) (a:Int).toNat).2.2.2 (U.zn (U.jc (U.jd q92_0 fun(z40:ShD×ShD×Unit)=>(U.jo z40.1 z40.2.1,())) (q92_2 d)) x))=nth (U.jc (U.jd q92_0 fun(z41:ShD×ShD×Unit)=>(U.jo z41.1 z41.2.1,())) (q92_2 d)) (a:Int).toNat)||decide ((nth (U.jc (U.jd q92_0 fun(z42:ShD×ShD×Unit)=>(U.jo z42.1 z42.2.1,())) (q92_2 d)) (a:Int).toNat).2.2.1≠1))=false->(0:Int)<=(nth (U.jc (U.jd q92_0 fun(z43:ShD×ShD×Unit)=>(U.jo z43.1 z43.2.1,())) (q92_2 d)) (a:Int).toNat).2.2.2.2.1/\(nth (U.jc (U.jd q92_0 fun(z44:ShD×ShD×Unit)=>(U.jo z44.1 z44.2.1,())) (q92_2 d)) (a:Int).toNat).2.2.2.2.1<(↑(U.kk (q92_1 d) (U.jc (U.jd q92_0 fun(z45:ShD×ShD×Unit)=>(U.jo z45.1 z45.2.1,())) (q92_2 d)) a).1.length:Int)/\(0:Int)<=(nth (U.jc (U.jd q92_0 fun(z46:ShD×ShD×Unit)=>(U.jo z46.1 z46.2.1,())) (q92_2 d)) (a:Int).toNat).2.2.2.2.1/\(nth (U.jc (U.jd q92_0 fun(z47:ShD×ShD×Unit)=>(U.jo z47.1 z47.2.1,())) (q92_2 d)) (a:Int).toNat).2.2.2.2.1<(↑(U.kk (q92_1 d) (U.jc (U.jd q92_0 fun(z48:ShD×ShD×Unit)=>(U.jo z48.1 z48.2.1,())) (q92_2 d)) a).1.length:Int)/\(0:Int)<=(nth (U.jc (U.jd q92_0 fun(z49:ShD×ShD×Unit)=>(U.jo z49.1 z49.2.1,())) (q92_2 d)) (a:Int).toNat).2.2.2.2.1/\(nth (U.jc (U.jd q92_0 fun(z50:ShD×ShD×Unit)=>(U.jo z50.1 z50.2.1,())) (q92_2 d)) (a:Int).toNat).2.2.2.2.1<(↑(U.kk (q92_1 d) (U.jc (U.jd q92_0 fun(z51:ShD×ShD×Unit)=>(U.jo z51.1 z51.2.1,())) (q92_2 d)) a).1.length:Int)/\(↑(nth (U.kk (q92_1 d) (U.jc (U.jd q92_0 fun(z52:ShD×ShD×Unit)=>(U.jo z52.1 z52.2.1,())) (q92_2 d)) a).1 (nth (U.jc (U.jd q92_0 fun(z53:ShD×ShD×Unit)=>(U.jo z53.1 z53.2.1,())) (q92_2 d)) (a:Int).toNat).2.2.2.2.1.toNat).length:Int)=(↑(nth (U.kk (q92_1 d) (U.jc (U.jd q92_0 fun(z54:ShD×ShD×Unit)=>(U.jo z54.1 z54.2.1,())) (q92_2 d)) a).1 (nth (U.jc (U.jd q92_0 fun(z55:ShD×ShD×Unit)=>(U.jo z55.1 z55.2.1,())) (q92_2 d)) (a:Int).toNat).2.2.2.2.1.toNat).length:Int)/\(↑(nth (U.kk (q92_1 d) (U.jc (U.jd q92_0 fun(z56:ShD×ShD×Unit)=>(U.jo z56.1 z56.2.1,())) (q92_2 d)) a).1 (nth (U.jc (U.jd q92_0 fun(z57:ShD×ShD×Unit)=>(U.jo z57.1 z57.2.1,())) (q92_2 d)) (a:Int).toNat).2.2.2.2.1.toNat).length:Int)=(↑(nth (U.kk (q92_1 d) (U.jc (U.jd q92_0 fun(z58:ShD×ShD×Unit)=>(U.jo z58.1 z58.2.1,())) (q92_2 d)) a).1 (nth (U.jc (U.jd q92_0 fun(z59:ShD×ShD×Unit)=>(U.jo z59.1 z59.2.1,())) (q92_2 d)) (a:Int).toNat).2.2.2.2.1.toNat).length:Int)/\((nth (U.kk (q92_1 d) (U.jc (U.jd q92_0 fun(z60:ShD×ShD×Unit)=>(U.jo z60.1 z60.2.1,())) (q92_2 d)) a).1 (nth (U.jc (U.jd q92_0 fun(z61:ShD×ShD×Unit)=>(U.jo z61.1 z61.2.1,())) (q92_2 d)) (a:Int).toNat).2.2.2.2.1.toNat).length+[(nth (U.jc (U.jd q92_0 fun(z62:ShD×ShD×Unit)=>(U.jo z62.1 z62.2.1,())) (q92_2 d)) (a:Int).toNat).2.2.2.1].length)*8<=140737488355328/\(some ((q92_3 d),d.1.2.2.2.2.2.2.2.2.1,(U.kk (q92_1 d) (U.jc (U.jd q92_0 fun(z63:ShD×ShD×Unit)=>(U.jo z63.1 z63.2.1,())) (q92_2 d)) a).1,(U.kk (q92_1 d) (U.jc (U.jd q92_0 fun(z64:ShD×ShD×Unit)=>(U.jo z64.1 z64.2.1,())) (q92_2 d)) a).2,())).isSome=true/\U.joS (U.ro (some ((q92_3 d),d.1.2.2.2.2.2.2.2.2.1,(U.kk (q92_1 d) (U.jc (U.jd q92_0 fun(z65:ShD×ShD×Unit)=>(U.jo z65.1 z65.2.1,())) (q92_2 d)) a).1,(U.kk (q92_1 d) (U.jc (U.jd q92_0 fun(z66:ShD×ShD×Unit)=>(U.jo z66.1 z66.2.1,())) (q92_2 d)) a).2,())))/\U.jt3 (U.rd (U.ro (some ((q92_3 d),d.1.2.2.2.2.2.2.2.2.1,(U.kk (q92_1 d) (U.jc (U.jd q92_0 fun(z67:ShD×ShD×Unit)=>(U.jo z67.1 z67.2.1,())) (q92_2 d)) a).1,(U.kk (q92_1 d) (U.jc (U.jd q92_0 fun(z68:ShD×ShD×Unit)=>(U.jo z68.1 z68.2.1,())) (q92_2 d)) a).2,())))) (nth (U.jc (U.jd q92_0 fun(z69:ShD×ShD×Unit)=>(U.jo z69.1 z69.2.1,())) (q92_2 d)) (a:Int).toNat).2.2.2.2.1/\U.joT (U.rd (U.ro (some ((q92_3 d),d.1.2.2.2.2.2.2.2.2.1,(U.kk (q92_1 d) (U.jc (U.jd q92_0 fun(z70:ShD×ShD×Unit)=>(U.jo z70.1 z70.2.1,())) (q92_2 d)) a).1,(U.kk (q92_1 d) (U.jc (U.jd q92_0 fun(z71:ShD×ShD×Unit)=>(U.jo z71.1 z71.2.1,())) (q92_2 d)) a).2,())))) (nth (U.kk (q92_1 d) (U.jc (U.jd q92_0 fun(z72:ShD×ShD×Unit)=>(U.jo z72.1 z72.2.1,())) (q92_2 d)) a).1 (nth (U.jc (U.jd q92_0 fun(z73:ShD×ShD×Unit)=>(U.jo z73.1 z73.2.1,())) (q92_2 d)) (a:Int).toNat).2.2.2.2.1.toNat++[(nth (U.jc (U.jd q92_0 fun(z74:ShD×ShD×Unit)=>(U.jo z74.1 z74.2.1,())) (q92_2 d)) (a:Int).toNat).2.2.2.1])/\(U.jaO (U.ro (some ((q92_3 d),d.1.2.2.2.2.2.2.2.2.1,(U.kk (q92_1 d) (U.jc (U.jd q92_0 fun(z75:ShD×ShD×Unit)=>(U.jo z75.1 z75.2.1,())) (q92_2 d)) a).1,(U.kk (q92_1 d) (U.jc (U.jd q92_0 fun(z76:ShD×ShD×Unit)=>(U.jo z76.1 z76.2.1,())) (q92_2 d)) a).2,()))) (nth (U.jc (U.jd q92_0 fun(z77:ShD×ShD×Unit)=>(U.jo z77.1 z77.2.1,())) (q92_2 d)) (a:Int).toNat).2.2.2.2.1 (nth (U.kk (q92_1 d) (U.jc (U.jd q92_0 fun(z78:ShD×ShD×Unit)=>(U.jo z78.1 z78.2.1,())) (q92_2 d)) a).1 (nth (U.jc (U.jd q92_0 fun(z79:ShD×ShD×Unit)=>(U.jo z79.1 z79.2.1,())) (q92_2 d)) (a:Int).toNat).2.2.2.2.1.toNat++[(nth (U.jc (U.jd q92_0 fun(z80:ShD×ShD×Unit)=>(U.jo z80.1 z80.2.1,())) (q92_2 d)) (a:Int).toNat).2.2.2.1])=true->(0:Int)<=(nth (U.jc (U.jd q92_0 fun(z81:ShD×ShD×Unit)=>(U.jo z81.1 z81.2.1,())) (q92_2 d)) (a:Int).toNat).2.2.2.2.1/\(nth (U.jc (U.jd q92_0 fun(z82:ShD×ShD×Unit)=>(U.jo z82.1 z82.2.1,())) (q92_2 d)) (a:Int).toNat).2.2.2.2.1<(↑(U.kk (q92_1 d) (U.jc (U.jd q92_0 fun(z83:ShD×ShD×Unit)=>(U.jo z83.1 z83.2.1,())) (q92_2 d)) a).1.length:Int)/\jA ((a:Int)+1)/\∃(b:Nat),(((a:Int)+1=(b:Int)/\True)/\(U.kk (q92_1 d) (U.jc (U.jd q92_0 fun(z84:ShD×ShD×Unit)=>(U.jo z84.1 z84.2.1,())) (q92_2 d)) a).2=(U.kk (q92_1 d) (U.jc (U.jd q92_0 fun(z85:ShD×ShD×Unit)=>(U.jo z85.1 z85.2.1,())) (q92_2 d)) b).2/\(U.kk (q92_1 d) (U.jc (U.jd q92_0 fun(z86:ShD×ShD×Unit)=>(U.jo z86.1 z86.2.1,())) (q92_2 d)) a).1.set (nth (U.jc (U.jd q92_0 fun(z87:ShD×ShD×Unit)=>(U.jo z87.1 z87.2.1,())) (q92_2 d)) (a:Int).toNat).2.2.2.2.1.toNat (nth (U.kk (q92_1 d) (U.jc (U.jd q92_0 fun(z88:ShD×ShD×Unit)=>(U.jo z88.1 z88.2.1,())) (q92_2 d)) a).1 (nth (U.jc (U.jd q92_0 fun(z89:ShD×ShD×Unit)=>(U.jo z89.1 z89.2.1,())) (q92_2 d)) (a:Int).toNat).2.2.2.2.1.toNat++[(nth (U.jc (U.jd q92_0 fun(z90:ShD×ShD×Unit)=>(U.jo z90.1 z90.2.1,())) (q92_2 d)) (a:Int).toNat).2.2.2.1])=(U.kk (q92_1 d) (U.jc (U.jd q92_0 fun(z91:ShD×ShD×Unit)=>(U.jo z91.1 z91.2.1,())) (q92_2 d)) b).1/\True)/\(b<=(U.jc (U.jd q92_0 fun(z92:ShD×ShD×Unit)=>(U.jo z92.1 z92.2.1,())) (q92_2 d)).length/\U.vR (q92_1 d) (U.jc (U.jd q92_0 fun(z93:ShD×ShD×Unit)=>(U.jo z93.1 z93.2.1,())) (q92_2 d)) b (U.kk (q92_1 d) (U.jc (U.jd q92_0 fun(z94:ShD×ShD×Unit)=>(U.jo z94.1 z94.2.1,())) (q92_2 d)) b))/\(U.jc (U.jd q92_0 fun(z95:ShD×ShD×Unit)=>(U.jo z95.1 z95.2.1,())) (q92_2 d)).length-b<(U.jc (U.jd q92_0 fun(z96:ShD×ShD×Unit)=>(U.jo z96.1 z96.2.1,())) (q92_2 d)).length-a)/\(U.jaO (U.ro (some ((q92_3 d),d.1.2.2.2.2.2.2.2.2.1,(U.kk (q92_1 d) (U.jc (U.jd q92_0 fun(z97:ShD×ShD×Unit)=>(U.jo z97.1 z97.2.1,())) (q92_2 d)) a).1,(U.kk (q92_1 d) (U.jc (U.jd q92_0 fun(z98:ShD×ShD×Unit)=>(U.jo z98.1 z98.2.1,())) (q92_2 d)) a).2,()))) (nth (U.jc (U.jd q92_0 fun(z99:ShD×ShD×Unit)=>(U.jo z99.1 z99.2.1,())) (q92_2 d)) (a:Int).toNat).2.2.2.2.1 (nth (U.kk (q92_1 d) (U.jc (U.jd q92_0 fun(c:ShD×ShD×Unit)=>(U.jo c.1 c.2.1,())) (q92_2 d)) a).1 (nth (U.jc (U.jd q92_0 fun(e:ShD×ShD×Unit)=>(U.jo e.1 e.2.1,())) (q92_2 d)) (a:Int).toNat).2.2.2.2.1.toNat++[(nth (U.jc (U.jd q92_0 fun(f:ShD×ShD×Unit)=>(U.jo f.1 f.2.1,())) (q92_2 d)) (a:Int).toNat).2.2.2.1])=false->((U.kk (q92_1 d) (U.jc (U.jd q92_0 fun(g:ShD×ShD×Unit)=>(U.jo g.1 g.2.1,())) (q92_2 d)) a).2.length+[(nth (U.jc (U.jd q92_0 fun(h:ShD×ShD×Unit)=>(U.jo h.1 h.2.1,())) (q92_2 d)) (a:Int).toNat).1].length)*8<=140737488355328/\jA ((a:Int)+1)/\∃(b:Nat),(((a:Int)+1=(b:Int)/\True)/\(U.kk (q92_1 d) (U.jc (U.jd q92_0 fun(i:ShD×ShD×Unit)=>(U.jo i.1 i.2.1,())) (q92_2 d)) a).1=(U.kk (q92_1 d) (U.jc (U.jd q92_0 fun(j:ShD×ShD×Unit)=>(U.jo j.1 j.2.1,())) (q92_2 d)) b).1/\(d.1.1=d.1.1/\d.1.2.1=d.1.2.1/\d.1.2.2.1=d.1.2.2.1/\d.1.2.2.2.1=d.1.2.2.2.1/\d.1.2.2.2.2.1=d.1.2.2.2.2.1/\d.1.2.2.2.2.2.1=d.1.2.2.2.2.2.1/\d.1.2.2.2.2.2.2.1=d.1.2.2.2.2.2.2.1/\d.1.2.2.2.2.2.2.2.1=d.1.2.2.2.2.2.2.2.1/\True/\True/\True/\True)/\(U.kk (q92_1 d) (U.jc (U.jd q92_0 fun(k:ShD×ShD×Unit)=>(U.jo k.1 k.2.1,())) (q92_2 d)) a).2++[(nth (U.jc (U.jd q92_0 fun(l:ShD×ShD×Unit)=>(U.jo l.1 l.2.1,())) (q92_2 d)) (a:Int).toNat).1]=(U.kk (q92_1 d) (U.jc (U.jd q92_0 fun(m:ShD×ShD×Unit)=>(U.jo m.1 m.2.1,())) (q92_2 d)) b).2/\True)/\(b<=(U.jc (U.jd q92_0 fun(n:ShD×ShD×Unit)=>(U.jo n.1 n.2.1,())) (q92_2 d)).length/\U.vR (q92_1 d) (U.jc (U.jd q92_0 fun(o:ShD×ShD×Unit)=>(U.jo o.1 o.2.1,())) (q92_2 d)) b (U.kk (q92_1 d) (U.jc (U.jd q92_0 fun(p:ShD×ShD×Unit)=>(U.jo p.1 p.2.1,())) (q92_2 d)) b))/\(U.jc (U.jd q92_0 fun(q:ShD×ShD×Unit)=>(U.jo q.1 q.2.1,())) (q92_2 d)).length-b<(U.jc (U.jd q92_0 fun(r:ShD×ShD×Unit)=>(U.jo r.1 r.2.1,())) (q92_2 d)).length-a)))/\(decide ((a:Int)<(↑(U.jc (U.jd q92_0 fun(s:ShD×ShD×Unit)=>(U.jo s.1 s.2.1,())) (q92_2 d)).length:Int))=false->()=()/\((d.1.1,d.1.2.1,d.1.2.2.1,d.1.2.2.2.1,d.1.2.2.2.2.1,d.1.2.2.2.2.2.1,d.1.2.2.2.2.2.2.1,d.1.2.2.2.2.2.2.2.1,d.1.2.2.2.2.2.2.2.2.1,(U.kk (q92_1 d) (U.jc (U.jd q92_0 fun(t:ShD×ShD×Unit)=>(U.jo t.1 t.2.1,())) (q92_2 d)) a).1,U.jeq (U.kk (q92_1 d) (U.jc (U.jd q92_0 fun(u:ShD×ShD×Unit)=>(U.jo u.1 u.2.1,())) (q92_2 d)) a).2,()),())=(U.jhP d.1 (U.qH (U.ko d.1)),()))))
end Go.X
