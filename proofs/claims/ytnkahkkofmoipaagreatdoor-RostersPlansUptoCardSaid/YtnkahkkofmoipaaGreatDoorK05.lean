/-
  Part 5 of the road: a checked reading of bodies, and what the functions on it do (T L BT BS NL DF RC FX A1 P1 A2 P2 A4 P4 A5 P5 A3 P6 CM MP O1 B1 P7 IS B2 P8 B3 P9 DI B4).
-/
import Derived.Test.YtnkahkkofmoipaaGreatDoorK04
import Derived.Test.YtnkahkkofmoipaaGreatDoorProg
import Derived.KernelRfl
import Derived.Shelf.SlSortCmp.WholeK
import Derived.Shelf.Sort.Plain
namespace Go.X
open Go.Proofs
abbrev bT:=true
abbrev bF:=false
abbrev vO:Value:=.int .i64 0
abbrev qy0:Ty:=.st [.int,.int]
abbrev qy1:Ty:=.ptr (.uint .u8)
abbrev qy2:Ty:=.ptr (.uint .u64)
abbrev qy3:Ty:=.slice (.slice .int)
abbrev qy4:Ty:=.st [.int,.int,.bool]
abbrev qy5:Ty:=.slice qy0
abbrev qy6:Ty:=.slice qy4
abbrev qy7:Ty:=.st [.int,.int,.bool,.uint .u8]
abbrev qy8:Ty:=.slice qy5
abbrev qy9:Ty:=.st [.int,.int,.int,.int,.int]
abbrev qy10:Ty:=.st [.int,.int,.int,.int,.int,.int]
abbrev qy11:Ty:=.slice qy9
abbrev qy12:Ty:=.slice qy10
abbrev qy13:Ty:=.slice qy11
abbrev qy14:Ty:=.st [.slice .int,.int,.int,.slice .int,.bool,.int]
abbrev qy15:Ty:=.map qy0 qy9
abbrev qy16:Ty:=.st [qy10,.int,.int,.int]
abbrev qy17:Ty:=.slice qy14
abbrev qy18:Ty:=.slice qy16
abbrev qy19:Ty:=.st [.int,qy17,qy6]
abbrev qy20:Ty:=.st [qy19,qy10,qy4]
abbrev qy21:Ty:=.ptr qy20
abbrev qy22:Ty:=.st [qy19,qy8,qy18,.int,.int,qy11]
abbrev qy23:Ty:=.slice qy22
abbrev qy24:Ty:=.st [qy22,.slice .int,qy3,.slice .int]
abbrev qy25:Ty:=.ptr qy24
abbrev qy26:Ty:=.st [qy25,qy3,.slice .int,.slice .int,.int,.bool]
abbrev qy27:Ty:=.ptr qy26
def rr (i:Nat)(t:Ty)(n:Nat)(a:Bool)(f:List (Nat×Nat))(s:Bool)(e b:Nat)(z:List Value)(c m:Bool)(k:Nat)(q:Bool):TI:=⟨i,t,n,a,f,s,e,b,z,c,m,k,q,false,false,false⟩
def rf (i:Nat):TI:=⟨i,.unit,1,false,[],false,0,8,[.nilFunc],false,false,0,false,false,false,true⟩
def rq (i:Nat):TI:=⟨i,.unit,1,false,[],false,0,8,[.pointer none],false,false,0,false,false,true,false⟩
def ti:List TI:=[
 rf 1,
 rr 2 .int 1 bF [] bF 0 8 [vO] bF bF 0 bT,
 rr 3 .int 1 bF [] bF 0 8 [vO] bF bF 0 bT,
 rr 4 .bool 1 bF [] bF 0 1 [.bool false] bT bF 0 bF,
 rr 5 (.uint .u8) 1 bF [] bF 0 1 [.int .u8 0] bF bF 0 bF,
 rr 6 (.uint .u8) 1 bF [] bF 0 1 [.int .u8 0] bF bF 0 bF,
 rr 7 qy7 4 bT [(0,2),(1,3),(2,4),(3,6)] bF 0 24 [vO,vO,.bool false,.int .u8 0] bT bF 0 bT,
 rr 8 qy7 4 bT [(0,2),(1,3),(2,4),(3,6)] bF 0 24 [vO,vO,.bool false,.int .u8 0] bT bF 0 bT,
 rr 12 (.uint .u64) 1 bF [] bF 0 8 [.int .u64 0] bF bF 0 bF,
 rq 15,
 rq 16,
 rq 17,
 rr 18 .unit 1 bT [(0,17)] bF 0 8 [.pointer none] bF bF 0 bF,
 rr 19 .unit 1 bT [(0,17)] bF 0 8 [.pointer none] bF bF 0 bF,
 rr 21 (.uint .i32) 1 bF [] bF 0 4 [.int .i32 0] bF bF 0 bF,
 rr 22 qy17 1 bF [] bT 102 24 [.slice none 0 0] bF bF 0 bF,
 rr 23 qy6 1 bF [] bT 104 24 [.slice none 0 0] bF bF 0 bF,
 rr 24 qy19 3 bT [(0,3),(1,22),(2,23)] bF 0 56 [vO,.slice none 0 0,.slice none 0 0] bF bF 0 bF,
 rr 25 qy19 3 bT [(0,3),(1,22),(2,23)] bF 0 56 [vO,.slice none 0 0,.slice none 0 0] bF bF 0 bF,
 rr 26 qy8 1 bF [] bT 75 24 [.slice none 0 0] bF bF 0 bF,
 rr 27 qy18 1 bF [] bT 62 24 [.slice none 0 0] bF bF 0 bF,
 rr 28 qy11 1 bF [] bT 54 24 [.slice none 0 0] bF bF 0 bF,
 rr 29 qy22 8 bT [(0,25),(3,26),(4,27),(5,3),(6,3),(7,28)] bF 0 144 [vO,.slice none 0 0,.slice none 0 0,.slice none 0 0,.slice none 0 0,vO,vO,.slice none 0 0] bF bF 0 bF,
 rr 30 qy22 8 bT [(0,25),(3,26),(4,27),(5,3),(6,3),(7,28)] bF 0 144 [vO,.slice none 0 0,.slice none 0 0,.slice none 0 0,.slice none 0 0,vO,vO,.slice none 0 0] bF bF 0 bF,
 rf 31,
 rf 32,
 rr 33 (.slice .int) 1 bF [] bT 3 24 [.slice none 0 0] bF bF 0 bF,
 rr 34 .int 1 bF [] bF 0 8 [vO] bF bF 0 bT,
 rf 36,
 rf 37,
 rf 38,
 rf 39,
 rf 41,
 rr 42 qy0 2 bT [(0,3),(1,3)] bF 0 16 [vO,vO] bT bF 0 bT,
 rr 43 qy0 2 bT [(0,3),(1,3)] bF 0 16 [vO,vO] bT bF 0 bT,
 rf 44,
 rf 45,
 rf 47,
 rf 48,
 rf 50,
 rf 51,
 rf 52,
 rr 53 qy9 5 bT [(0,3),(1,3),(2,3),(3,3),(4,3)] bF 0 40 [vO,vO,vO,vO,vO] bT bF 0 bT,
 rr 54 qy9 5 bT [(0,3),(1,3),(2,3),(3,3),(4,3)] bF 0 40 [vO,vO,vO,vO,vO] bT bF 0 bT,
 rf 55,
 rf 56,
 rf 57,
 rf 58,
 rr 59 qy10 6 bT [(0,3),(1,3),(2,3),(3,3),(4,3),(5,3)] bF 0 48 [vO,vO,vO,vO,vO,vO] bT bF 0 bT,
 rr 60 qy10 6 bT [(0,3),(1,3),(2,3),(3,3),(4,3),(5,3)] bF 0 48 [vO,vO,vO,vO,vO,vO] bT bF 0 bT,
 rr 61 qy16 9 bT [(0,60),(6,3),(7,3),(8,3)] bF 0 72 [vO,vO,vO,vO,vO,vO,vO,vO,vO] bT bF 0 bT,
 rr 62 qy16 9 bT [(0,60),(6,3),(7,3),(8,3)] bF 0 72 [vO,vO,vO,vO,vO,vO,vO,vO,vO] bT bF 0 bT,
 rf 63,
 {rr 64 qy25 1 bF [] bF 0 8 [.pointer none] bF bF 0 bF with pt:=true},
 rf 66,
 {rr 67 qy27 1 bF [] bF 0 8 [.pointer none] bF bF 0 bF with pt:=true},
 rr 68 qy3 1 bF [] bT 33 24 [.slice none 0 0] bF bF 0 bF,
 rr 69 qy26 6 bT [(0,64),(1,68),(2,33),(3,33),(4,3),(5,4)] bF 0 96 [.pointer none,.slice none 0 0,.slice none 0 0,.slice none 0 0,vO,.bool false] bF bF 0 bF,
 rr 70 qy26 6 bT [(0,64),(1,68),(2,33),(3,33),(4,3),(5,4)] bF 0 96 [.pointer none,.slice none 0 0,.slice none 0 0,.slice none 0 0,vO,.bool false] bF bF 0 bF,
 rr 71 qy24 11 bT [(0,30),(8,33),(9,68),(10,33)] bF 0 216 [vO,.slice none 0 0,.slice none 0 0,.slice none 0 0,.slice none 0 0,vO,vO,.slice none 0 0,.slice none 0 0,.slice none 0 0,.slice none 0 0] bF bF 0 bF,
 rr 72 qy24 11 bT [(0,30),(8,33),(9,68),(10,33)] bF 0 216 [vO,.slice none 0 0,.slice none 0 0,.slice none 0 0,.slice none 0 0,vO,vO,.slice none 0 0,.slice none 0 0,.slice none 0 0,.slice none 0 0] bF bF 0 bF,
 rf 73,
 rf 74,
 rr 75 qy5 1 bF [] bT 92 24 [.slice none 0 0] bF bF 0 bF,
 rf 76,
 rf 77,
 rf 78,
 rf 79,
 rf 80,
 rf 81,
 rf 82,
 rf 84,
 rf 85,
 rf 86,
 rf 87,
 rf 88,
 rf 89,
 rf 90,
 rr 91 qy0 2 bT [(0,3),(1,3)] bF 0 16 [vO,vO] bT bF 0 bT,
 rr 92 qy0 2 bT [(0,3),(1,3)] bF 0 16 [vO,vO] bT bF 0 bT,
 rf 93,
 rf 94,
 rr 95 (.uint .u64) 1 bF [] bF 0 8 [.int .u64 0] bF bF 0 bF,
 rf 96,
 rr 97 qy23 1 bF [] bT 30 24 [.slice none 0 0] bF bF 0 bF,
 rf 98,
 rf 99,
 rf 100,
 rr 101 qy14 6 bT [(0,33),(1,3),(2,3),(3,33),(4,4),(5,3)] bF 0 80 [.slice none 0 0,vO,vO,.slice none 0 0,.bool false,vO] bF bF 0 bF,
 rr 102 qy14 6 bT [(0,33),(1,3),(2,3),(3,33),(4,4),(5,3)] bF 0 80 [.slice none 0 0,vO,vO,.slice none 0 0,.bool false,vO] bF bF 0 bF,
 rr 103 qy4 3 bT [(0,3),(1,3),(2,4)] bF 0 24 [vO,vO,.bool false] bT bF 0 bT,
 rr 104 qy4 3 bT [(0,3),(1,3),(2,4)] bF 0 24 [vO,vO,.bool false] bT bF 0 bT,
 rf 105,
 rf 106,
 rr 107 qy12 1 bF [] bT 60 24 [.slice none 0 0] bF bF 0 bF,
 rf 109,
 rf 110,
 rf 111,
 rf 113,
 rf 114,
 rf 115,
 rf 116,
 rf 117,
 rf 118,
 rf 119,
 rf 120,
 rf 121,
 rf 122,
 rf 123,
 rf 124,
 rr 125 (.map .int .int) 1 bF [] bF 3 8 [.map none] bF bT 3 bF,
 rf 126,
 rf 127,
 rf 128,
 rf 129,
 rf 130,
 rf 131,
 rf 132,
 rf 133,
 rf 134,
 rf 135,
 rf 136,
 rr 137 qy13 1 bF [] bT 28 24 [.slice none 0 0] bF bF 0 bF,
 rf 138,
 rf 139,
 rf 140,
 rf 141,
 rf 142,
 {rr 143 qy21 1 bF [] bF 0 8 [.pointer none] bF bF 0 bF with pt:=true},
 rf 145,
 rr 146 (.uint .u64) 1 bF [] bF 0 8 [.int .u64 0] bF bF 0 bF,
 rf 147,
 rr 148 qy15 1 bF [] bF 54 8 [.map none] bF bT 150 bF,
 rr 149 qy0 2 bT [(0,3),(1,3)] bF 0 16 [vO,vO] bT bF 0 bT,
 rr 150 qy0 2 bT [(0,3),(1,3)] bF 0 16 [vO,vO] bT bF 0 bT,
 rf 151,
 rf 152,
 rf 153,
 rf 154,
 rf 155,
 rf 156,
 rf 157,
 rf 158,
 rf 159,
 rf 160,
 rf 161,
 rf 162,
 rf 163,
 rf 164,
 rf 165,
 rf 166,
 rr 167 qy20 12 bT [(0,25),(3,60),(9,104)] bF 0 128 [vO,.slice none 0 0,.slice none 0 0,vO,vO,vO,vO,vO,vO,vO,vO,.bool false] bF bF 0 bF,
 rr 168 qy20 12 bT [(0,25),(3,60),(9,104)] bF 0 128 [vO,.slice none 0 0,.slice none 0 0,vO,vO,vO,vO,vO,vO,vO,vO,.bool false] bF bF 0 bF,
 rf 169,
 rf 170,
 rf 171,
 rf 172,
 rf 173,
 rf 174,
 rf 175,
 rf 176,
 rf 177,
 rf 178,
 rf 179,
 rr 180 .int 1 bF [] bF 0 8 [vO] bF bF 0 bT,
 rf 182,
 rf 183,
 rf 184,
 rf 186,
 rf 187,
 rr 188 (.uint .u32) 1 bF [] bF 0 4 [.int .u32 0] bF bF 0 bF,
 rf 189,
 rr 190 (.uint .u64) 1 bF [] bF 0 8 [.int .u64 0] bF bF 0 bF,
 rf 191,
 rf 192,
 rf 193,
 rf 194,
 rf 195,
 rf 196,
 rf 197,
 rf 198,
 rf 199,
 rf 200,
 rf 201,
 rf 202,
 rr 203 (.uint .u64) 1 bF [] bF 0 8 [.int .u64 0] bF bF 0 bF,
 rf 204,
 rf 205,
 rf 206,
 {rr 207 (.ptr .int) 1 bF [] bF 0 8 [.pointer none] bF bF 0 bF with pt:=true},
 rf 208,
 rf 209,
 rf 210,
 rf 211,
 rf 212,
 rf 213,
 rf 214,
 rf 215,
 rf 217,
 {rr 218 qy2 1 bF [] bF 0 8 [.pointer none] bF bF 0 bF with pt:=true},
 rf 220,
 rf 221,
 rf 222,
 rf 223,
 rf 225,
 rf 227,
 rf 228,
 rf 229,
 rr 233 .unit 0 bT [(0,232)] bF 0 0 [] bF bF 0 bF,
 rr 234 .unit 0 bT [(0,232)] bF 0 0 [] bF bF 0 bF,
 rr 235 (.uint .u8) 1 bF [] bF 0 1 [.int .u8 0] bF bF 0 bF,
 rr 236 (.uint .u8) 1 bF [] bF 0 1 [.int .u8 0] bF bF 0 bF,
 rf 237,
 {rr 238 qy1 1 bF [] bF 0 8 [.pointer none] bF bF 0 bF with pt:=true},
 rr 239 (.uint .i32) 1 bF [] bF 0 4 [.int .i32 0] bF bF 0 bF,
 rr 240 (.uint .i32) 1 bF [] bF 0 4 [.int .i32 0] bF bF 0 bF,
 rr 241 .unit 11 bT [(0,12),(1,12),(2,188),(3,235),(4,5),(5,5),(6,236),(7,237),(8,238),(9,239),(10,240)] bF 0 48 [.int .u64 0,.int .u64 0,.int .u32 0,.int .u8 0,.int .u8 0,.int .u8 0,.int .u8 0,.nilFunc,.pointer none,.int .i32 0,.int .i32 0] bF bF 0 bF,
 rr 242 .unit 11 bT [(0,12),(1,12),(2,188),(3,235),(4,5),(5,5),(6,236),(7,237),(8,238),(9,239),(10,240)] bF 0 48 [.int .u64 0,.int .u64 0,.int .u32 0,.int .u8 0,.int .u8 0,.int .u8 0,.int .u8 0,.nilFunc,.pointer none,.int .i32 0,.int .i32 0] bF bF 0 bF,
 rf 243,
 rf 245]
def strs:List Nat:=[9,10,11]
noncomputable abbrev PR:Program:=Tryz.prog
theorem jCc:ti.all (jEJ PR)=true:=by kernel_rfl
def jCS (P:Program) (k:Nat):Bool:=match P.underlying k with|some .string=>true|_=>false
theorem jye {P:Program} {l:List Nat} (a:l.all (jCS P)=true) (T:Nat) (h:vQ l T=true):P.underlying T=some .string:=by
 have:=jFW.1 a T ((zZ _ _).1 h);unfold jCS at this
 split at this
 .assumption
 .cases this
theorem jCg:strs.all (jCS PR)=true:=by kernel_rfl
theorem jwF:∀T,vQ strs T=true->PR.underlying T=some .string:=jye jCg
theorem mixed:PR.follows .mixedOrders=true:=by kernel_rfl
def jE7 (n:Nat) (fs:List (Nat×jQ)):Ctx:=⟨n,ti,fs,fun _ _ _ _=>none,strs,false⟩
def ctx (n:Nat) (fs:List (Nat×jQ)) (os:List (Nat×zK)):Ctx:=⟨n,ti,fs,jE1 (jE7 n fs) os,strs,false⟩
def jek:List (Nat×jQ)->Prop
 |[]=>True
 |p::r=>(p.2.own=false->zc PR p.1 p.2)/\jek r
def yy:List (Nat×zK)->Prop
 |[]=>True
 |p::r=>qa PR p.1 p.2/\yy r
theorem jcp:∀{l:List (Nat×jQ)},jek l->∀f s,jw l f=some s->s.own=false->zc PR f s
 |[],_,f,s,h,_=>by simp[jw] at h
 | (j,x)::r,hk,f,s,h,ho=>by
  simp only[jw] at h
  cases a:Nat.beq j f with
  |true=>rw[a] at h;simp at h;subst h;have:=jFz a;subst this;exact hk.1 ho
  |false=>rw[a] at h;exact jcp hk.2 f s h ho
theorem jdP:∀{l:List (Nat×zK)},yy l->∀f s,jw l f=some s->qa PR f s
 |[],_,f,s,h=>by simp[jw] at h
 | (j,x)::r,hk,f,s,h=>by
  simp only[jw] at h
  cases a:Nat.beq j f with
  |true=>rw[a] at h;simp at h;subst h;have:=jFz a;subst this;exact hk.1
  |false=>rw[a] at h;exact jdP hk.2 f s h
theorem jy5 {n:Nat} {fs:List (Nat×jQ)} (h:jek fs):(jE7 n fs).ok PR:=
 ⟨jwz jCc,jcp h,jwF,rfl,fun _ _ _ _ _ a=>by cases a⟩
theorem jjY {n:Nat} {fs:List (Nat×jQ)} {os:List (Nat×zK)} (h:jek fs) (b:yy os):(ctx n fs os).ok PR:=
 ⟨jwz jCc,jcp h,jwF,rfl,fun f dst σ svs out a=>ju9 (jy5 h) (jdP b) a⟩
def gd (t:Ty) (σ:St) (s:Nat):t.Data:=match σ.get s with
 | .dat a d=>(match zf a t d with|some x=>x|none=>t.dflt)
 |_=>t.dflt
def gr (t:Ty) (σ:St) (o:Nat):List t.Data:=match σ.obj o with
 |some (.row _ a _ _ l)=>(match zf (.slice a) (.slice t) l with|some l'=>l'|none=>[])
 |_=>[]
def gfn (ps rs:List Ty) (σ:St) (s:Nat):(Ty.st ps).Data->(Ty.st rs).Data:=match σ.get s with
 | .fn a b _ F=>if h:a=ps/\b=rs then h.1▸h.2▸F else fun _=>(Ty.st rs).dflt
 |_=>fun _=>(Ty.st rs).dflt
def zu (fn:Func):Code:=match fn.body with|some c=>c|none=> .skip
theorem jFm {f:Nat} {fn:Func} {n:Nat} {fs:List (Nat×jQ)} {os:List (Nat×zK)} {s:jQ} {A:Ann} (h:jEl (ctx n fs os) A fn (zu fn) s) (d:PR.funcs[f]? =some fn) (c:fn.body=some (zu fn)) (a:(fn.name== "runtime.NumGoroutine")=false)
 (e:fn.ntmps=n) (b:Nat.ble s.ps.length n=true) (hk:jek fs) (g:yy os):zc PR f s:=
 jE5 (jjY hk g) mixed d c a e (jFQ b) A h
theorem jAq {f:Nat} {fn:Func} {n:Nat} {fs:List (Nat×jQ)} {os:List (Nat×zK)} {s:zK} {A:Ann} (h:jrP (ctx n fs os) A fn (zu fn) s) (e:PR.funcs[f]? =some fn) (d:fn.body=some (zu fn)) (a:(fn.name== "runtime.NumGoroutine")=false)
 (g:fn.ntmps=n) (c:Nat.ble s.ps.length n=true) (b:wP (jrQ s.ps 0)=true) (hk:jek fs) (i:yy os):qa PR f s:=
 jD3 (jjY hk i) mixed e d a g (jFQ c) b A h
theorem kcC {f:Nat} {s:jQ} {fs:List (Nat×jQ)} (h:zc PR f s) (hk:jek fs):jek ((f,s)::fs):=⟨fun _=>h,hk⟩
theorem kcN:jek []:=trivial
theorem koC {f:Nat} {s:zK} {fs:List (Nat×zK)} (h:qa PR f s) (hk:yy fs):yy ((f,s)::fs):=⟨h,hk⟩
theorem koN:yy []:=trivial
theorem kK (A:Ann) {f:Nat} {fn:Func} {fs:List (Nat×jQ)} {os:List (Nat×zK)} {s:jQ} {P:Prop} (h:P) (e:PR.funcs[f]? =some fn) (hk:jek fs) (g:yy os) (d:jEl (ctx fn.ntmps fs os) A fn (zu fn) s=P:=by kernel_rfl) (c:fn.body=some (zu fn):=by kernel_rfl) (a:(fn.name== "runtime.NumGoroutine")=false:=by kernel_rfl) (b:Nat.ble s.ps.length fn.ntmps=true:=by kernel_rfl):zc PR f s:=jFm (d.mpr h) e c a rfl b hk g
theorem jR {f:Nat} {fn:Func} {fs:List (Nat×jQ)} {os:List (Nat×zK)} {s:jQ} {P:Prop} (h:P) (e:PR.funcs[f]? =some fn) (hk:jek fs) (g:yy os) (d:jEl (ctx fn.ntmps fs os) (fun _=>none) fn (zu fn) s=P:=by kernel_rfl) (c:fn.body=some (zu fn):=by kernel_rfl) (a:(fn.name== "runtime.NumGoroutine")=false:=by kernel_rfl) (b:Nat.ble s.ps.length fn.ntmps=true:=by kernel_rfl):zc PR f s:=jFm (d.mpr h) e c a rfl b hk g
theorem jjf (A:Ann) {f:Nat} {fn:Func} {fs:List (Nat×jQ)} {os:List (Nat×zK)} {s:zK} {P:Prop} (h:P) (g:PR.funcs[f]? =some fn) (hk:jek fs) (i:yy os) (e:jrP (ctx fn.ntmps fs os) A fn (zu fn) s=P:=by kernel_rfl) (d:fn.body=some (zu fn):=by kernel_rfl) (a:(fn.name== "runtime.NumGoroutine")=false:=by kernel_rfl) (c:Nat.ble s.ps.length fn.ntmps=true:=by kernel_rfl) (b:wP (jrQ s.ps 0)=true:=by kernel_rfl):qa PR f s:=jAq (e.mpr h) g d a rfl c b hk i
theorem jlz {f:Nat} {fn:Func} {fs:List (Nat×jQ)} {os:List (Nat×zK)} {s:zK} {P:Prop} (h:P) (g:PR.funcs[f]? =some fn) (hk:jek fs) (i:yy os) (e:jrP (ctx fn.ntmps fs os) (fun _=>none) fn (zu fn) s=P:=by kernel_rfl) (d:fn.body=some (zu fn):=by kernel_rfl) (a:(fn.name== "runtime.NumGoroutine")=false:=by kernel_rfl) (c:Nat.ble s.ps.length fn.ntmps=true:=by kernel_rfl) (b:wP (jrQ s.ps 0)=true:=by kernel_rfl):qa PR f s:=jAq (e.mpr h) g d a rfl c b hk i
def jqy (n:Nat) (fs:List (Nat×jQ)) (os:List (Nat×zK)) (cs:List (Nat×jel)) (vs:List (Nat×jnP)):Ctx:=⟨n,ti,fs,jEU (jE7 n fs) os cs vs,strs,false⟩
def jzE:List (Nat×jel)->Prop
 |[]=>True
 |p::r=>jqq PR p.1 p.2/\jzE r
def jzD:List (Nat×jnP)->Prop
 |[]=>True
 |p::r=>VOK PR p.1 p.2/\jzD r
theorem jjq:∀{l:List (Nat×jel)},jzE l->∀f s,jw l f=some s->jqq PR f s
 |[],_,f,s,h=>by simp[jw] at h
 | (j,x)::r,hk,f,s,h=>by
  simp only[jw] at h
  cases a:Nat.beq j f with
  |true=>rw[a] at h;simp at h;subst h;have:=jFz a;subst this;exact hk.1
  |false=>rw[a] at h;exact jjq hk.2 f s h
theorem jjp:∀{l:List (Nat×jnP)},jzD l->∀f s,jw l f=some s->VOK PR f s
 |[],_,f,s,h=>by simp[jw] at h
 | (j,x)::r,hk,f,s,h=>by
  simp only[jw] at h
  cases a:Nat.beq j f with
  |true=>rw[a] at h;simp at h;subst h;have:=jFz a;subst this;exact hk.1
  |false=>rw[a] at h;exact jjp hk.2 f s h
theorem jsB {n:Nat} {fs:List (Nat×jQ)} {os:List (Nat×zK)} {cs:List (Nat×jel)} {vs:List (Nat×jnP)} (h:jek fs) (c:yy os) (a:jzE cs) (d:jzD vs):(jqy n fs os cs vs).ok PR:=
 ⟨jwz jCc,jcp h,jwF,rfl,fun f dst σ svs out b=>jt9 (jy5 h) (jdP c) (jjq a) (jjp d) b⟩
theorem jD5 {f:Nat} {fn:Func} {n:Nat} {fs:List (Nat×jQ)} {os:List (Nat×zK)} {s:jel} {A:Ann} (h:jzg (ctx n fs os) A fn (zu fn) s) (d:PR.funcs[f]? =some fn) (c:fn.body=some (zu fn)) (a:(fn.name== "runtime.NumGoroutine")=false)
 (e:fn.ntmps=n) (b:Nat.ble s.ps.length n=true) (hk:jek fs) (g:yy os):jqq PR f s:=
 jEx (jjY hk g) mixed d c a e (jFQ b) A h
end Go.X
namespace Go.X
namespace L
theorem nth_lt {α:Type} [Inhabited α] {l:List α} {i:Nat} (h:i<l.length):nth l i=l[i]:=by
 unfold nth;simp[h]
theorem take_succ {α:Type} [Inhabited α] {l:List α} {i:Nat} (h:i<l.length):l.take (i+1)=l.take i++[nth l i]:=by
 rw[nth_lt h];exact List.take_succ_eq_append_getElem h
theorem mem_nth {α:Type} [Inhabited α] {l:List α} {i:Nat} (h:i<l.length):nth l i∈l:=by
 rw[nth_lt h];exact List.getElem_mem h
theorem mem_iff {α:Type} [Inhabited α] {l:List α} {x:α}:x∈l↔∃i,i<l.length/\nth l i=x:=by
 constructor
 .intro h;obtain⟨i,hi,e⟩:=List.getElem_of_mem h;exact⟨i,hi,by rw[nth_lt hi,e]⟩
 .rintro⟨i,hi,rfl⟩;exact mem_nth hi
theorem all_false {α:Type} [Inhabited α] {l:List α} {i:Nat} {p:α->Bool} (h:i<l.length) (a:p (nth l i)=false):l.all p=false:=by
 rw[jGD];exact⟨nth l i,mem_nth h,by simp[a]⟩
theorem in64 {x:Int} (a: -9223372036854775808<=x) (b:x<=9223372036854775807):jz x:=⟨a,b⟩
end L
end Go.X
namespace Go.X
namespace BT
theorem two_nat (k:Nat):(2:Int)^k=((2^k:Nat):Int):=by simp
theorem div_nat (n k:Nat):(n:Int)/2^k=((n/2^k:Nat):Int):=by simp
theorem pow63 {k:Nat} (h:k<=62):2^k<2^63:=Nat.pow_lt_pow_right (by decide) (by omega)
theorem ofInt_nat {n:Nat} (a:n<2^63):(BitVec.ofInt 64 (n:Int)).toNat=n:=by
 simp only[BitVec.toNat_ofInt];omega
theorem wrap_nat {n:Nat} (h:n<2^63):IntKind.i64.wrap (n:Int)=(n:Int):=by
 unfold IntKind.wrap;simp[IntKind.signed,IntKind.bits];omega
theorem wrapU_nat {n:Nat} (h:n<2^63):IntKind.u64.wrap (n:Int)=(n:Int):=by
 unfold IntKind.wrap;simp[IntKind.signed,IntKind.bits];omega
theorem band_nat {a b:Nat} (c:a<2^63) (d:b<2^63):qz (a:Int) (b:Int)=((a&&&b:Nat):Int):=by
 unfold qz;rw[BitVec.toNat_and,ofInt_nat c,ofInt_nat d];exact wrap_nat (jG4 Nat.and_le_left c)
theorem uand_nat {a b:Nat} (c:a<2^63) (d:b<2^63):ww (a:Int) (b:Int)=((a&&&b:Nat):Int):=by
 unfold ww;rw[BitVec.toNat_and,ofInt_nat c,ofInt_nat d];exact wrapU_nat (jG4 Nat.and_le_left c)
theorem bor_nat {a b:Nat} (c:a<2^63) (d:b<2^63):bor (a:Int) (b:Int)=((a|||b:Nat):Int):=by
 unfold bor;rw[BitVec.toNat_or,ofInt_nat c,ofInt_nat d,wrap_nat (Nat.or_lt_two_pow c d)]
def sdiff (a b:Nat):Nat:=a&&&(2^64-(b+1))
theorem sdiff_bit {a b:Nat} (c:a<2^63) (d:b<2^63) (i:Nat):(sdiff a b).testBit i=(a.testBit i&& !b.testBit i):=by
 unfold sdiff;rw[Nat.testBit_and,Nat.testBit_two_pow_sub_succ (by omega)];by_cases hi:i<64
 .rw[decide_eq_true hi,Bool.true_and]
 .have:a.testBit i=false:=Nat.testBit_lt_two_pow (jGx c (jGH (by decide) (by omega)));rw[this];simp
theorem bandn_nat {a b:Nat} (c:a<2^63) (d:b<2^63):jkb (a:Int) (b:Int)=((sdiff a b:Nat):Int):=by
 unfold jkb;rw[BitVec.toNat_and,BitVec.toNat_not,ofInt_nat c,ofInt_nat d];have:2^64-1-b=2^64-(b+1):=(by omega);rw[this];exact wrap_nat (jG4 Nat.and_le_left c)
def Set' (s:Int):Prop:=0<=s/\s<2^62
def has (s:Int) (p:Nat):Bool:=s.toNat.testBit p
theorem nat_of {s:Int} (h:Set' s):∃n:Nat,s=(n:Int)/\n<2^62:=⟨s.toNat,by unfold Set' at h;omega,by unfold Set' at h;omega⟩
theorem lt63 {n:Nat} (h:n<2^62):n<2^63:=by omega
theorem has_shr {s:Int} (h:Set' s) (p:Nat):decide (qz (s/2^p) 1=1)=has s p:=by
 obtain⟨n,rfl,b⟩:=nat_of h;unfold has;rw[jFJ,div_nat];have a:n/2^p<2^63:=jG4 (Nat.div_le_self _ _) (lt63 b);rw[show(1:Int)=((1:Nat):Int) from rfl,band_nat a (by decide),Nat.and_one_is_mod,Nat.testBit_eq_decide_div_mod_eq];exact decide_eq_decide.2 ⟨fun h=>by omega,fun h=>by omega⟩
theorem has_ushr {s:Int} (h:Set' s) (p:Nat):decide (ww (s/2^p) 1=1)=has s p:=by
 obtain⟨n,rfl,b⟩:=nat_of h;unfold has;rw[jFJ,div_nat];have a:n/2^p<2^63:=jG4 (Nat.div_le_self _ _) (lt63 b);rw[show(1:Int)=((1:Nat):Int) from rfl,uand_nat a (by decide),Nat.and_one_is_mod,Nat.testBit_eq_decide_div_mod_eq];exact decide_eq_decide.2 ⟨fun h=>by omega,fun h=>by omega⟩
theorem bit_num {s:Int} (h:Set' s) (p:Nat):qz (s/2^p) 1=if has s p=true then 1 else 0:=by
 obtain⟨n,rfl,b⟩:=nat_of h;unfold has;rw[jFJ,div_nat];have a:n/2^p<2^63:=jG4 (Nat.div_le_self _ _) (lt63 b);rw[show(1:Int)=((1:Nat):Int) from rfl,band_nat a (by decide),Nat.and_one_is_mod,Nat.testBit_eq_decide_div_mod_eq]
 split
 .rename_i h;have:=of_decide_eq_true h;omega
 .rename_i h;have:¬(n/2^p%2=1):=fun e=>h (decide_eq_true e);omega
theorem has_zero (p:Nat):has 0 p=false:=by unfold has;simp
theorem has_two (k p:Nat):has ((2:Int)^k) p=decide (k=p):=by
 unfold has;rw[two_nat,jFJ,Nat.testBit_two_pow]
theorem has_bor {a b:Int} (c:Set' a) (d:Set' b) (p:Nat):has (bor a b) p=(has a p||has b p):=by
 obtain⟨n,rfl,f⟩:=nat_of c;obtain⟨m,rfl,e⟩:=nat_of d;unfold has;rw[bor_nat (lt63 f) (lt63 e)];simp only[jFJ,Nat.testBit_or]
theorem has_bandn {a b:Int} (e:Set' a) (f:Set' b) (p:Nat):has (jkb a b) p=(has a p&& !has b p):=by
 obtain⟨n,rfl,d⟩:=nat_of e;obtain⟨m,rfl,c⟩:=nat_of f;unfold has;rw[bandn_nat (lt63 d) (lt63 c)];simp only[jFJ];exact sdiff_bit (lt63 d) (lt63 c) p
theorem bor_set {a b:Int} (e:Set' a) (f:Set' b):Set' (bor a b):=by
 obtain⟨n,rfl,d⟩:=nat_of e;obtain⟨m,rfl,c⟩:=nat_of f;rw[bor_nat (lt63 d) (lt63 c)];have:n|||m<2^62:=Nat.or_lt_two_pow d c;unfold Set';omega
theorem bandn_set {a b:Int} (c:Set' a) (d:Set' b):Set' (jkb a b):=by
 obtain⟨n,rfl,f⟩:=nat_of c;obtain⟨m,rfl,e⟩:=nat_of d;rw[bandn_nat (lt63 f) (lt63 e)];have:sdiff n m<=n:=Nat.and_le_left;unfold Set';omega
theorem zero_set:Set' 0:=by unfold Set';omega
theorem two_set {k:Nat} (h:k<=61):Set' ((2:Int)^k):=by
 rw[two_nat];have:2^k<2^62:=Nat.pow_lt_pow_right (by decide) (by omega);obtain⟨q,a⟩:∃q,q=2^k:=⟨_,rfl⟩;rw[<-a] at this⊢;unfold Set';omega
theorem ext {a b:Int} (c:Set' a) (d:Set' b) (h:∀p,has a p=has b p):a=b:=by
 obtain⟨n,rfl,f⟩:=nat_of c;obtain⟨m,rfl,e⟩:=nat_of d;have:n=m:=jGZ (fun i=>by have:=h i;unfold has at this;simpa using this);rw[this]
theorem has_lt {s:Int} {k:Nat} (c:0<=s) (h:s<2^k) {p:Nat} (b:has s p=true):p<k:=by
 obtain⟨n,rfl⟩:∃n:Nat,s=(n:Int):=⟨s.toNat,by omega⟩;rw[two_nat] at h;unfold has at b;rw[jFJ] at b;have d:=Nat.ge_two_pow_of_testBit b;rcases Nat.lt_or_ge p k with a|a
 .exact a
 .have:=jGH (n:=2) (by decide) a;omega
theorem or_two {n p:Nat} (h:n.testBit p=false):n+2^p=n|||2^p:=by
 have g:n=2^(p+1)*(n/2^(p+1))+n%2^(p+1):=(Nat.div_add_mod _ _).symm;have c:n%2^(p+1)<2^p:=by
  have b:n%2^(p+1)<2^(p+1):=Nat.mod_lt _ (Nat.pow_pos (by decide));rcases Nat.lt_or_ge (n%2^(p+1)) (2^p) with a|a
  .exact a
  .exfalso;have:(n%2^(p+1)).testBit p=true:=Nat.testBit_of_two_pow_le_and_two_pow_add_one_gt a b;rw[Nat.testBit_mod_two_pow,h] at this;simp at this
 apply jGZ;intro i;rw[Nat.testBit_or,Nat.testBit_two_pow];have e:n+2^p=2^(p+1)*(n/2^(p+1))+(2^p+n%2^(p+1)):=(by omega);have j:2^p+n%2^(p+1)<2^(p+1):=jGx (Nat.add_lt_add_left c _) (by rw[Nat.pow_succ];omega);rw[e,Nat.testBit_two_pow_mul_add _ j]
 conv=>rhs;rw[g,Nat.testBit_two_pow_mul_add _ (Nat.mod_lt _ (Nat.pow_pos (by decide)))]
 have f:2^p+n%2^(p+1)=2^p*1+n%2^(p+1):=(by omega);by_cases hi:i<p+1
 .rw[if_pos hi,if_pos hi,f,Nat.testBit_two_pow_mul_add _ c];by_cases d:i<p
  .rw[if_pos d,decide_eq_false (by omega),Bool.or_false]
  .have:i=p:=(by omega);subst this;rw[if_neg d,Nat.sub_self,decide_eq_true rfl,Bool.or_true];simp
 .rw[if_neg hi,if_neg hi,decide_eq_false (by omega),Bool.or_false]
theorem add_two {s:Int} (b:Set' s) {p:Nat} (c:p<=61) (h:has s p=false):s+2^p=bor s (2^p):=by
 obtain⟨n,rfl,a⟩:=nat_of b;rw[two_nat,bor_nat (lt63 a) (pow63 (by omega))];unfold has at h;rw[jFJ] at h;rw[<-or_two h];omega
def size (s:Int):Int:=(((List.range 62).countP (fun p=>has s p):Nat):Int)
theorem size_zero:size 0=0:=by
 unfold size;have:(List.range 62).countP (fun p=>has 0 p)=0:=jGU.2 (fun p _=>by rw[has_zero];simp);rw[this];rfl
theorem size_le (s:Int):0<=size s/\size s<=62:=by
 have:=List.countP_le_length (l:=List.range 62) (p:=fun p=>has s p);rw[List.length_range] at this;unfold size;omega
theorem has_half {s:Int} (a:Set' s) (p:Nat):has (s/2) p=has s (p+1):=by
 obtain⟨n,rfl,b⟩:=nat_of a;unfold has;have:((n:Int)/2).toNat=n/2:=(by omega);rw[this,jFJ,Nat.testBit_succ]
theorem size_half {s:Int} (d:Set' s):size s=s%2+size (s/2):=by
 obtain⟨n,e,i⟩:=nat_of d;have b:has (s/2) 61=false:=by
  rw[has_half d];subst e;unfold has;rw[jFJ];exact Nat.testBit_lt_two_pow i
 have j:(List.range 62)=0::(List.range 61).map (·+1):=by
  rw[show(62:Nat)=61+1 from rfl,List.range_succ_eq_map]
 have c:(List.range 62)=List.range 61++[61]:=(by rw[show(62:Nat)=61+1 from rfl,jF5]);have f:(has s 0=true)↔s%2=1:=by
  subst e;unfold has;rw[jFJ,Nat.testBit_zero];simp only[decide_eq_true_eq];omega
 have g:(List.range 62).countP (fun p=>has (s/2) p)=(List.range 61).countP (fun p=>has s (p+1)):=by
  rw[c,jG3];simp only[jG0,List.countP_nil,b];simp only[has_half d];simp
 unfold size;rw[g]
 conv=>lhs;rw[j]
 rw[jG0,List.countP_map];have h:((fun p=>has s p)∘fun(x:Nat)=>x+1)=fun p=>has s (p+1):=rfl
 rw[h];by_cases a:has s 0=true
 .rw[if_pos a];have:=f.1 a;omega
 .rw[if_neg a];have:¬s%2=1:=fun e=>a (f.2 e);omega
end BT
end Go.X
namespace Go.X
namespace BT
theorem uor_nat {a b:Nat} (c:a<2^63) (d:b<2^63):uor (a:Int) (b:Int)=((a|||b:Nat):Int):=by
 unfold uor;rw[BitVec.toNat_or,ofInt_nat c,ofInt_nat d,wrapU_nat (Nat.or_lt_two_pow c d)]
theorem has_uor {a b:Int} (c:Set' a) (d:Set' b) (p:Nat):has (uor a b) p=(has a p||has b p):=by
 obtain⟨n,rfl,f⟩:=nat_of c;obtain⟨m,rfl,e⟩:=nat_of d;unfold has;rw[uor_nat (lt63 f) (lt63 e)];simp only[jFJ,Nat.testBit_or]
theorem uor_set {a b:Int} (e:Set' a) (f:Set' b):Set' (uor a b):=by
 obtain⟨n,rfl,d⟩:=nat_of e;obtain⟨m,rfl,c⟩:=nat_of f;rw[uor_nat (lt63 d) (lt63 c)];have:n|||m<2^62:=Nat.or_lt_two_pow d c;unfold Set';omega
theorem pred_odd (k:Nat):(2*k+1)&&&(2*k+1-1)=2*k:=by
 apply jGZ;intro i;rw[Nat.testBit_and,Nat.add_sub_cancel];cases i with
 |zero=>simp
 |succ i=>
  rw[Nat.testBit_succ,Nat.testBit_succ];have:(2*k+1)/2=k:=(by omega);have a:(2*k)/2=k:=(by omega);rw[this,a,Bool.and_self]
theorem pred_even (k:Nat) (h:k≠0):(2*k)&&&(2*k-1)=2*(k&&&(k-1)):=by
 apply jGZ;intro i;rw[Nat.testBit_and];cases i with
 |zero=>simp
 |succ i=>
  rw[Nat.testBit_succ,Nat.testBit_succ,Nat.testBit_succ];have:(2*k)/2=k:=(by omega);have a:(2*k-1)/2=k-1:=(by omega);have b:(2*(k&&&(k-1)))/2=k&&&(k-1):=(by omega);rw[this,a,b,Nat.testBit_and]
theorem size_dbl {k:Nat} (h:k<2^61):size ((2*k:Nat):Int)=size (k:Int):=by
 rw[size_half (s:=((2*k:Nat):Int)) (by unfold Set';omega)];have a:((2*k:Nat):Int)%2=0:=(by omega);have b:((2*k:Nat):Int)/2=(k:Int):=(by omega);rw[a,b];omega
theorem size_odd {k:Nat} (h:k<2^61):size ((2*k+1:Nat):Int)=1+size (k:Int):=by
 rw[size_half (s:=((2*k+1:Nat):Int)) (by unfold Set';omega)];have a:((2*k+1:Nat):Int)%2=1:=(by omega);have b:((2*k+1:Nat):Int)/2=(k:Int):=(by omega);rw[a,b]
theorem pred_nat:∀(n:Nat),n≠0->n<2^62->(n&&&(n-1))<n/\size ((n&&&(n-1):Nat):Int)+1=size (n:Int)
 |n,b,d=>by
  rcases Nat.mod_two_eq_zero_or_one n with e|e
  .obtain⟨k,rfl⟩:∃k,n=2*k:=⟨n/2,by omega⟩
   have hk:k≠0:=by omega
   obtain⟨c,a⟩:=pred_nat k hk (by omega)
   rw[pred_even k hk]
   exact⟨by omega,by rw[size_dbl (by omega),size_dbl (by omega)];exact a⟩
  .obtain⟨k,rfl⟩:∃k,n=2*k+1:=⟨n/2,by omega⟩
   rw[pred_odd]
   exact⟨by omega,by rw[size_dbl (by omega),size_odd (by omega)];omega⟩
termination_by n=>n
theorem pred {s:Int} (d:Set' s) (h:s≠0):Set' (ww s (s-1))/\ww s (s-1)<s/\size (ww s (s-1))+1=size s:=by
 obtain⟨n,rfl,a⟩:=nat_of d;have b:n≠0:=(by omega);have e:(n:Int)-1=((n-1:Nat):Int):=(by omega);rw[e,uand_nat (lt63 a) (by omega)];obtain⟨f,c⟩:=pred_nat n b a;exact⟨by unfold Set';omega,by omega,c⟩
end BT
end Go.X
namespace Go.X
namespace U
def gH {α:Type} (eq:α->α->Bool) (p:α):List α->List α
 |[]=>[]
 |y::r=>if eq y p=true then gH eq y r else y::gH eq y r
def q9 {α:Type} (eq:α->α->Bool):List α->List α
 |[]=>[]
 |x::r=>x::gH eq x r
def jCT {α:Type} (eq:α->α->Bool) (l:List α) (i:Nat):Prop:=1<=i/\i<=l.length/\q9 eq (l.take i)=l.take i
def jc1 {α:Type} (eq:α->α->Bool) (l:List α) (n:Nat):Int:=((q9 eq (l.take n)).length:Int)
def jrZ {α:Type} (eq:α->α->Bool) (l:List α) (i k:Nat) (r:List α):Prop:=1<=k/\i+k<=l.length/\r.length=l.length/\q9 eq (l.take (i+k))=r.take (q9 eq (l.take (i+k))).length/\r.drop (i+k-1)=l.drop (i+k-1)/\(q9 eq (l.take (i+k))).length<i+k
end U
namespace L
theorem nodup_len {α:Type}:∀(a b:List α),a.Nodup->(∀x∈a,x∈b)->a.length<=b.length
 |[],_,_,_=>by simp
 |x::a,b,hn,h=>by
  obtain⟨e,f,rfl⟩:=List.append_of_mem (h x (by simp))
  rw[jGt] at hn
  have:=nodup_len a (e++f) hn.2 (fun y d=>by
   have:=h y (by simp[d])
   rw[jFL,jFC] at this
   rw[jFL]
   rcases this with c|c|c
   .exact .inl c
   .subst c;exact absurd d hn.1
   .exact .inr c)
  simp at this⊢
  omega
theorem perm_of_nodup {α:Type} [DecidableEq α]:∀{a b:List α},a.Nodup->b.Nodup->(∀n,n∈a↔n∈b)->a.Perm b
 |[],b,_,_,h=>by
  have:b=[]:=by
   cases b with
   |nil=>rfl
   |cons x r=>exact absurd ((h x).2 (by simp)) (by simp)
  rw[this]
 |x::r,b,ha,hb,h=>by
  have i:x∈b:=(h x).1 (by simp);have f:=List.perm_cons_erase i;refine(List.Perm.cons x (perm_of_nodup (jGt.1 ha).2 (hb.erase x) (fun n=> ?_))).trans f.symm;rw[hb.mem_erase_iff];constructor
  .intro c;exact⟨fun e=>by subst e;exact(jGt.1 ha).1 c,(h n).1 (jFI _ c)⟩
  .rintro⟨d,c⟩;rcases jFC.1 ((h n).2 c) with e|g
   .exact absurd e d
   .exact g
theorem nodup_inj {α d:Type} {f:α->d}:∀{l:List α},(l.map f).Nodup->∀{x y:α},x∈l->y∈l->f x=f y->x=y
 |[],_,_,_,h,_,_=>by simp at h
 |a::r,hn,x,y,hx,hy,e=>by
  simp only[jGz,jGt] at hn
  rcases jFC.1 hx with rfl|c
  .rcases jFC.1 hy with rfl|b
   .rfl
   .exact absurd (jGc.2 ⟨y,b,e.symm⟩) hn.1
  .rcases jFC.1 hy with rfl|b
   .exact absurd (jGc.2 ⟨x,c,e⟩) hn.1
   .exact nodup_inj hn.2 c b e
theorem nth_take {α:Type} [Inhabited α] {l:List α} {i n:Nat} (h:i<n):nth (l.take n) i=nth l i:=by
 unfold nth;rw[jGd,jGd,jFZ h]
theorem nth_drop {α:Type} [Inhabited α] {l r:List α} {a n:Nat} (h:l.drop a=r.drop a) (b:a<=n):nth l n=nth r n:=by
 have e:=congrArg (fun x=>x[n-a]?) h;simp only[jGg] at e;rw[show a+(n-a)=n by omega] at e;unfold nth;rw[jGd,jGd,e]
theorem nth_map {α a:Type} [Inhabited α] [Inhabited a] {f:α->a} {l:List α} {i:Nat} (h:i<l.length):nth (l.map f) i=f (nth l i):=by
 rw[nth_lt (by simpa using h),nth_lt h];simp
theorem nth_set {α:Type} [Inhabited α] {l:List α} {i j:Nat} {x:α} (h:i<l.length):nth (l.set i x) j=if i=j then x else nth l j:=by
 unfold nth;rw[jGd,jGd,List.getElem?_set]
 split
 .rename_i e;subst e;simp[h]
 .rfl
theorem nth_rep {α:Type} [Inhabited α] {n i:Nat} {x:α} (h:i<n):nth (List.replicate n x) i=x:=by
 unfold nth;rw[jGd,List.getElem?_replicate,if_pos h];rfl
theorem ext_nth {α:Type} [Inhabited α] {a b:List α} (h:a.length=b.length) (d:∀i,i<a.length->nth a i=nth b i):a=b:=by
 apply List.ext_getElem h;intro i c e;rw[<-nth_lt c,<-nth_lt e];exact d i c
theorem range_map_nth {α:Type} [Inhabited α] (l:List α):(List.range l.length).map (nth l)=l:=by
 apply ext_nth
 .simp
 .intro i hi;rw[nth_map (by simpa using hi)];congr 1;rw[nth_lt (by simpa using hi)];simp
section
variable {α:Type} [Inhabited α] {eq:α->α->Bool}
theorem compT_snoc (y:α):∀(r:List α) (p:α),U.gH eq p (r++[y])=U.gH eq p r++(if eq y (nth (p::r) r.length)=true then[] else[y])
 |[],p=>rfl
 |z::r,p=>by
  have e:nth (p::z::r) (z::r).length=nth (z::r) r.length:=rfl
  rw[e]
  simp only[jF4,U.gH]
  split
  .exact compT_snoc y r z
  .rw[compT_snoc y r z];rfl
theorem comp_snoc (y:α) {l:List α} (h:l≠[]):U.q9 eq (l++[y])=U.q9 eq l++(if eq y (nth l (l.length-1))=true then[] else[y]):=by
 cases l with
 |nil=>exact absurd rfl h
 |cons x r=>
  show x::U.gH eq x (r++[y])=_;rw[compT_snoc];have:(x::r).length-1=r.length:=(by simp);rw[this];rfl
theorem comp_take {l:List α} {n:Nat} (b:1<=n) (a:n<l.length):U.q9 eq (l.take (n+1))=U.q9 eq (l.take n)++(if eq (nth l n) (nth l (n-1))=true then[] else[nth l n]):=by
 rw[L.take_succ a,comp_snoc]
 .have e:(l.take n).length-1=n-1:=(by rw[jGa];omega);rw[e,nth_take (by omega)]
 .intro e;have:=congrArg List.length e;rw[jGa,jGr] at this;omega
end
theorem comp_short {α:Type} {eq:α->α->Bool} {l:List α} (h:l.length<2):U.q9 eq l=l:=by
 match l,h with
 |[],_=>rfl
 |[x],_=>rfl
theorem comp_len {α:Type} {eq:α->α->Bool} (l:List α):(U.q9 eq l).length<=l.length:=by
 have:∀(r:List α) (p:α),(U.gH eq p r).length<=r.length:=by
  intro r
  induction r with
  |nil=>intro p;simp[U.gH]
  |cons y r a=>
   intro p;unfold U.gH
   split
   .have:=a y;simp;omega
   .have:=a y;simp;omega
 cases l with
 |nil=>simp[U.q9]
 |cons x r=>have:=this r x;simp[U.q9];omega
theorem inv9_next {α:Type} [Inhabited α] {eq:α->α->Bool} {l r:List α} {i k:Nat} (hi:1<=i) (h:U.jrZ eq l i k r) (g:i+k<l.length):
 (eq (nth r (i+k)) (nth r (i+k-1))=false->U.jc1 eq l (i+(k+1))=U.jc1 eq l (i+k)+1/\U.jrZ eq l i (k+1) (r.set (U.jc1 eq l (i+k)).toNat (nth r (i+k))))/\
 (eq (nth r (i+k)) (nth r (i+k-1))=true->U.jc1 eq l (i+(k+1))=U.jc1 eq l (i+k)/\U.jrZ eq l i (k+1) r):=by
 obtain⟨t,u,j,d,e,q⟩:=h;have o:nth r (i+k)=nth l (i+k):=nth_drop e (by omega);have p:nth r (i+k-1)=nth l (i+k-1):=nth_drop e (by omega);have a:=comp_take (eq:=eq) (l:=l) (n:=i+k) (by omega) g;rw[show i+k+1=i+(k+1) by omega] at a;have m:r.drop (i+k)=l.drop (i+k):=by
  have:=congrArg (List.drop 1) e;rw[List.drop_drop,List.drop_drop,show i+k-1+1=i+k by omega] at this;exact this
 rw[o,p];obtain⟨c,b⟩:∃c,c=U.q9 eq (l.take (i+k)):=⟨_,rfl⟩;rw[<-b] at a d q;have s:(U.jc1 eq l (i+k))=(c.length:Int):=(by unfold U.jc1;rw[<-b]);rw[s];refine⟨fun f=> ?_,fun f=> ?_⟩
 .rw[if_neg (by rw[f];simp)] at a;refine⟨by unfold U.jc1;rw[a];simp,by omega,by omega,by simpa using j,?_,?_,?_⟩
  .rw[a];simp only[jFJ,jFY,jGe,jGr];rw[List.take_add_one,List.getElem?_set_self (by omega)];rw[List.take_set_of_le (by omega),<-d];rfl
  .rw[show i+(k+1)-1=i+k by omega];simp only[jFJ];rw[List.drop_set_of_lt (by omega)];exact m
  .rw[a];simp;omega
 .rw[if_pos f,jGb] at a;refine⟨by unfold U.jc1;rw[a],by omega,by omega,j,?_,?_,?_⟩
  .rw[a];exact d
  .rw[show i+(k+1)-1=i+k by omega];exact m
  .rw[a];omega
theorem compT_sub {α:Type} {eq:α->α->Bool}:∀(r:List α) (p x:α),x∈U.gH eq p r->x∈r
 |[],_,_,h=>by simp[U.gH] at h
 |y::r,p,x,h=>by
  unfold U.gH at h
  split at h
  .exact jFI _ (compT_sub r y x h)
  .rcases jFC.1 h with rfl|h
   .simp
   .exact jFI _ (compT_sub r y x h)
theorem comp_sub {α:Type} {eq:α->α->Bool} {l:List α} {x:α} (h:x∈U.q9 eq l):x∈l:=by
 cases l with
 |nil=>simp[U.q9] at h
 |cons y r=>
  unfold U.q9 at h;rcases jFC.1 h with rfl|h
  .simp
  .exact jFI _ (compT_sub r y x h)
theorem compT_mem {α:Type} [DecidableEq α]:∀(r:List α) (p x:α),x∈r->x=p\/x∈U.gH (fun a b=>decide (a=b)) p r
 |y::r,p,x,h=>by
  unfold U.gH
  rcases jFC.1 h with rfl|h
  .by_cases e:x=p
   .exact .inl e
   .rw[if_neg (by simpa using e)];right;simp
  .rcases compT_mem r y x h with rfl|c
   .by_cases e:x=p
    .exact .inl e
    .rw[if_neg (by simpa using e)];right;simp
   .right
    split
    .exact c
    .exact jFI _ c
theorem comp_mem {α:Type} [DecidableEq α] {l:List α} {x:α}:x∈U.q9 (fun a b=>decide (a=b)) l↔x∈l:=by
 refine⟨comp_sub,fun h=> ?_⟩;cases l with
 |nil=>simp at h
 |cons y r=>
  unfold U.q9;rcases jFC.1 h with rfl|h
  .simp
  .rcases compT_mem r y x h with rfl|c
   .simp
   .exact jFI _ c
theorem comp_asc {α:Type} [DecidableEq α] {lt:α->α->Bool}:∀{l:List α},kD lt l->jwf lt l->(U.q9 (fun a b=>decide (a=b)) l).Pairwise (fun a b=>lt a b=true):=by
 have i:∀(r:List α) (p:α),kD lt (p::r)->jwf lt (p::r)->(p::U.gH (fun a b=>decide (a=b)) p r).Pairwise (fun a b=>lt a b=true):=by
  intro r
  induction r with
  |nil=>intro p _ _;exact List.pairwise_singleton _ _
  |cons y r n=>
   intro p f j;have d:=jGs.1 j;have k:kD lt (y::r):=f.sub (fun z c=>jFI _ c);have hi:=n y k d.2;unfold U.gH;by_cases e:y=p
   .rw[if_pos (by simpa using e)];subst e;exact hi
   .rw[if_neg (by simpa using e)];refine jGs.2 ⟨fun z c=> ?_,hi⟩;have g:lt p y=true:=by
     cases h:lt p y with
     |true=>rfl
     |false=>exact absurd (f.total p y (by simp) (by simp) h (d.1 y (by simp))).symm e
    rcases jFC.1 c with rfl|c
    .exact g
    .have m:=compT_sub r y z c;exact f.trans p y z (by simp) (by simp) (by simp[m]) g ((jGs.1 hi).1 z c)
 intro l f j;cases l with
 |nil=>exact List.Pairwise.nil
 |cons p r=>exact i r p f j
theorem asc_nodup {α:Type} {lt:α->α->Bool} {l:List α} (hi:∀x,lt x x=false) (h:l.Pairwise (fun a b=>lt a b=true)):l.Nodup:=
 h.imp (fun{a b} h e=>by subst e;rw[hi] at h;cases h)
theorem filter_take {α:Type} [Inhabited α] {p:α->Bool} {l:List α} {i:Nat} (h:i<l.length):(l.take (i+1)).filter p=(l.take i).filter p++(if p (nth l i)=true then[nth l i] else[]):=by
 rw[take_succ h,List.filter_append];congr 1;by_cases e:p (nth l i)=true<;>simp[e]
theorem range_filter_succ {p:Nat->Bool} {n:Nat}:(List.range (n+1)).filter p=(List.range n).filter p++(if p n=true then[n] else[]):=by
 rw[jF5,List.filter_append];congr 1;by_cases e:p n=true<;>simp[e]
end L
end Go.X
namespace Go.X
abbrev tSp:Ty:= .st [.int,.int]
abbrev tPe:Ty:= .st [.slice .int,.int,.int,.slice .int,.bool,.int]
abbrev tLw:Ty:= .st [.int,.int,.bool]
abbrev tCr:Ty:= .st [.int,.slice tPe,.slice tLw]
abbrev tJb:Ty:= .st [.int,.int,.int,.int,.int,.int]
abbrev tBk:Ty:= .st [tJb,.int,.int,.int]
abbrev tSh:Ty:= .st [.int,.int,.int,.int,.int]
abbrev tDy:Ty:= .st [tCr,.slice (.slice tSp),.slice tBk,.int,.int,.slice tSh]
abbrev SpD:Type:=Int×Int×Unit
abbrev PeD:Type:=List Int×Int×Int×List Int×Bool×Int×Unit
abbrev LwD:Type:=Int×Int×Bool×Unit
abbrev CrD:Type:=Int×List PeD×List LwD×Unit
abbrev JbD:Type:=Int×Int×Int×Int×Int×Int×Unit
abbrev BkD:Type:=JbD×Int×Int×Int×Unit
abbrev ShD:Type:=Int×Int×Int×Int×Int×Unit
abbrev DyD:Type:=CrD×List (List SpD)×List BkD×Int×Int×List ShD×Unit
namespace U
def lo (s:SpD):Int:=s.1
def hi (s:SpD):Int:=s.2.1
def ja (n a b:Int):Bool:=decide (a<=n)&&decide (n<=b)
def lv (p:PeD):List Int:=p.1
def fd (p:PeD):Int:=p.2.1
def cl (p:PeD):Int:=p.2.2.1
def zw (p:PeD):List Int:=p.2.2.2.1
def jDa (p:PeD):Bool:=p.2.2.2.2.1
def fe (p:PeD):Int:=p.2.2.2.2.2.1
def jwi (l:LwD):Int:=l.1
def jCO (l:LwD):Int:=l.2.1
def jEO (l:LwD):Bool:=l.2.2.1
def la (c:CrD):Int:=c.1
def je (c:CrD):List PeD:=c.2.1
def kO (c:CrD):List LwD:=c.2.2.1
def jqx (j:JbD):Int:=j.1
def jlG (j:JbD):Int:=j.2.1
def jzH (j:JbD):Int:=j.2.2.1
def jrX (j:JbD):Int:=j.2.2.2.1
def jqw (j:JbD):Int:=j.2.2.2.2.1
def jAx (j:JbD):Int:=j.2.2.2.2.2.1
def vz (b:BkD):JbD:=b.1
def jvX (b:BkD):Int:=b.2.1
def jaA (b:BkD):Int:=b.2.2.1
def jqi (b:BkD):Int:=b.2.2.2.1
def wO (s:ShD):Int:=s.1
def jnT (s:ShD):Int:=s.2.1
def jz0 (s:ShD):Int:=s.2.2.1
def joH (s:ShD):Int:=s.2.2.2.1
def jcY (s:ShD):Int:=s.2.2.2.2.1
def jd (d:DyD):CrD:=d.1
def jK (d:DyD):List (List SpD):=d.2.1
def jq (d:DyD):List BkD:=d.2.2.1
def jhw (d:DyD):Int:=d.2.2.2.1
def jx6 (d:DyD):Int:=d.2.2.2.2.1
def kR (d:DyD):List ShD:=d.2.2.2.2.2.1
def yI (L:Int) (p:PeD):Bool:=decide (((lv p).length:Int)=L/\0<=fd p/\fd p<=255/\0<=cl p/\cl p<=255/\(zw p).length<=10/\0<=fe p/\fe p<=1000)&&((lv p).all (fun n=>ja n 0 5)&&(zw p).all (fun n=>ja n 0 99))
def gn (l:LwD):Bool:=ja (jwi l) 1 5&&ja (jCO l) 1 8
def jl (c:CrD):Bool:=decide (2<=la c/\la c<=5/\(je c).length<=8/\(kO c).length=4)&&((je c).all (yI (la c))&&(kO c).all gn)
def jN (c:CrD) (j:JbD):Bool:=decide (0<=jqx j/\jqx j<=la c-1/\0<=jlG j/\jlG j<=la c-1/\jqx j≠jlG j/\0<=jzH j/\jzH j<=99/\0<=jrX j/\jrX j<=7/\0<=jqw j/\jqw j<=3/\1<=jAx j/\jAx j<=8)
def zR (c:CrD) (j:JbD):Int:=if jl c=false then 30 else if jN c j=false then 31 else 0
def je8 (s:SpD):Bool:=decide (0<=lo s/\lo s<=hi s/\hi s<=300)
def vN (n:Nat) (r:List SpD):Bool:=decide (r.length=n)&&r.all je8
def jcR (n:Nat) (b:BkD):Bool:=decide (0<=jvX b/\jvX b<=(n:Int)-1/\0<=jaA b/\jaA b<jqi b/\jqi b<=1440)
def jbG (nb a:Nat) (s:ShD):Bool:=decide (0<=wO s/\wO s<=99/\0<=jnT s/\jnT s<=9999/\1<=jz0 s/\jz0 s<=2/\0<=joH s/\joH s<=(nb:Int)-1/\0<=jcY s/\jcY s<=(a:Int)-1)
def zC (d:DyD):Bool:=decide ((jq d).length<=4/\1<=(jK d).length/\(jK d).length<=5/\0<=jhw d/\jhw d<=300/\0<=jx6 d/\jx6 d<=1440/\(kR d).length<=30)&&
 ((jK d).all (vN (jK d).length)&&((jq d).all (jcR (jK d).length)&&(kR d).all (jbG (jq d).length (je (jd d)).length)))
def jj1 (a b:ShD):Bool:=decide (wO a=wO b)&& !decide (a=b)
def jia (l:List ShD) (i:Nat):Bool:=(l.take i).any (jj1 (nth l i))
def w4 (l:List ShD) (n:Nat):Bool:=(List.range n).any (jia l)
def vj (l:List ShD):Bool:=w4 l l.length
def jvg (d:DyD):Bool:=(jq d).all (fun b=>jN (jd d) (vz b))
def yu (d:DyD):Int:=if jl (jd d)=false then 30 else if jvg d=false then 31 else if zC d=false then 50 else if vj (kR d)=true then 51 else 0
def jnv (l:List ShD) (i:Nat):Bool:= !((l.take i).any (fun x=>decide (x=nth l i)))
def jBg (l:List ShD) (n m:Nat):List ShD:=((List.range n).filter (fun i=>decide (wO (nth l i)=(m:Int))&&jnv l i)).map (nth l)
def jy0 (l:List ShD) (n:Nat):List ShD:=(List.range n).flatMap (jBg l l.length)
def jjW (l:List ShD):List ShD:=jy0 l 100
def vE (p:PeD) (a:Int):Bool:=(zw p).any (fun t=>decide (t=a))
def jM (s n:Int):Bool:=decide (qz (s/2^n.toNat) 1=1)
def j7 (c:CrD) (j:JbD) (p:Int):Bool:= !(vE (nth (je c) p.toNat) (jzH j))&&jM (fd (nth (je c) p.toNat)) (jrX j)&&jM (cl (nth (je c) p.toNat)) (jqw j)
def bk (d:DyD) (b:Int):BkD:=nth (jq d) b.toNat
def jsl (d:DyD) (a b:Int):Int:=hi (nth (nth (jK d) (jvX (bk d a)).toNat) (jvX (bk d b)).toNat)
def wU (d:DyD) (a b:Int):Bool:=decide (jaA (bk d a)<jaA (bk d b)\/(jaA (bk d a)=jaA (bk d b)/\a<b))
def qF (d:DyD) (a b:Int):Int:=jaA (bk d b)-jqi (bk d a)-jhw d-jsl d a b
def jG (d:DyD) (a b:Int):Bool:=if wU d b a=true then decide (0<=qF d b a) else decide (0<=qF d a b)
def jm8 (d:DyD) (l:List Int):Int:=(l.map (fun b=>jqi (bk d b)-jaA (bk d b))).foldl (·+·) 0
def jBD (d:DyD) (l:List Int):Bool:=(List.range l.length).all (fun i=>(l.take i).all (fun b=>jG d (nth l i) b))
def ky (d:DyD) (p:Int) (l:List Int):Bool:=l.all (fun b=>j7 (jd d) (vz (bk d b)) p)&&(jBD d l&&decide (jm8 d l<=jx6 d))
def wR (a b:ShD):Bool:=decide (jnT b<jnT a\/(jnT a=jnT b/\wO b<wO a))
def jh8 (l:List ShD) (s:ShD):Bool:=decide (jz0 s=1)&& !(l.any (fun t=>decide (joH t=joH s)&&decide (jcY t=jcY s)&&wR t s))
def jDq (a b:ShD):Bool:=wR b a
def ja2 (t:List Int) (p:Int) (n:Nat):List Int:=((List.range n).filter (fun b=>jM (nth t b) p)).map (fun(b:Nat)=>(b:Int))
def on (t:List Int) (p:Int):List Int:=ja2 t p t.length
def jcc (d:DyD) (x:List Int×List Int) (s:ShD):List Int×List Int:=
 if ky d (jcY s) (on x.1 (jcY s)++[joH s])=true then(x.1.set (joH s).toNat (nth x.1 (joH s).toNat+2^(jcY s).toNat),x.2) else(x.1,x.2++[wO s])
def jaQ (c:CrD) (t:Int) (d a b:Int):Bool:=(List.range (je c).length).any (fun i=>jM t (i:Int)&&decide (d<=nth (lv (nth (je c) i)) a.toNat)&&decide (d<=nth (lv (nth (je c) i)) b.toNat))
def yd (c:CrD) (j:JbD):LwD:=nth (kO c) (jqw j).toNat
end U
end Go.X
namespace Go.X
inductive Rch (J:Nat->Nat->Bool) (n s:Nat):Nat->Prop where
 |base:Rch J n s s
 |step {a b:Nat}:Rch J n s a->b<n->J a b=true->Rch J n s b
theorem Rch.lt {J:Nat->Nat->Bool} {n s t:Nat} (a:s<n) (h:Rch J n s t):t<n:=by
 cases h with
 |base=>exact a
 |step _ h _=>exact h
theorem Rch.trans {J:Nat->Nat->Bool} {n s t u:Nat} (a:Rch J n s t) (b:Rch J n t u):Rch J n s u:=by
 induction b with
 |base=>exact a
 |step _ c d e=>exact .step e c d
theorem Rch.symm {J:Nat->Nat->Bool} {n s t:Nat} (c:∀a b,J a b=J b a) (f:s<n) (h:Rch J n s t):Rch J n t s:=by
 induction h with
 |base=>exact .base
 |step d i e g=>
  rename_i a b;have:Rch J n b a:= .step .base (d.lt f) (by rw[c];exact e);exact this.trans g
theorem Rch.closed {J:Nat->Nat->Bool} {n s t:Nat} {S:Nat->Prop} (i:s<n) (c:S s) (f:∀a b,a<n->S a->b<n->J a b=true->S b) (h:Rch J n s t):S t:=by
 induction h with
 |base=>exact c
 |step d e g j=>exact f _ _ (d.lt i) j e g
namespace U
def jcv (J:Nat->Nat->Bool) (r a:Nat) (out:List Int) (b:Nat):List Int:=if nth out a=(r:Int)/\nth out b<0/\J a b=true then out.set b ((r:Int)+1) else out
def kC (J:Nat->Nat->Bool) (r a:Nat) (out:List Int) (k:Nat):List Int:=(List.range k).foldl (jcv J r a) out
def kd (J:Nat->Nat->Bool) (n r:Nat) (out:List Int) (k:Nat):List Int:=(List.range k).foldl (fun o a=>kC J r a o n) out
def kY (n s:Nat):List Int:=(List.replicate n (-1:Int)).set s 0
def ze (J:Nat->Nat->Bool) (n s k:Nat):List Int:=(List.range k).foldl (fun o r=>kd J n r o n) (kY n s)
def jfE (J:Nat->Nat->Bool) (q:Nat) (x:List Int×List Int) (b:Nat):List Int×List Int:=if nth x.1 b<0/\J q b=true then(x.1.set b (nth x.1 q+1),x.2++[(b:Int)]) else x
def jfF (J:Nat->Nat->Bool) (q:Nat) (x:List Int×List Int) (k:Nat):List Int×List Int:=(List.range k).foldl (jfE J q) x
def w6 (J:Nat->Nat->Bool) (n:Nat) (x:List Int×List Int):List Int×List Int:=match x.2 with
 |[]=>x
 |q::_=>((jfF J q.toNat x n).1,(jfF J q.toNat x n).2.drop 1)
def qk (J:Nat->Nat->Bool) (n s:Nat):Nat->List Int×List Int
 |0=>(kY n s,[(s:Int)])
 |k+1=>w6 J n (qk J n s k)
def jED (J:Nat->Nat->Bool) (n s:Nat):List Int:=(qk J n s (n+1)).1
end U
theorem jd0 (n s:Nat):(U.kY n s).length=n:=by unfold U.kY;simp
theorem jjQ {n s x:Nat} (a:s<n) (b:x<n):nth (U.kY n s) x=if s=x then 0 else-1:=by
 unfold U.kY;rw[L.nth_set (by simpa using a),L.nth_rep b]
structure jwl (J:Nat->Nat->Bool) (n s r a b:Nat) (out:List Int):Prop where
 len:out.length=n
 val:∀x,x<n->nth out x= -1\/(0<=nth out x/\nth out x<=(r:Int)+1)
 top:(a=0/\b=0)->∀x,x<n->nth out x<=(r:Int)
 zero:0<=nth out s
 rch:∀x,x<n->0<=nth out x->Rch J n s x
 lev:∀x,x<n->0<nth out x->∃y,y<n/\nth out y=nth out x-1
 cls:∀x y,x<n->y<n->0<=nth out x->(nth out x<(r:Int)\/(nth out x=(r:Int)/\(x<a\/(x=a/\y<b))))->J x y=true->0<=nth out y
theorem jyM {J:Nat->Nat->Bool} {n s r a b:Nat} {out:List Int} (B:s<n) (t:a<n) (u:b<n) (h:jwl J n s r a b out):jwl J n s r a (b+1) (U.jcv J r a out b):=by
 unfold U.jcv
 split
 .rename_i q;obtain⟨c1,c2,v⟩:=q;have p:b<out.length:=(by rw[h.len];exact u);have c:∀j,nth (out.set b ((r:Int)+1)) j=if b=j then(r:Int)+1 else nth out j:=fun j=>L.nth_set p
  have o:b≠a:=fun e=>by subst e;omega
  refine⟨by simpa using h.len,fun x g=> ?_,fun e=>by omega,?_,fun x g f=> ?_,fun x g f=> ?_,fun x y g k f d l=> ?_⟩
  .rw[c];split
   .right;omega
   .exact h.val x g
  .rw[c];split
   .omega
   .exact h.zero
  .rw[c] at f
   split at f
   .rename_i e;subst e;exact .step (h.rch a t (by omega)) u v
   .exact h.rch x g f
  .rw[c] at f⊢
   split at f
   .rename_i e;subst e;rw[if_pos rfl];exact⟨a,t,by rw[c,if_neg o];omega⟩
   .rename_i e;rw[if_neg e];obtain⟨y,k,w⟩:=h.lev x g f;refine⟨y,k,?_⟩;rw[c,if_neg (fun e=>by subst e;omega)];exact w
  .rw[c] at f d⊢
   split
   .omega
   .rename_i A
    split at f
    .rename_i e;rw[if_pos e] at d;omega
    .rename_i e;rw[if_neg e] at d;refine h.cls x y g k f ?_ l;rcases d with d|⟨d,i|⟨i,z⟩⟩
     .exact .inl d
     .exact .inr ⟨d,.inl i⟩
     .exact .inr ⟨d,.inr ⟨i,by omega⟩⟩
 .rename_i q;refine⟨h.len,h.val,fun e=>by omega,h.zero,h.rch,h.lev,fun x y g k f d l=> ?_⟩;rcases d with d|⟨d,i|⟨i,z⟩⟩
  .exact h.cls x y g k f (.inl d) l
  .exact h.cls x y g k f (.inr ⟨d,.inl i⟩) l
  .by_cases e:y=b
   .subst e;subst i;rcases Int.lt_or_le (nth out y) 0 with m|m
    .exact absurd ⟨d,m,l⟩ q
    .exact m
   .exact h.cls x y g k f (.inr ⟨d,.inr ⟨i,by omega⟩⟩) l
theorem jBO {J:Nat->Nat->Bool} {n s r a:Nat} {out:List Int} (c:s<n) (b:a<n) (h:jwl J n s r a 0 out):∀k,k<=n->jwl J n s r a k (U.kC J r a out k)
 |0,_=>h
 |k+1,hk=>by
  have:=jyM c b (show k<n by omega) (jBO c b h k (by omega))
  unfold U.kC at this⊢
  rw[jF5,jFX];exact this
theorem jC4 {J:Nat->Nat->Bool} {n s r a:Nat} {out:List Int} (k:0<n) (h:jwl J n s r a n out):jwl J n s r (a+1) 0 out:=by
 refine⟨h.len,h.val,fun e=>by omega,h.zero,h.rch,h.lev,fun x y i c d b g=>h.cls x y i c d ?_ g⟩;rcases b with b|⟨b,f|⟨f,j⟩⟩
 .exact .inl b
 .by_cases e:x=a
  .exact .inr ⟨b,.inr ⟨e,c⟩⟩
  .exact .inr ⟨b,.inl (by omega)⟩
 .omega
theorem jBP {J:Nat->Nat->Bool} {n s r:Nat} {out:List Int} (a:s<n) (h:jwl J n s r 0 0 out):∀k,k<=n->jwl J n s r k 0 (U.kd J n r out k)
 |0,_=>h
 |k+1,hk=>by
  have:=jC4 (by omega) (jBO a (show k<n by omega) (jBP a h k (by omega)) n (jFE _))
  unfold U.kd at this⊢
  rw[jF5,jFX];exact this
theorem jC3 {J:Nat->Nat->Bool} {n s r:Nat} {out:List Int} (h:jwl J n s r n 0 out):jwl J n s (r+1) 0 0 out:=by
 refine⟨h.len,fun x a=> ?_,fun _ x a=> ?_,h.zero,h.rch,h.lev,fun x y a j f b i=>h.cls x y a j f ?_ i⟩
 .rcases h.val x a with e|⟨c,d⟩
  .exact .inl e
  .exact .inr ⟨c,by omega⟩
 .rcases h.val x a with e|⟨c,d⟩<;>omega
 .rcases b with b|⟨b,g|⟨g,k⟩⟩
  .by_cases e:nth out x=(r:Int)
   .exact .inr ⟨e,.inl a⟩
   .exact .inl (by omega)
  .omega
  .omega
theorem jBN {J:Nat->Nat->Bool} {n s:Nat} (c:s<n):∀k,jwl J n s k 0 0 (U.ze J n s k)
 |0=>by
  have hi:∀x,x<n->nth (U.ze J n s 0) x=if s=x then 0 else-1:=fun x a=>jjQ c a
  refine⟨jd0 n s,fun x a=> ?_,fun _ x a=> ?_,by rw[hi s c,if_pos rfl];omega,fun x a b=> ?_,fun x a b=> ?_,fun x y a g b f d=> ?_⟩
  .rw[hi x a];split<;>simp
  .rw[hi x a];split<;>simp
  .rw[hi x a] at b
   split at b
   .rename_i e;subst e;exact .base
   .omega
  .rw[hi x a] at b;split at b<;>omega
  .omega
 |k+1=>by
  have:=jC3 (jBP c (jBN (J:=J) c k) n (jFE _))
  unfold U.ze at this⊢
  rw[jF5,jFX];exact this
theorem jx7 {J:Nat->Nat->Bool} {n s r a b:Nat} {out:List Int} (h:jwl J n s r a b out):∀(k:Nat) x,x<n->nth out x=(k:Int)->∀j,j<=k->∃y,y<n/\nth out y=(j:Int)
 |0,x,c,e,j,f=>⟨x,c,by rw[e];omega⟩
 |k+1,x,c,e,j,f=>by
  by_cases g:j=k+1
  .exact⟨x,c,by rw[e];omega⟩
  .obtain⟨y,i,d⟩:=h.lev x c (by omega)
   exact jx7 h k y i (by rw[d];omega) j (by omega)
theorem jEo {J:Nat->Nat->Bool} {n s x:Nat} (o:s<n) (u:x<n):nth (U.ze J n s n) x<0↔¬Rch J n s x:=by
 have h:=jBN (J:=J) o n;have i:∀y,y<n->nth (U.ze J n s n) y<(n:Int):=by
  intro y p;have c:=h.top ⟨rfl,rfl⟩ y p;rcases Int.lt_or_le (nth (U.ze J n s n) y) (n:Int) with l|l
  .exact l
  .exfalso;have e:nth (U.ze J n s n) y=(n:Int):=(by omega);have d:=jx7 h n y p e;have:=L.nodup_len ((List.range (n+1)).map (fun(j:Nat)=>(j:Int))) (U.ze J n s n) (List.Pairwise.map _ (fun a b f=>by intro A;exact f (by omega)) List.nodup_range) (fun z v=>by
    obtain⟨j,g,rfl⟩:=jGc.1 v;obtain⟨w,t,q⟩:=d j (by have:=jFP.1 g;omega);rw[<-q];exact L.mem_nth (by rw[h.len];exact t))
   rw[h.len] at this;simp at this;omega
 constructor
 .intro B k;have:=k.closed (S:=fun y=>0<=nth (U.ze J n s n) y) o h.zero (fun a b m c r g=>h.cls a b m r c (.inl (i a m)) g);have this:0<=nth (U.ze J n s n) x:=this;omega
 .intro k;rcases Int.lt_or_le (nth (U.ze J n s n) x) 0 with c|c
  .exact c
  .exact absurd (h.rch x u c) k
def jpm (out:List Int):Nat:=out.countP (fun z=>decide (z<0))
theorem jm6:∀{out:List Int} {b:Nat} {v:Int},b<out.length->nth out b<0->0<=v->jpm (out.set b v)+1=jpm out
 |[],b,v,h,_,_=>by simp at h
 |z::r,0,v,_,a,h2=>by
  have a:z<0:=a
  unfold jpm
  rw[List.set_cons_zero,jG0,jG0,if_neg (by simpa using h2),if_pos (by simpa using a)]
 |z::r,b+1,v,h,a,h2=>by
  have:=jm6 (out:=r) (b:=b) (v:=v) (by simpa using h) a h2
  unfold jpm at this⊢
  rw[List.set_cons_succ,jG0,jG0]
  omega
structure jFi (J:Nat->Nat->Bool) (n s:Nat) (ex:Nat->Nat->Prop) (x:List Int×List Int):Prop where
 len:x.1.length=n
 low:∀y,y<n->-1<=nth x.1 y/\nth x.1 y<=(n:Int)*2
 zero:0<=nth x.1 s
 rch:∀y,y<n->0<=nth x.1 y->Rch J n s y
 que:∀q,q∈x.2->0<=q/\q<(n:Int)/\0<=nth x.1 q.toNat
 cls:∀y z,y<n->z<n->0<=nth x.1 y->(y:Int)∉x.2\/ex y z->J y z=true->0<=nth x.1 z
def jqU (n:Nat) (x:List Int×List Int):Prop:=∀y,y<n->nth x.1 y+(jpm x.1:Int)<=(n:Int)-1
theorem jl2 (J:Nat->Nat->Bool) (q:Nat) (x:List Int×List Int) (k:Nat):U.jfF J q x (k+1)=U.jfE J q (U.jfF J q x k) k:=by
 unfold U.jfF;rw[jF5,jFX];rfl
structure InI (J:Nat->Nat->Bool) (n s q k:Nat) (x0 x:List Int×List Int):Prop where
 i:jFi J n s (fun y z=>y=q/\z<k) x
 le:jqU n x
 mu:jpm x.1+x.2.length=jpm x0.1+x0.2.length
 pre:∃l,x.2=x0.2++l
 keep:∀y,y<n->0<=nth x0.1 y->nth x.1 y=nth x0.1 y
theorem jCU {J:Nat->Nat->Bool} {n s q k:Nat} {x0 x:List Int×List Int} (M:s<n) (p:q<n) (w:0<=nth x0.1 q) (hk:k<n) (h:InI J n s q k x0 x):InI J n s q (k+1) x0 (U.jfE J q x k):=by
 have G:nth x.1 q=nth x0.1 q:=h.keep q p w;unfold U.jfE
 split
 .rename_i t;obtain⟨c1,c2⟩:=t;have m:k<x.1.length:=(by rw[h.i.len];exact hk);have b:∀j,nth (x.1.set k (nth x.1 q+1)) j=if k=j then nth x.1 q+1 else nth x.1 j:=fun j=>L.nth_set m
  have E:=jm6 (v:=nth x.1 q+1) m c1 (by omega);have F:=h.le q p;have u:k≠q:=fun e=>by subst e;omega
  obtain⟨l,C⟩:=h.pre;refine⟨⟨by simpa using h.i.len,fun y d=> ?_,?_,fun y d c=> ?_,fun z f=> ?_,fun y z d f c a g=> ?_⟩,fun y d=> ?_,?_,⟨l++[(k:Int)],by simp only[C,jFU]⟩,fun y d c=> ?_⟩
  .simp only;rw[b];split
   .have:=h.i.low q p;omega
   .exact h.i.low y d
  .simp only;rw[b];split
   .omega
   .exact h.i.zero
  .simp only at c⊢;rw[b] at c
   split at c
   .rename_i e;subst e;exact .step (h.i.rch q p (by omega)) hk c2
   .exact h.i.rch y d c
  .simp only at f⊢;rcases jFL.1 f with f|f
   .obtain⟨H,I,K⟩:=h.i.que z f;refine⟨H,I,?_⟩;rw[b];split
    .omega
    .exact K
   .simp at f;subst f;refine⟨by omega,by omega,?_⟩;rw[jFJ,b,if_pos rfl];omega
  .simp only at c a⊢;rw[b] at c⊢
   split
   .omega
   .rename_i B;by_cases e:k=y
    .subst e;rcases a with a|⟨a,_⟩
     .exact absurd (jFA _ (by simp)) a
     .exact absurd a u
    .rw[if_neg e] at c;refine h.i.cls y z d f c ?_ g;rcases a with a|⟨o,A⟩
     .exact .inl (fun D=>a (jFB _ D))
     .exact .inr ⟨o,by omega⟩
  .simp only;rw[b];split
   .omega
   .have:=h.le y d;omega
  .have:=h.mu;simp only[jFY,jGe,jGr];omega
  .have:=h.keep y d c;simp only;rw[b,if_neg (fun e=>by subst e;omega)];exact this
 .rename_i t;refine⟨⟨h.i.len,h.i.low,h.i.zero,h.i.rch,h.i.que,fun y z d f c a g=> ?_⟩,h.le,h.mu,h.pre,h.keep⟩;rcases a with a|⟨o,A⟩
  .exact h.i.cls y z d f c (.inl a) g
  .by_cases e:z=k
   .subst e;subst o;rcases Int.lt_or_le (nth x.1 z) 0 with r|r
    .exact absurd ⟨r,g⟩ t
    .exact r
   .exact h.i.cls y z d f c (.inr ⟨o,by omega⟩) g
theorem jym {J:Nat->Nat->Bool} {n s q:Nat} {x:List Int×List Int} (e:s<n) (d:q<n) (b:0<=nth x.1 q) (hi:jFi J n s (fun _ _=>False) x) (a:jqU n x):∀k,k<=n->InI J n s q k x (U.jfF J q x k)
 |0,_=>⟨⟨hi.len,hi.low,hi.zero,hi.rch,hi.que,fun y z i j f c g=>hi.cls y z i j f (by rcases c with h|⟨_,h⟩;exact .inl h;omega) g⟩,a,rfl,⟨[],by simp[U.jfF]⟩,fun _ _ _=>rfl⟩
 |k+1,hk=>by rw[jl2];exact jCU e d b (by omega) (jym e d b hi a k (by omega))
structure jDO (J:Nat->Nat->Bool) (n s:Nat) (x:List Int×List Int):Prop where
 i:jFi J n s (fun _ _=>False) x
 le:jqU n x
theorem jz4 {J:Nat->Nat->Bool} {n s:Nat} {x:List Int×List Int} (m:s<n) (h:jDO J n s x):jDO J n s (U.w6 J n x)/\(x.2≠[]->jpm (U.w6 J n x).1+(U.w6 J n x).2.length+1=jpm x.1+x.2.length):=by
 obtain⟨st,p⟩:=x;cases p with
 |nil=>exact⟨h,fun h=>absurd rfl h⟩
 |cons q r=>
  obtain⟨t,u,o⟩:=h.i.que q (by simp);have hi:=jym m (q:=q.toNat) (by omega) o h.i h.le n (jFE _);obtain⟨l,d⟩:=hi.pre;have f:(U.w6 J n (st,q::r))=((U.jfF J q.toNat (st,q::r) n).1,r++l):=by
   show((U.jfF J q.toNat (st,q::r) n).1,(U.jfF J q.toNat (st,q::r) n).2.drop 1)=_;rw[d];rfl
  rw[f];have b:=hi.mu;rw[d] at b;refine⟨⟨⟨hi.i.len,hi.i.low,hi.i.zero,hi.i.rch,fun z c=>hi.i.que z (by rw[d];simp only at c⊢;exact jFI _ c),fun y z k c g a j=> ?_⟩,hi.le⟩,fun _=> ?_⟩
  .rcases a with a|a
   .by_cases e:y=q.toNat
    .exact hi.i.cls y z k c g (.inr ⟨e,c⟩) j
    .refine hi.i.cls y z k c g (.inl ?_) j;rw[d];intro b;rcases jFC.1 b with f|b
     .omega
     .exact a b
   .exact a.elim
  .simp only[jF4,jGe] at b⊢;omega
theorem jte {J:Nat->Nat->Bool} {n s:Nat} (f:s<n):jDO J n s (U.qk J n s 0)/\jpm (U.qk J n s 0).1+(U.qk J n s 0).2.length=n:=by
 have hi:∀x,x<n->nth (U.kY n s) x=if s=x then 0 else-1:=fun x i=>jjQ f i
 have h:jpm (U.kY n s)+1=n:=by
  have:=jm6 (out:=List.replicate n (-1:Int)) (b:=s) (v:=0) (by simpa using f) (by rw[L.nth_rep f];decide) (by decide);unfold U.kY;rw[this];unfold jpm;rw[List.countP_replicate];simp
 refine⟨⟨⟨jd0 n s,fun y d=> ?_,?_,fun y d c=> ?_,fun q g=> ?_,fun y z d k c a j=> ?_⟩,fun y d=> ?_⟩,?_⟩
 .show-1<=nth (U.kY n s) y/\_;rw[show nth (U.qk J n s 0).1 y=_ from hi y d,hi y d];split<;>omega
 .show 0<=nth (U.kY n s) s;rw[hi s f,if_pos rfl];omega
 .have c:0<=nth (U.kY n s) y:=c;rw[hi y d] at c
  split at c
  .rename_i e;subst e;exact .base
  .omega
 .have g:q∈[(s:Int)]:=g;simp at g;subst g;refine⟨by omega,by omega,?_⟩;show 0<=nth (U.kY n s) (s:Int).toNat;rw[jFJ,hi s f,if_pos rfl];omega
 .have c:0<=nth (U.kY n s) y:=c;rw[hi y d] at c
  split at c
  .rename_i e;subst e;rcases a with a|a
   .exact absurd (show(s:Int)∈[(s:Int)] by simp) a
   .exact a.elim
  .omega
 .show nth (U.kY n s) y+(jpm (U.kY n s):Int)<=(n:Int)-1;rw[hi y d];split<;>omega
 .show jpm (U.kY n s)+1=n;exact h
theorem jiM {J:Nat->Nat->Bool} {n s:Nat} (b:s<n):∀k,jDO J n s (U.qk J n s k)/\((U.qk J n s k).2=[]\/jpm (U.qk J n s k).1+(U.qk J n s k).2.length+k=n)
 |0=>⟨(jte b).1,.inr (jte b).2⟩
 |k+1=>by
  obtain⟨d,a⟩:=jiM b k
  obtain⟨f,g⟩:=jz4 b d
  refine⟨f,?_⟩
  by_cases e:(U.qk J n s k).2=[]
  .left
   show(U.w6 J n (U.qk J n s k)).2=[]
   unfold U.w6
   split
   .exact e
   .rename_i c;rw[e] at c;cases c
  .right
   have:=g e
   rcases a with a|a
   .exact absurd a e
   .show jpm (U.w6 J n (U.qk J n s k)).1+(U.w6 J n (U.qk J n s k)).2.length+(k+1)=n
    omega
theorem jDp {J:Nat->Nat->Bool} {n s:Nat} (a:s<n):(U.qk J n s (n+1)).2=[]:=by
 rcases(jiM (J:=J) a (n+1)).2 with h|h
 .exact h
 .omega
theorem jBf {J:Nat->Nat->Bool} {n s k:Nat} (h:(U.qk J n s k).2=[]):∀m,k<=m->U.qk J n s m=U.qk J n s k:=by
 intro m d
 induction m with
 |zero=>have:k=0:=by omega
        subst this;rfl
 |succ m c=>
  by_cases e:k=m+1
  .rw[e]
  .have b:=c (by omega);show U.w6 J n (U.qk J n s m)=_;rw[b];unfold U.w6
   split
   .rfl
   .rename_i a;rw[h] at a;cases a
theorem jEC {J:Nat->Nat->Bool} {n s x:Nat} (e:s<n) (l:x<n):nth (U.jED J n s) x<0↔¬Rch J n s x:=by
 have h:=(jiM (J:=J) e (n+1)).1;have j:=jDp (J:=J) e;constructor
 .intro m d;have:=d.closed (S:=fun y=>0<=nth (U.jED J n s) y) e h.i.zero (fun a b f c g k=>h.i.cls a b f g c (.inl (by rw[j];simp)) k);have this:0<=nth (U.jED J n s) x:=this;omega
 .intro d;rcases Int.lt_or_le (nth (U.jED J n s) x) 0 with c|c
  .exact c
  .exact absurd (h.i.rch x l c) d
theorem jC2 {J:Nat->Nat->Bool} {n a b:Nat} (e:∀x y,J x y=J y x) (c:a<n) (d:b<n):nth (U.ze J n a n) b<0↔nth (U.jED J n b) a<0:=by
 rw[jEo c d,jEC d c];exact not_congr ⟨fun h=>h.symm e c,fun h=>h.symm e d⟩
end Go.X
namespace Go.X
namespace U
def gQ {α:Type} (p:α->Bool) (l:List α):Int:=match l.findIdx? p with|some i=>(i:Int)|none=> -1
def jb {α:Type} (F:α×Unit->Bool×Unit) (g:α):Bool:=(F (g,())).1
end U
def gfb (t:Ty) (σ:St) (s:Nat):(Ty.st [t]).Data->(Ty.st [.bool]).Data:=gfn [t] [.bool] σ s
theorem wM:∀(l:List Prop) {k:Prop},U.jB l->k->asks l k
 |[],_,_,hk=>hk
 |_::r,_,h,hk=>⟨h.1,wM r h.2 hk⟩
theorem wS {α:Type} [Inhabited α] {l:List α} {p:α->Bool} {i:Nat} (h:i<l.length) (a:∀b:Nat,b<i->p (nth l b)=false) (c:p (nth l i)=true):U.gQ p l=i:=by
 have:l.findIdx? p=some i:=by
  rw[List.findIdx?_eq_some_iff_getElem];refine⟨h,by rw[<-L.nth_lt h];exact c,fun j d=> ?_⟩;have:=a j d;rw[L.nth_lt (by omega)] at this;simp[this]
 unfold U.gQ;rw[this]
theorem kG {α:Type} [Inhabited α] {l:List α} {p:α->Bool} {i:Nat} (h:l.length<=i) (a:∀b:Nat,b<i->p (nth l b)=false):U.gQ p l= -1:=by
 have:l.findIdx? p=none:=by
  rw[List.findIdx?_eq_none_iff];intro x c;obtain⟨k,hk,rfl⟩:=L.mem_iff.1 c;exact a k (by omega)
 unfold U.gQ;rw[this]
theorem jbS {α:Type} (p:α->Bool) (l:List α):decide (0<=U.gQ p l)=l.any p:=by
 rw[jF6];unfold U.gQ;simp only[decide_eq_true_eq]
 split
 .rename_i i e;rw[List.findIdx?_eq_some_iff_getElem] at e;obtain⟨h,a,_⟩:=e;exact⟨fun _=>jGk.2 ⟨_,List.getElem_mem h,a⟩,fun _=>by omega⟩
 .rename_i e;rw[List.findIdx?_eq_none_iff] at e;refine⟨fun h=>by omega,fun h=> ?_⟩;obtain⟨x,b,a⟩:=jGk.1 h;have:=e x b;exact absurd (a.symm.trans this) (by simp)
theorem jjb {α:Type} (F:α×Unit->Bool×Unit) (l:List α):(!l.any (U.jb fun(x:α×Unit)=>(!U.jb F x.fst,())))=l.all (U.jb F):=by
 induction l with
 |nil=>rfl
 |cons a r b=>
  simp only[List.any_cons,List.all_cons,Bool.not_or,b];have:(!U.jb (fun(x:α×Unit)=>(!U.jb F x.fst,())) a)=U.jb F a:=by
   show(!(!U.jb F a))=_;rw[Bool.not_not]
  rw[this]
end Go.X
namespace Go.X
open Go.Proofs
namespace U
def jfj (s n:Int):Bool:=decide (ww (s/2^n.toNat) 1=1)
def jDK (b:Bool):Int:=if b=true then 1 else 0
def jpj (c:CrD) (f g:Int->Bool) (p:PeD):Bool:=((((((decide (((lv p).length:Int)=la c)&&(lv p).all f)&&ja (fd p) 0 255)&&ja (cl p) 0 255)&&decide (((zw p).length:Int)<=10))&&(zw p).all g)&&ja (fe p) 0 1000)
end U
def jq1:jQ:=⟨[.val .int,.val .int,.val .int],[.bool],false,fun _=>[],fun d=>(U.ja d.1 d.2.1 d.2.2.1,())⟩
def jqD:Prop:=∀(d:Int×Int×Int×Unit),(decide (d.2.1<=d.1)&&decide (d.1<=d.2.2.1),())=(U.ja d.1 d.2.1 d.2.2.1,())
def jbl:jQ:=⟨[.val (.uint .u64),.val .int],[.bool],false,fun d=>[0<=d.2.1,d.2.1<=64],fun d=>(U.jfj d.1 d.2.1,())⟩
def jnX:Prop:=∀(d:Int×Int×Unit),0<=d.2.1->d.2.1<=64->0<=d.2.1/\d.2.1<=64/\(decide (ww (d.1/(2:Int)^d.2.1.toNat) (1:Int)=1),())=(U.jfj d.1 d.2.1,())
def wo:jQ:=⟨[.val (.uint .u64)],[.int],false,fun d=>[BT.Set' d.1],fun d=>(BT.size d.1,())⟩
def jnK:Ann:=fun r=>match r with
 |1=>some fun σ=>{X:=Int×Int,sl:=fun x=>[(0,.dat (.uint .u64) x.1),(2,.dat .int x.2)],ob:=fun _=>[],inv:=fun x=>BT.Set' x.1/\x.2+BT.size x.1=BT.size (gd (.uint .u64) σ 0),mu:=fun x=>x.1.toNat}
 |_=>none
def jmf:Prop:=∀(d:Int×Unit),BT.Set' d.1->(∃(x:Int×Int),((d.1=x.1/\0=x.2/\True)/\True)/\BT.Set' x.1/\x.2+BT.size x.1=BT.size d.1)/\∀(x:Int×Int),BT.Set' x.1/\x.2+BT.size x.1=BT.size d.1->(decide (x.1≠0)=true->jz (x.2+1)/\0<=x.1-1/\x.1-1<=18446744073709551615/\∃(a:Int×Int),((ww x.1 (x.1-1)=a.1/\x.2+1=a.2/\True)/\True)/\(BT.Set' a.1/\a.2+BT.size a.1=BT.size d.1)/\a.1.toNat<x.1.toNat)/\(decide (x.1≠0)=false->(x.2,())=(BT.size d.1,()))
def juw:jQ:=⟨[.val .bool],[.int],false,fun _=>[],fun d=>(U.jDK d.1,())⟩
def juc:Prop:=∀(d:Bool×Unit),(d.1=true->((1:Int),())=(U.jDK d.1,()))/\(d.1=false->((0:Int),())=(U.jDK d.1,()))
def jds:jQ:=⟨[.val (.slice .int),.fn [.int] [.bool]],[.int],false,fun d=>[∀g∈d.1,U.jB (d.2.1.pre (g,()))],fun d=>(U.gQ (U.jb (α:=Int) d.2.1.F) d.1,())⟩
def jee:Ann:=fun r=>match r with
 |2=>some fun σ=>{X:=Nat,sl:=fun i=>[(8,.dat .int (i:Int))],ob:=fun _=>[],inv:=fun i=>i<=(gd (.slice .int) σ 0).length/\∀b:Nat,b<i->U.jb (gfb .int σ 1) (nth (gd (.slice .int) σ 0) b)=false,mu:=fun i=>(gd (.slice .int) σ 0).length-i}
 |_=>none
def jdj:Prop:=∀(d:List Int×FnD [Ty.int] [Ty.bool]×Unit),(∀(g:Int),g∈d.1->U.jB (d.2.1.1 (g,())))->d.1.length<4611686018427387904->(∃(x:Nat),((0=(x:Int)/\True)/\True)/\x<=d.1.length/\∀(b:Nat),b<x->U.jb d.2.1.2 (nth d.1 b)=false)/\∀(x:Nat),(x<=d.1.length/\∀(b:Nat),b<x->U.jb d.2.1.2 (nth d.1 b)=false)->(decide ((x:Int)<(d.1.length:Int))=true->0<=(x:Int)/\(x:Int)<(d.1.length:Int)/\asks (d.2.1.1 (nth d.1 (x:Int).toNat,())) (((d.2.1.2 (nth d.1 (x:Int).toNat,())).1=true->((x:Int),())=(U.gQ (U.jb d.2.1.2) d.1,()))/\((d.2.1.2 (nth d.1 (x:Int).toNat,())).1=false->jz ((x:Int)+1)/\∃(a:Nat),(((x:Int)+1=(a:Int)/\True)/\True)/\(a<=d.1.length/\∀(b:Nat),b<a->U.jb d.2.1.2 (nth d.1 b)=false)/\d.1.length-a<d.1.length-x)))/\(decide ((x:Int)<(d.1.length:Int))=false->((-1:Int),())=(U.gQ (U.jb d.2.1.2) d.1,()))
def ja0:jQ:=⟨[.val (.slice .int),.fn [.int] [.bool]],[.bool],false,fun d=>[∀g∈d.1,U.jB (d.2.1.pre (g,()))],fun d=>(d.1.any (U.jb (α:=Int) d.2.1.F),())⟩
def jaW:Prop:=∀(d:List Int×FnD [Ty.int] [Ty.bool]×Unit),(∀(g:Int),g∈d.1->U.jB (d.2.1.1 (g,())))->(∀(g:Int),g∈d.1->U.jB (d.2.1.1 (g,())))/\(decide (0<=U.gQ (U.jb d.2.1.2) d.1),())=(d.1.any (U.jb d.2.1.2),())
def jdt:jQ:=⟨[.val (.slice tLw),.fn [tLw] [.bool]],[.int],false,fun d=>[∀g∈d.1,U.jB (d.2.1.pre (g,()))],fun d=>(U.gQ (U.jb (α:=LwD) d.2.1.F) d.1,())⟩
def jef:Ann:=fun r=>match r with
 |2=>some fun σ=>{X:=Nat,sl:=fun i=>[(8,.dat .int (i:Int))],ob:=fun _=>[],inv:=fun i=>i<=(gd (.slice tLw) σ 0).length/\∀b:Nat,b<i->U.jb (gfb tLw σ 1) (nth (gd (.slice tLw) σ 0) b)=false,mu:=fun i=>(gd (.slice tLw) σ 0).length-i}
 |_=>none
def jdk:Prop:=∀(d:List LwD×FnD [tLw] [Ty.bool]×Unit),(∀(g:LwD),g∈d.1->U.jB (d.2.1.1 (g,())))->d.1.length<4611686018427387904->(∃(x:Nat),((0=(x:Int)/\True)/\True)/\x<=d.1.length/\∀(b:Nat),b<x->U.jb d.2.1.2 (nth d.1 b)=false)/\∀(x:Nat),(x<=d.1.length/\∀(b:Nat),b<x->U.jb d.2.1.2 (nth d.1 b)=false)->(decide ((x:Int)<(d.1.length:Int))=true->0<=(x:Int)/\(x:Int)<(d.1.length:Int)/\asks (d.2.1.1 (nth d.1 (x:Int).toNat,())) (((d.2.1.2 (nth d.1 (x:Int).toNat,())).1=true->((x:Int),())=(U.gQ (U.jb d.2.1.2) d.1,()))/\((d.2.1.2 (nth d.1 (x:Int).toNat,())).1=false->jz ((x:Int)+1)/\∃(a:Nat),(((x:Int)+1=(a:Int)/\True)/\True)/\(a<=d.1.length/\∀(b:Nat),b<a->U.jb d.2.1.2 (nth d.1 b)=false)/\d.1.length-a<d.1.length-x)))/\(decide ((x:Int)<(d.1.length:Int))=false->((-1:Int),())=(U.gQ (U.jb d.2.1.2) d.1,()))
def ja1:jQ:=⟨[.val (.slice tLw),.fn [tLw] [.bool]],[.bool],false,fun d=>[∀g∈d.1,U.jB (d.2.1.pre (g,()))],fun d=>(d.1.any (U.jb (α:=LwD) d.2.1.F),())⟩
def jaX:Prop:=∀(d:List LwD×FnD [tLw] [Ty.bool]×Unit),(∀(g:LwD),g∈d.1->U.jB (d.2.1.1 (g,())))->(∀(g:LwD),g∈d.1->U.jB (d.2.1.1 (g,())))/\(decide (0<=U.gQ (U.jb d.2.1.2) d.1),())=(d.1.any (U.jb d.2.1.2),())
def jaZ:jQ:=⟨[.val (.slice tPe),.fn [tPe] [.bool]],[.int],false,fun d=>[∀g∈d.1,U.jB (d.2.1.pre (g,()))],fun d=>(U.gQ (U.jb (α:=PeD) d.2.1.F) d.1,())⟩
def ja9:Ann:=fun r=>match r with
 |2=>some fun σ=>{X:=Nat,sl:=fun i=>[(8,.dat .int (i:Int))],ob:=fun _=>[],inv:=fun i=>i<=(gd (.slice tPe) σ 0).length/\∀b:Nat,b<i->U.jb (gfb tPe σ 1) (nth (gd (.slice tPe) σ 0) b)=false,mu:=fun i=>(gd (.slice tPe) σ 0).length-i}
 |_=>none
def jaV:Prop:=∀(d:List PeD×FnD [tPe] [Ty.bool]×Unit),(∀(g:PeD),g∈d.1->U.jB (d.2.1.1 (g,())))->d.1.length<4611686018427387904->(∃(x:Nat),((0=(x:Int)/\True)/\True)/\x<=d.1.length/\∀(b:Nat),b<x->U.jb d.2.1.2 (nth d.1 b)=false)/\∀(x:Nat),(x<=d.1.length/\∀(b:Nat),b<x->U.jb d.2.1.2 (nth d.1 b)=false)->(decide ((x:Int)<(d.1.length:Int))=true->0<=(x:Int)/\(x:Int)<(d.1.length:Int)/\asks (d.2.1.1 (nth d.1 (x:Int).toNat,())) (((d.2.1.2 (nth d.1 (x:Int).toNat,())).1=true->((x:Int),())=(U.gQ (U.jb d.2.1.2) d.1,()))/\((d.2.1.2 (nth d.1 (x:Int).toNat,())).1=false->jz ((x:Int)+1)/\∃(a:Nat),(((x:Int)+1=(a:Int)/\True)/\True)/\(a<=d.1.length/\∀(b:Nat),b<a->U.jb d.2.1.2 (nth d.1 b)=false)/\d.1.length-a<d.1.length-x)))/\(decide ((x:Int)<(d.1.length:Int))=false->((-1:Int),())=(U.gQ (U.jb d.2.1.2) d.1,()))
def yC:jQ:=⟨[.val (.slice tPe),.fn [tPe] [.bool]],[.bool],false,fun d=>[∀g∈d.1,U.jB (d.2.1.pre (g,()))],fun d=>(d.1.any (U.jb (α:=PeD) d.2.1.F),())⟩
def yz:Prop:=∀(d:List PeD×FnD [tPe] [Ty.bool]×Unit),(∀(g:PeD),g∈d.1->U.jB (d.2.1.1 (g,())))->(∀(g:PeD),g∈d.1->U.jB (d.2.1.1 (g,())))/\(decide (0<=U.gQ (U.jb d.2.1.2) d.1),())=(d.1.any (U.jb d.2.1.2),())
def jhn:jQ:=⟨[.val .int,.rfn [.int] [.bool]],[.bool],false,fun d=>[U.jB (d.2.1.pre (d.1,()))],fun d=>(!(U.jb (α:=Int) d.2.1.F d.1),())⟩
def jhe:Prop:=∀(d:Int×FnD [Ty.int] [Ty.bool]×Unit),U.jB (d.2.1.1 (d.1,()))->asks (d.2.1.1 (d.1,())) ((!(d.2.1.2 (d.1,())).1,())=(!U.jb d.2.1.2 d.1,()))
def jky:jQ:=⟨[.val (.slice .int),.fn [.int] [.bool]],[.bool],false,fun d=>[∀g∈d.1,U.jB (d.2.1.pre (g,()))],fun d=>(d.1.all (U.jb (α:=Int) d.2.1.F),())⟩
def jko:Prop:=∀(d:List Int×FnD [Ty.int] [Ty.bool]×Unit),(∀(g:Int),g∈d.1->U.jB (d.2.1.1 (g,())))->(∀(g:Int),g∈d.1->U.jB [U.jB (d.2.1.1 (g,()))])/\(!d.1.any (U.jb fun(a:Int×Unit)=>(!U.jb d.2.1.2 a.1,())),())=(d.1.all (U.jb d.2.1.2),())
def jho:jQ:=⟨[.val tLw,.rfn [tLw] [.bool]],[.bool],false,fun d=>[U.jB (d.2.1.pre (d.1,()))],fun d=>(!(U.jb (α:=LwD) d.2.1.F d.1),())⟩
def jhf:Prop:=∀(d:LwD×FnD [tLw] [Ty.bool]×Unit),U.jB (d.2.1.1 (d.1,()))->asks (d.2.1.1 (d.1,())) ((!(d.2.1.2 (d.1,())).1,())=(!U.jb d.2.1.2 d.1,()))
def jkz:jQ:=⟨[.val (.slice tLw),.fn [tLw] [.bool]],[.bool],false,fun d=>[∀g∈d.1,U.jB (d.2.1.pre (g,()))],fun d=>(d.1.all (U.jb (α:=LwD) d.2.1.F),())⟩
def jkp:Prop:=∀(d:List LwD×FnD [tLw] [Ty.bool]×Unit),(∀(g:LwD),g∈d.1->U.jB (d.2.1.1 (g,())))->(∀(g:LwD),g∈d.1->U.jB [U.jB (d.2.1.1 (g,()))])/\(!d.1.any (U.jb fun(a:LwD×Unit)=>(!U.jb d.2.1.2 a.1,())),())=(d.1.all (U.jb d.2.1.2),())
def jdr:jQ:=⟨[.val tPe,.rfn [tPe] [.bool]],[.bool],false,fun d=>[U.jB (d.2.1.pre (d.1,()))],fun d=>(!(U.jb (α:=PeD) d.2.1.F d.1),())⟩
def jdh:Prop:=∀(d:PeD×FnD [tPe] [Ty.bool]×Unit),U.jB (d.2.1.1 (d.1,()))->asks (d.2.1.1 (d.1,())) ((!(d.2.1.2 (d.1,())).1,())=(!U.jb d.2.1.2 d.1,()))
def jfX:jQ:=⟨[.val (.slice tPe),.fn [tPe] [.bool]],[.bool],false,fun d=>[∀g∈d.1,U.jB (d.2.1.pre (g,()))],fun d=>(d.1.all (U.jb (α:=PeD) d.2.1.F),())⟩
def jfQ:Prop:=∀(d:List PeD×FnD [tPe] [Ty.bool]×Unit),(∀(g:PeD),g∈d.1->U.jB (d.2.1.1 (g,())))->(∀(g:PeD),g∈d.1->U.jB [U.jB (d.2.1.1 (g,()))])/\(!d.1.any (U.jb fun(a:PeD×Unit)=>(!U.jb d.2.1.2 a.1,())),())=(d.1.all (U.jb d.2.1.2),())
def jop:jQ:=⟨[.val .int],[.bool],false,fun _=>[],fun d=>(U.ja d.1 0 5,())⟩
def jn2:Prop:=∀(d:Int×Unit),(U.ja d.1 (0:Int) (5:Int),())=(U.ja d.1 (0:Int) (5:Int),())
def joo:jQ:=⟨[.val .int],[.bool],false,fun _=>[],fun d=>(U.ja d.1 0 99,())⟩
def jn1:Prop:=∀(d:Int×Unit),(U.ja d.1 (0:Int) (99:Int),())=(U.ja d.1 (0:Int) (99:Int),())
def jon:jQ:=⟨[.val tPe,.ref tCr,.rfn [.int] [.bool],.rfn [.int] [.bool]],[.bool],false,fun d=>[∀g∈U.lv d.1,U.jB (d.2.2.1.pre (g,())),∀g∈U.zw d.1,U.jB (d.2.2.2.1.pre (g,()))],fun d=>(U.jpj d.2.1 (U.jb d.2.2.1.F) (U.jb d.2.2.2.1.F) d.1,())⟩
def jn0:Prop:=∀(d:PeD×CrD×FnD [Ty.int] [Ty.bool]×FnD [Ty.int] [Ty.bool]×Unit),(∀(g:Int),g∈U.lv d.1->U.jB (d.2.2.1.1 (g,())))->(∀(g:Int),g∈U.zw d.1->U.jB (d.2.2.2.1.1 (g,())))->d.1.1.length<4611686018427387904->(decide ((d.1.1.length:Int)=d.2.1.1)=true->∀(g:Int),g∈d.1.1->U.jB (d.2.2.1.1 (g,())))/\(((decide ((d.1.1.length:Int)=d.2.1.1)&&d.1.1.all (U.jb d.2.2.1.2)&&U.ja d.1.2.1 (0:Int) (255:Int)&&U.ja d.1.2.2.1 (0:Int) (255:Int))=true->d.1.2.2.2.1.length<4611686018427387904)->((decide ((d.1.1.length:Int)=d.2.1.1)&&d.1.1.all (U.jb d.2.2.1.2)&&U.ja d.1.2.1 (0:Int) (255:Int)&&U.ja d.1.2.2.1 (0:Int) (255:Int)&&decide ((d.1.2.2.2.1.length:Int)<=10))=true->∀(g:Int),g∈d.1.2.2.2.1->U.jB (d.2.2.2.1.1 (g,())))/\(decide ((d.1.1.length:Int)=d.2.1.1)&&d.1.1.all (U.jb d.2.2.1.2)&&U.ja d.1.2.1 (0:Int) (255:Int)&&U.ja d.1.2.2.1 (0:Int) (255:Int)&&decide ((d.1.2.2.2.1.length:Int)<=10)&&d.1.2.2.2.1.all (U.jb d.2.2.2.1.2)&&U.ja d.1.2.2.2.2.2.1 (0:Int) (1000:Int),())=(U.jpj d.2.1 (U.jb d.2.2.1.2) (U.jb d.2.2.2.1.2) d.1,()))
def jom:jQ:=⟨[.val tLw],[.bool],false,fun _=>[],fun d=>(U.gn d.1,())⟩
def jnZ:Prop:=∀(d:LwD×Unit),(U.ja d.1.1 (1:Int) (5:Int)&&U.ja d.1.2.1 (1:Int) (8:Int),())=(U.gn d.1,())
def jol:jQ:=⟨[.val .int,.ref tCr],[.bool],false,fun d=>[jz (U.la d.2.1-1)],fun d=>(U.ja d.1 0 (U.la d.2.1-1),())⟩
def jnY:Prop:=∀(d:Int×CrD×Unit),jz (U.la d.2.1-1)->jz (d.2.1.1-1)/\(U.ja d.1 (0:Int) (d.2.1.1-1),())=(U.ja d.1 (0:Int) (U.la d.2.1-1),())
def jux:jQ:=⟨[.val tCr,.val tJb],[.int],false,fun _=>[],fun d=>(U.zR d.1 d.2.1,())⟩
abbrev q22_0 (d:CrD×JbD×Unit):=(!U.ja d.2.1.1 (0:Int) (U.la d.1-1)|| !U.ja d.2.1.2.1 (0:Int) (U.la d.1-1)||decide (d.2.1.1=d.2.1.2.1)|| !U.ja d.2.1.2.2.1 (0:Int) (99:Int)|| !U.ja d.2.1.2.2.2.1 (0:Int) (7:Int)|| !U.ja d.2.1.2.2.2.2.1 (0:Int) (3:Int)|| !U.ja d.2.1.2.2.2.2.2.1 (1:Int) (8:Int))
abbrev q22_1 (d:CrD×JbD×Unit):=(8<(d.1.2.1.length:Int))
def jud:Prop:=∀(d:CrD×JbD×Unit),((!!U.ja d.1.1 (2:Int) (5:Int))=true->d.1.2.1.length<4611686018427387904)->((!(!U.ja d.1.1 (2:Int) (5:Int)||decide (q22_1 d)))=true->∀(g:PeD),g∈d.1.2.1->U.jB [∀(b:Int),b∈U.lv g->U.jB [],∀(b:Int),b∈U.zw g->U.jB []])/\(((!(!U.ja d.1.1 (2:Int) (5:Int)||decide (q22_1 d)|| !d.1.2.1.all (U.jb fun(a:PeD×Unit)=>(U.jpj d.1 (U.jb fun(a:Int×Unit)=>(U.ja a.1 (0:Int) (5:Int),())) (U.jb fun(a:Int×Unit)=>(U.ja a.1 (0:Int) (99:Int),())) a.1,()))))=true->d.1.2.2.1.length<4611686018427387904)->((!(!U.ja d.1.1 (2:Int) (5:Int)||decide (q22_1 d)|| !d.1.2.1.all (U.jb fun(c:PeD×Unit)=>(U.jpj d.1 (U.jb fun(c:Int×Unit)=>(U.ja c.1 (0:Int) (5:Int),())) (U.jb fun(c:Int×Unit)=>(U.ja c.1 (0:Int) (99:Int),())) c.1,()))||decide ((d.1.2.2.1.length:Int)≠4)))=true->∀(g:LwD),g∈d.1.2.2.1->U.jB [])/\((!U.ja d.1.1 (2:Int) (5:Int)||decide (q22_1 d)|| !d.1.2.1.all (U.jb fun(e:PeD×Unit)=>(U.jpj d.1 (U.jb fun(e:Int×Unit)=>(U.ja e.1 (0:Int) (5:Int),())) (U.jb fun(e:Int×Unit)=>(U.ja e.1 (0:Int) (99:Int),())) e.1,()))||decide ((d.1.2.2.1.length:Int)≠4)|| !d.1.2.2.1.all (U.jb fun(h:LwD×Unit)=>(U.gn h.1,())))=true->((30:Int),())=(U.zR d.1 d.2.1,()))/\((!U.ja d.1.1 (2:Int) (5:Int)||decide (q22_1 d)|| !d.1.2.1.all (U.jb fun(f:PeD×Unit)=>(U.jpj d.1 (U.jb fun(f:Int×Unit)=>(U.ja f.1 (0:Int) (5:Int),())) (U.jb fun(f:Int×Unit)=>(U.ja f.1 (0:Int) (99:Int),())) f.1,()))||decide ((d.1.2.2.1.length:Int)≠4)|| !d.1.2.2.1.all (U.jb fun(i:LwD×Unit)=>(U.gn i.1,())))=false->jz (U.la d.1-1)/\((!!U.ja d.2.1.1 (0:Int) (U.la d.1-1))=true->jz (U.la d.1-1))/\((q22_0 d)=true->((31:Int),())=(U.zR d.1 d.2.1,()))/\((q22_0 d)=false->((0:Int),())=(U.zR d.1 d.2.1,()))))
end Go.X
namespace Go.X
open Go.Proofs
theorem jvi:jqD:=by
 intro d;rfl
theorem wJ:zc PR 126 jq1:=jR jvi Tryz.func126 kcN koN
theorem jr0:jnX:=by
 intro d a b;exact⟨a,b,rfl⟩
theorem jo3:zc PR 190 jbl:=jR jr0 Tryz.func190 kcN koN
theorem jpA:jmf:=by
 rintro⟨s,⟨⟩⟩ e;refine⟨⟨(s,0),⟨⟨rfl,rfl,trivial⟩,trivial⟩,e,by simp⟩,?_⟩;rintro⟨x,n⟩ ⟨a,b⟩;have a:BT.Set' x:=a;have g:=BT.size_le s;have f:=BT.size_le x;refine⟨fun h=> ?_,fun h=> ?_⟩
 .have h:x≠0:=of_decide_eq_true h;obtain⟨d,i,j⟩:=BT.pred a h;have c:=a;unfold BT.Set' at c;simp only at b⊢;exact⟨L.in64 (by omega) (by omega),by omega,by omega,(ww x (x-1),n+1),⟨⟨rfl,rfl,trivial⟩,trivial⟩,⟨d,(by omega:n+1+BT.size (ww x (x-1))=BT.size s)⟩,(by unfold BT.Set' at d;omega:(ww x (x-1)).toNat<x.toNat)⟩
 .have h:x=0:=(by simpa using h);subst h;simp only[BT.size_zero] at b;simp only at b⊢;rw[show n=BT.size s by omega]
theorem jmX:zc PR 156 wo:=kK jnK jpA Tryz.func156 kcN koN
theorem jyq:juc:=by
 rintro⟨b,⟨⟩⟩;exact⟨fun h=>by simp only at h;subst h;rfl,fun h=>by simp only at h;subst h;rfl⟩
theorem juX:zc PR 153 juw:=jR jyq Tryz.func153 kcN koN
theorem jfn:jdj:=by
 rintro⟨l,f,⟨⟩⟩ a g;refine⟨⟨0,⟨⟨rfl,trivial⟩,trivial⟩,jFM _,fun b c=>by omega⟩,fun i hi=>⟨fun h=> ?_,fun h=> ?_⟩⟩
 .have h:i<l.length:=(by simpa using h);simp only[jFJ] at*;refine⟨by omega,by omega,wM _ (a _ (L.mem_nth h)) ⟨fun c=> ?_,fun c=>⟨L.in64 (by omega) (by omega),i+1,⟨⟨by simp,trivial⟩,trivial⟩,⟨by omega,fun b d=> ?_⟩,by omega⟩⟩⟩
  .rw[wS (p:=U.jb (α:=Int) f.F) h hi.2 c]
  .by_cases e:b=i
   .subst e;exact c
   .exact hi.2 b (by omega)
 .have h:l.length<=i:=(by simpa using h);rw[kG (p:=U.jb (α:=Int) f.F) h hi.2]
theorem jdG:zc PR 158 jds:=kK jee jfn Tryz.func158 kcN koN
theorem jbU:jaW:=by
 rintro⟨l,f,⟨⟩⟩ a;refine⟨a,?_⟩;exact congrArg (·,()) (jbS (U.jb (α:=Int) f.F) l)
theorem qj:zc PR 124 ja0:=jR jbU Tryz.func124 (kcC jdG kcN) koN
theorem jfo:jdk:=by
 rintro⟨l,f,⟨⟩⟩ a g;refine⟨⟨0,⟨⟨rfl,trivial⟩,trivial⟩,jFM _,fun b c=>by omega⟩,fun i hi=>⟨fun h=> ?_,fun h=> ?_⟩⟩
 .have h:i<l.length:=(by simpa using h);simp only[jFJ] at*;refine⟨by omega,by omega,wM _ (a _ (L.mem_nth h)) ⟨fun c=> ?_,fun c=>⟨L.in64 (by omega) (by omega),i+1,⟨⟨by simp,trivial⟩,trivial⟩,⟨by omega,fun b d=> ?_⟩,by omega⟩⟩⟩
  .rw[wS (p:=U.jb (α:=LwD) f.F) h hi.2 c]
  .by_cases e:b=i
   .subst e;exact c
   .exact hi.2 b (by omega)
 .have h:l.length<=i:=(by simpa using h);rw[kG (p:=U.jb (α:=LwD) f.F) h hi.2]
theorem jdH:zc PR 194 jdt:=kK jef jfo Tryz.func194 kcN koN
theorem jbV:jaX:=by
 rintro⟨l,f,⟨⟩⟩ a;refine⟨a,?_⟩;exact congrArg (·,()) (jbS (U.jb (α:=LwD) f.F) l)
theorem ja4:zc PR 162 ja1:=jR jbV Tryz.func162 (kcC jdH kcN) koN
theorem jbT:jaV:=by
 rintro⟨l,f,⟨⟩⟩ a g;refine⟨⟨0,⟨⟨rfl,trivial⟩,trivial⟩,jFM _,fun b c=>by omega⟩,fun i hi=>⟨fun h=> ?_,fun h=> ?_⟩⟩
 .have h:i<l.length:=(by simpa using h);simp only[jFJ] at*;refine⟨by omega,by omega,wM _ (a _ (L.mem_nth h)) ⟨fun c=> ?_,fun c=>⟨L.in64 (by omega) (by omega),i+1,⟨⟨by simp,trivial⟩,trivial⟩,⟨by omega,fun b d=> ?_⟩,by omega⟩⟩⟩
  .rw[wS (p:=U.jb (α:=PeD) f.F) h hi.2 c]
  .by_cases e:b=i
   .subst e;exact c
   .exact hi.2 b (by omega)
 .have h:l.length<=i:=(by simpa using h);rw[kG (p:=U.jb (α:=PeD) f.F) h hi.2]
theorem ja3:zc PR 193 jaZ:=kK ja9 jbT Tryz.func193 kcN koN
theorem gB:yz:=by
 rintro⟨l,f,⟨⟩⟩ a;refine⟨a,?_⟩;exact congrArg (·,()) (jbS (U.jb (α:=PeD) f.F) l)
theorem yH:zc PR 160 yC:=jR gB Tryz.func160 (kcC ja3 kcN) koN
theorem jjy:jhe:=by
 intro d h;exact wM _ h rfl
theorem jhz:zc PR 159 jhn:=jR jjy Tryz.func159 kcN koN
theorem jni:jko:=by
 intro d h;exact⟨fun g a=>⟨h g a,trivial⟩,congrArg (·,()) (jjb d.snd.fst.2 d.fst)⟩
theorem jkK:zc PR 129 jky:=jR jni Tryz.func129 (kcC qj (kcC jhz kcN)) koN
theorem jjz:jhf:=by
 intro d h;exact wM _ h rfl
theorem jhA:zc PR 163 jho:=jR jjz Tryz.func163 kcN koN
theorem jnj:jkp:=by
 intro d h;exact⟨fun g a=>⟨h g a,trivial⟩,congrArg (·,()) (jjb d.snd.fst.2 d.fst)⟩
theorem jkL:zc PR 133 jkz:=jR jnj Tryz.func133 (kcC ja4 (kcC jhA kcN)) koN
theorem jfm:jdh:=by
 intro d h;exact wM _ h rfl
theorem jdF:zc PR 161 jdr:=jR jfm Tryz.func161 kcN koN
theorem jhK:jfQ:=by
 intro d h;exact⟨fun g a=>⟨h g a,trivial⟩,congrArg (·,()) (jjb d.snd.fst.2 d.fst)⟩
theorem jgc:zc PR 132 jfX:=jR jhK Tryz.func132 (kcC yH (kcC jdF kcN)) koN
theorem jr5:jn2:=fun _=>rfl
theorem jo9:zc PR 125 jop:=jR jr5 Tryz.func125 (kcC wJ kcN) koN
theorem jr4:jn1:=fun _=>rfl
theorem jo8:zc PR 127 joo:=jR jr4 Tryz.func127 (kcC wJ kcN) koN
theorem jr3:jn0:=by
 rintro⟨p,c,f,g,⟨⟩⟩ a b _;exact⟨fun _=>a,fun _=>⟨fun _=>b,rfl⟩⟩
theorem jo7:zc PR 128 jon:=jR jr3 Tryz.func128 (kcC wJ (kcC jkK kcN)) koN
theorem jr2:jnZ:=fun _=>rfl
theorem jo6:zc PR 130 jom:=jR jr2 Tryz.func130 (kcC wJ kcN) koN
theorem jr1:jnY:=fun _ h=>⟨h,rfl⟩
theorem jo5:zc PR 131 jol:=jR jr1 Tryz.func131 (kcC wJ kcN) koN
theorem jCF (c:CrD) (p:PeD):U.jpj c (fun x=>U.ja x 0 5) (fun x=>U.ja x 0 99) p=U.yI (U.la c) p:=by
 rw[jF6];simp only[U.jpj,U.yI,U.ja,jFD,decide_eq_true_eq];constructor
 .rintro⟨⟨⟨⟨⟨⟨e,f⟩,a⟩,b⟩,k⟩,i⟩,d⟩;exact⟨⟨e,a.1,a.2,b.1,b.2,by omega,d.1,d.2⟩,f,i⟩
 .rintro⟨⟨e,a,g,b,h,k,d,j⟩,f,i⟩;exact⟨⟨⟨⟨⟨⟨e,f⟩,a,g⟩,b,h⟩,by omega⟩,i⟩,d,j⟩
theorem jDb (c:CrD):(((((!U.ja c.1 2 5||decide (8<((c.2.1.length:Nat):Int)))|| !c.2.1.all (U.yI (U.la c)))||decide (((c.2.2.1.length:Nat):Int)≠4))|| !c.2.2.1.all U.gn))= !U.jl c:=by
 unfold U.jl;show _= !(decide (2<=c.1/\c.1<=5/\c.2.1.length<=8/\c.2.2.1.length=4)&&(c.2.1.all (U.yI (U.la c))&&c.2.2.1.all U.gn));cases c.2.1.all (U.yI (U.la c))<;>cases c.2.2.1.all U.gn<;>simp only[U.ja,Bool.not_true,Bool.not_false,Bool.or_true,Bool.or_false,Bool.and_true,Bool.and_false,Bool.true_or]
 rw[jF6];simp only[jGJ,jF9,Bool.and_eq_false_iff,decide_eq_true_eq,decide_eq_false_iff_not];omega
theorem jEd (c:CrD) (j:JbD):((((((!U.ja j.1 0 (U.la c-1)|| !U.ja j.2.1 0 (U.la c-1))||decide (j.1=j.2.1))|| !U.ja j.2.2.1 0 99)|| !U.ja j.2.2.2.1 0 7)|| !U.ja j.2.2.2.2.1 0 3)|| !U.ja j.2.2.2.2.2.1 1 8)= !U.jN c j:=by
 have key:(U.jN c j=false)↔¬(0<=j.1/\j.1<=U.la c-1/\0<=j.2.1/\j.2.1<=U.la c-1/\j.1≠j.2.1/\0<=j.2.2.1/\j.2.2.1<=99/\0<=j.2.2.2.1/\j.2.2.2.1<=7/\0<=j.2.2.2.2.1/\j.2.2.2.2.1<=3/\1<=j.2.2.2.2.2.1/\j.2.2.2.2.2.1<=8):=by
  unfold U.jN;exact decide_eq_false_iff_not
 rw[jF6,jF9,key];simp only[U.ja,jGJ,jF9,Bool.and_eq_false_iff,decide_eq_true_eq,decide_eq_false_iff_not];omega
theorem jyr:jud:=by
 unfold jud q22_1 q22_0;rintro⟨c,j,⟨⟩⟩;have f:∀p,U.jb (fun(x:PeD×Unit)=>(U.jpj c (U.jb fun(x:Int×Unit)=>(U.ja x.fst 0 5,())) (U.jb fun(x:Int×Unit)=>(U.ja x.fst 0 99,())) x.fst,())) p=U.yI (U.la c) p:=fun p=>jCF c p
 have i:(U.jb fun(x:LwD×Unit)=>(U.gn x.fst,()))=U.gn:=rfl;have d:=jDb c;have e:=jEd c j;intro _;refine⟨fun _ g _=>⟨fun _ _=>trivial,fun _ _=>trivial,trivial⟩,fun _=> ?_⟩;simp only at d e⊢;rw[funext f,i,d,e];refine⟨fun _ _ _=>trivial,fun h=> ?_,fun h=> ?_⟩
 .have h:U.jl c=false:=(by simpa using h);unfold U.zR;rw[if_pos h]
 .have h:U.jl c=true:=(by simpa using h);have k:2<=U.la c/\U.la c<=5:=by
   unfold U.jl at h;simp only[jFD,decide_eq_true_eq] at h;exact⟨h.1.1,h.1.2.1⟩
  have b:jz (U.la c-1):=L.in64 (by omega) (by omega);refine⟨b,fun _=>b,fun a=> ?_,fun a=> ?_⟩
  .have a:U.jN c j=false:=(by simpa using a);unfold U.zR;rw[if_neg (by rw[h];simp),if_pos a]
  .have a:U.jN c j=true:=(by simpa using a);unfold U.zR;rw[if_neg (by rw[h];simp),if_neg (by rw[a];simp)]
theorem jls:zc PR 85 jux:=jR jyr Tryz.func85 (kcC wJ (kcC jgc (kcC jkL (kcC jo9 (kcC jo8 (kcC jo7 (kcC jo6 (kcC jo5 kcN)))))))) koN
end Go.X
namespace Go.X
open Go.Proofs
abbrev tTk:Ty:= .st [tCr,tJb,tLw]
abbrev TkD:Type:=CrD×JbD×LwD×Unit
namespace U
def tk (o:Option TkD):TkD:=jX (Ty.dflt tTk) o
def tc (t:TkD):CrD:=t.1
def tj (t:TkD):JbD:=t.2.1
def tl (t:TkD):LwD:=t.2.2.1
def jlr (c:CrD) (j:JbD):Option TkD:=if zR c j=0 then some (c,j,yd c j,()) else none
def vM (t:TkD):Prop:=jl (tc t)=true/\jN (tc t) (tj t)=true/\tl t=yd (tc t) (tj t)
def jut (a b c:Bool):Int:=jDK a+2*jDK b+4*jDK c
def kz (t:TkD) (p:PeD):Int:=jut (vE p (jzH (tj t))) (!jM (fd p) (jrX (tj t))) (!jM (cl p) (jqw (tj t)))
def jff (t:TkD) (p:PeD):List (Int×Int):=[(0,jDK (!vE p (jzH (tj t)))),(1,qz (fd p/2^(jrX (tj t)).toNat) 1),(2,qz (cl p/2^(jqw (tj t)).toNat) 1)]
def qV (all left:List (Int×Int)) (out:Int):Prop:=BT.Set' out/\left.Nodup/\(∀e∈left,e∈all)/\∀p:Nat,BT.has out p=true↔∃e∈all,e∉left/\e.2=0/\e.1.toNat=p
def we (t:TkD) (s:Int) (n:Nat):List (Int×PeD×Unit):=((List.range n).filter (fun(i:Nat)=>jfj s (i:Int))).map (fun(i:Nat)=>((i:Int),nth (je (tc t)) i,()))
def jgZ (t:TkD) (s:Int):List (Int×PeD×Unit):=we t s (je (tc t)).length
def jn (t:TkD) (a b:Int) (x:Int×PeD×Unit):Bool:=decide (jwi (tl t)<=min (nth (lv x.2.1) a.toNat) (nth (lv x.2.1) b.toNat))
def jbO (t:TkD) (s a b:Int):Bool:=(jgZ t s).any (jn t a b)
def wY (t:TkD) (a b:Int) (q:List (Int×PeD×Unit)):Bool:=match q.getLast? with|some x=>jn t a b x|none=>false
end U
def jiB:jQ:=⟨[.val (.slice .int),.val .int],[.int],false,fun _=>[],fun d=>(U.gQ (fun x=>decide (x=d.2.1)) d.1,())⟩
def jkf:Ann:=fun r=>match r with
 |2=>some fun σ=>{X:=Nat,sl:=fun i=>[(8,.dat .int (i:Int))],ob:=fun _=>[],inv:=fun i=>i<=(gd (.slice .int) σ 0).length/\∀b:Nat,b<i->decide (nth (gd (.slice .int) σ 0) b=gd .int σ 1)=false,mu:=fun i=>(gd (.slice .int) σ 0).length-i}
 |_=>none
def jil:Prop:=∀(d:List Int×Int×Unit),d.1.length<4611686018427387904->(∃(x:Nat),((0=(x:Int)/\True)/\True)/\x<=d.1.length/\∀(b:Nat),b<x->decide (nth d.1 b=d.2.1)=false)/\∀(x:Nat),(x<=d.1.length/\∀(b:Nat),b<x->decide (nth d.1 b=d.2.1)=false)->(decide ((x:Int)<(d.1.length:Int))=true->0<=(x:Int)/\(x:Int)<(d.1.length:Int)/\(decide (d.2.1=nth d.1 (x:Int).toNat)=true->((x:Int),())=(U.gQ (fun(c:Int)=>decide (c=d.2.1)) d.1,()))/\(decide (d.2.1=nth d.1 (x:Int).toNat)=false->jz ((x:Int)+1)/\∃(a:Nat),(((x:Int)+1=(a:Int)/\True)/\True)/\(a<=d.1.length/\∀(b:Nat),b<a->decide (nth d.1 b=d.2.1)=false)/\d.1.length-a<d.1.length-x))/\(decide ((x:Int)<(d.1.length:Int))=false->((-1:Int),())=(U.gQ (fun(e:Int)=>decide (e=d.2.1)) d.1,()))
def jeF:jQ:=⟨[.val (.slice .int),.val .int],[.bool],false,fun _=>[],fun d=>(d.1.any (fun x=>decide (x=d.2.1)),())⟩
def jes:Prop:=∀(d:List Int×Int×Unit),(decide (0<=U.gQ (fun(a:Int)=>decide (a=d.2.1)) d.1),())=(d.1.any fun(b:Int)=>decide (b=d.2.1),())
def jwR:jQ:=⟨[.val tCr,.val tJb],[.ptr tTk,.int],false,fun _=>[],fun d=>(U.jlr d.1 d.2.1,U.zR d.1 d.2.1,())⟩
def jwr:Prop:=∀(d:CrD×JbD×Unit),(decide (U.zR d.1 d.2.1≠0)=true->(none,U.zR d.1 d.2.1,())=(U.jlr d.1 d.2.1,U.zR d.1 d.2.1,()))/\(decide (U.zR d.1 d.2.1≠0)=false->0<=d.2.1.2.2.2.2.1/\d.2.1.2.2.2.2.1<(d.1.2.2.1.length:Int)/\(some (d.1,d.2.1,nth d.1.2.2.1 d.2.1.2.2.2.2.1.toNat,()),(0:Int),())=(U.jlr d.1 d.2.1,U.zR d.1 d.2.1,()))
def LM (d:PD [.ref (.ptr tTk),.ref (.uint .u64)]) (xs:List (Ty.st [.int,tPe]).Data):Prop:=xs=U.jgZ (U.tk d.1) d.2.1
def jwa (d:PD [.ref (.ptr tTk),.ref (.uint .u64)]):jie (YS [.int,tPe]):=fun r=>match r with
 |1=>some fun σ ys=>{X:=Nat,sl:=fun i=>[(12,.dat .int (i:Int))],ob:=fun _=>[],ys:=fun i=>(U.we (U.tk d.1) d.2.1 i,true),inv:=fun i=>i<=(U.je (U.tc (U.tk d.1))).length,mu:=fun i=>(U.je (U.tc (U.tk d.1))).length-i}
 |_=>none
abbrev q26_0 (d:Option (CrD×JbD×LwD×Unit)×Int×Unit):=(jX (((0:Int),[],[],()),((0:Int),(0:Int),(0:Int),(0:Int),(0:Int),(0:Int),()),((0:Int),(0:Int),false,()),()) d.1)
abbrev q26_1 (d:Option (CrD×JbD×LwD×Unit)×Int×Unit):=(U.je (U.tc (U.tk d.1)))
abbrev q26_2 (x:Nat)(d:Option (CrD×JbD×LwD×Unit)×Int×Unit):=((x:Int),nth (q26_0 d).1.2.1 (x:Int).toNat,())
abbrev q26_3 (x:Nat)(a:Nat):=(((x:Int)+1=(a:Int)/\True)/\True)
def vA:Prop:=∀(d:Option (CrD×JbD×LwD×Unit)×Int×Unit) (l:Nat),d.1.isSome=true->(q26_1 d).length<=60->d.1.isSome=true/\((q26_0 d).1.2.1.length<4611686018427387904->(∃(x:Nat),((0=(x:Int)/\True)/\True)/\([],true)=(U.we (U.tk d.1) d.2.1 x,true)/\x<=(q26_1 d).length)/\∀(x:Nat),x<=(q26_1 d).length->(decide ((x:Int)<(↑(q26_0 d).1.2.1.length:Int))=true->0<=(x:Int)/\(x:Int)<(↑(q26_0 d).1.2.1.length:Int)/\0<=(x:Int)/\(x:Int)<=64/\(U.jfj d.2.1 (x:Int)=true->l=l/\(∃(rest:List (Int×PeD×Unit)),U.we (U.tk d.1) d.2.1 x++[(q26_2 x d)]++rest=U.jgZ (U.tk d.1) d.2.1)/\(((U.jfj d.2.1 (x:Int)&& !true)=true->true=true->U.we (U.tk d.1) d.2.1 x++[(q26_2 x d)]=U.jgZ (U.tk d.1) d.2.1)/\((U.jfj d.2.1 (x:Int)&& !true)=false->jz ((x:Int)+1)/\∃(a:Nat),(q26_3 x a)/\(U.we (U.tk d.1) d.2.1 x++[(q26_2 x d)],true)=(U.we (U.tk d.1) d.2.1 a,true)/\a<=(q26_1 d).length/\(q26_1 d).length-a<(q26_1 d).length-x))/\((U.jfj d.2.1 (x:Int)&& !false)=true->false=true->U.we (U.tk d.1) d.2.1 x++[(q26_2 x d)]=U.jgZ (U.tk d.1) d.2.1)/\((U.jfj d.2.1 (x:Int)&& !false)=false->jz ((x:Int)+1)/\∃(a:Nat),(q26_3 x a)/\(U.we (U.tk d.1) d.2.1 x++[(q26_2 x d)],false)=(U.we (U.tk d.1) d.2.1 a,true)/\a<=(q26_1 d).length/\(q26_1 d).length-a<(q26_1 d).length-x))/\(U.jfj d.2.1 (x:Int)=false->((U.jfj d.2.1 (x:Int)&& !false)=true->true=true->U.we (U.tk d.1) d.2.1 x=U.jgZ (U.tk d.1) d.2.1)/\((U.jfj d.2.1 (x:Int)&& !false)=false->jz ((x:Int)+1)/\∃(a:Nat),(q26_3 x a)/\(U.we (U.tk d.1) d.2.1 x,true)=(U.we (U.tk d.1) d.2.1 a,true)/\a<=(q26_1 d).length/\(q26_1 d).length-a<(q26_1 d).length-x)))/\(decide ((x:Int)<(↑(q26_0 d).1.2.1.length:Int))=false->true=true->U.we (U.tk d.1) d.2.1 x=U.jgZ (U.tk d.1) d.2.1))
theorem jaU:(jz1 (ctx 28 [(190,jbl)] []) (zu Tryz.f189) [.int,tPe] [.ref (.ptr tTk),.ref (.uint .u64)] LM (fun d=>[d.1.isSome=true,(U.je (U.tc (U.tk d.1))).length<=60]) (fun d _=>jwa d) (fun d l=>hkY [.int,tPe] l [24] (fun q=>∃rest,LM d (q++rest)) (fun _=>none)))=vA:=by kernel_rfl
def jD:jel:=⟨[.val (.ptr tTk),.val (.uint .u64)],fun _=>[],189,[.ptr tTk,.uint .u64],fun d=>(d.1,d.2.1,())⟩
def yO:Prop:=∀(d:Option (CrD×JbD×LwD×Unit)×Int×Unit),d=d
theorem jcB:(jzg (ctx 6 [] []) (fun _=>none) Tryz.f155 (zu Tryz.f155) jD)=yO:=by kernel_rfl
def jtA (sv:SV):Option (Prop×(List (Ty.st [.int,tPe]).Data->Prop)):=match sv with
 | .clo 189 [.ep b t,.ep c s]=>(match zf b (.ptr tTk) t,zf c (.uint .u64) s with
  |some a,some d=>some ((a.isSome=true/\(U.je (U.tc (U.tk a))).length<=60),fun xs=>xs=U.jgZ (U.tk a) d)
  |_,_=>none)
 |_=>none
def jxf:jqn [.int,tPe]:={ps:=[.ref (.ptr tTk),.ref .int,.ref .int,.own (.box 4 [.dat .bool]) true],slots:=[4,6,7,8],dst:=34,pre:=fun _=>[],G:=fun d q=>((d.2.2.2.1.1||U.wY (U.tk d.1) d.2.1 d.2.2.1 q,()),()),stop:=fun d q=>U.wY (U.tk d.1) d.2.1 d.2.2.1 q,seq:=jtA}
def jiu:Nat->Option ((ts:List Ty)×jqn ts):=fun r=>match r with
 |3=>some ⟨[.int,tPe],jxf⟩
 |_=>none
def jaJ:jQ:=⟨[.val (.ptr tTk),.val (.uint .u64),.val .int,.val .int],[.bool],false,
 fun d=>[d.1.isSome=true,U.vM (U.tk d.1),0<=d.2.2.1,d.2.2.1<U.la (U.tc (U.tk d.1)),0<=d.2.2.2.1,d.2.2.2.1<U.la (U.tc (U.tk d.1))],fun d=>(U.jbO (U.tk d.1) d.2.1 d.2.2.1 d.2.2.2.1,())⟩
abbrev q28_0 (d:Option (CrD×JbD×LwD×Unit)×Int×Int×Int×Unit)(x:Int×PeD×Unit):=((jX (((0:Int),[],[],()),((0:Int),(0:Int),(0:Int),(0:Int),(0:Int),(0:Int),()),((0:Int),(0:Int),false,()),()) d.1).2.2.1.1<=min (nth x.2.1.1 d.2.2.1.toNat) (nth x.2.1.1 d.2.2.2.1.toNat))
def jaF:Prop:=∀(d:Option (CrD×JbD×LwD×Unit)×Int×Int×Int×Unit),d.1.isSome=true->U.vM (U.tk d.1)->0<=d.2.2.1->d.2.2.1<U.la (U.tc (U.tk d.1))->0<=d.2.2.2.1->d.2.2.2.1<U.la (U.tc (U.tk d.1))->(d.1.isSome=true/\(U.je (U.tc (U.tk d.1))).length<=60)/\True/\(d.1,d.2.2.1,d.2.2.2.1,(false||U.wY (U.tk d.1) d.2.2.1 d.2.2.2.1 [],()),())=(d.1,d.2.2.1,d.2.2.2.1,(false,()),())/\(∀(q:List (Int×PeD×Unit)) (x:Int×PeD×Unit) (rest:List (Int×PeD×Unit)),q++x::rest=U.jgZ (U.tk d.1) d.2.1->kW (fun(a:List (Int×PeD×Unit))=>U.wY (U.tk d.1) d.2.2.1 d.2.2.2.1 a) q->0<=d.2.2.1/\d.2.2.1<(x.2.1.1.length:Int)/\0<=d.2.2.2.1/\d.2.2.2.1<(x.2.1.1.length:Int)/\d.1.isSome=true/\(decide (q28_0 d x)=true->U.wY (U.tk d.1) d.2.2.1 d.2.2.2.1 (q++[x])=true/\((true,()),())=((false||U.wY (U.tk d.1) d.2.2.1 d.2.2.2.1 (q++[x]),()),()))/\(decide (q28_0 d x)=false->U.wY (U.tk d.1) d.2.2.1 d.2.2.2.1 (q++[x])=false/\((false||U.wY (U.tk d.1) d.2.2.1 d.2.2.2.1 q,()),())=((false||U.wY (U.tk d.1) d.2.2.1 d.2.2.2.1 (q++[x]),()),())))/\(∀(xs:List (Int×PeD×Unit)),xs=U.jgZ (U.tk d.1) d.2.1->kW (fun(b:List (Int×PeD×Unit))=>U.wY (U.tk d.1) d.2.2.1 d.2.2.2.1 b) xs->(false,())=(U.jbO (U.tk d.1) d.2.1 d.2.2.1 d.2.2.2.1,()))/\∀(q:List (Int×PeD×Unit)) (x:Int×PeD×Unit) (rest:List (Int×PeD×Unit)),q++x::rest=U.jgZ (U.tk d.1) d.2.1->kW (fun(c:List (Int×PeD×Unit))=>U.wY (U.tk d.1) d.2.2.1 d.2.2.2.1 c) q->U.wY (U.tk d.1) d.2.2.1 d.2.2.2.1 (q++[x])=true->(false||U.wY (U.tk d.1) d.2.2.1 d.2.2.2.1 (q++[x]),())=(U.jbO (U.tk d.1) d.2.1 d.2.2.1 d.2.2.2.1,())
theorem jdf:(jtg (jqy 33 [] [] [(155,jD)] []) jaJ (fun _ _=>none) (hkC (jqy 33 [] [] [(155,jD)] []) (fun _=>none) jiu [] []) Tryz.f192 (zu Tryz.f192))=jaF:=by kernel_rfl
end Go.X
namespace Go.X
open Go.Proofs
theorem jkT:jil:=by
 rintro⟨l,x,⟨⟩⟩ d;refine⟨⟨0,⟨⟨rfl,trivial⟩,trivial⟩,jFM _,fun b a=>by omega⟩,fun i hi=>⟨fun h=> ?_,fun h=> ?_⟩⟩
 .have h:i<l.length:=(by simpa using h);simp only[jFJ] at*;refine⟨by omega,by omega,fun a=> ?_,fun a=>⟨L.in64 (by omega) (by omega),i+1,⟨⟨by simp,trivial⟩,trivial⟩,⟨by omega,fun b c=> ?_⟩,by omega⟩⟩
  .rw[wS (p:=fun y=>decide (y=x)) h hi.2 (by have:=of_decide_eq_true a;rw[<-this];exact decide_eq_true rfl)]
  .by_cases e:b=i
   .subst e;exact decide_eq_false (fun e=>of_decide_eq_false a e.symm)
   .exact hi.2 b (by omega)
 .have h:l.length<=i:=(by simpa using h);rw[kG (p:=fun y=>decide (y=x)) h hi.2]
theorem ji1:zc PR 145 jiB:=kK jkf jkT Tryz.func145 kcN koN
theorem jgt:jes:=by
 rintro⟨l,x,⟨⟩⟩;exact congrArg (·,()) (jbS (fun y=>decide (y=x)) l)
theorem yn:zc PR 105 jeF:=jR jgt Tryz.func105 (kcC ji1 kcN) koN
theorem jd5 {c:CrD} {j:JbD} (h:U.zR c j=0):U.jl c=true/\U.jN c j=true:=by
 unfold U.zR at h
 split at h
 .omega
 .split at h
  .omega
  .rename_i a b;exact⟨by simpa using a,by simpa using b⟩
theorem jx {c:CrD} (h:U.jl c=true):2<=U.la c/\U.la c<=5/\(U.je c).length<=8/\(U.kO c).length=4/\(∀p∈U.je c,U.yI (U.la c) p=true)/\∀l∈U.kO c,U.gn l=true:=by
 unfold U.jl at h;simp only[jFD,decide_eq_true_eq,jFW] at h;exact⟨h.1.1,h.1.2.1,h.1.2.2.1,h.1.2.2.2,h.2.1,h.2.2⟩
theorem jbP {c:CrD} {j:JbD} (h:U.jN c j=true):(0<=U.jqx j/\U.jqx j<U.la c)/\(0<=U.jlG j/\U.jlG j<U.la c)/\U.jqx j≠U.jlG j/\(0<=U.jrX j/\U.jrX j<=7)/\(0<=U.jqw j/\U.jqw j<=3)/\(1<=U.jAx j/\U.jAx j<=8):=by
 unfold U.jN at h;have h:=of_decide_eq_true h;obtain⟨d,m,e,n,f,_,_,g,i,k,l,a,b⟩:=h;exact⟨⟨d,by omega⟩,⟨e,by omega⟩,f,⟨g,i⟩,⟨k,l⟩,a,b⟩
theorem jxw {c:CrD} {j:JbD} (h:U.zR c j=0):U.jlr c j=some (c,j,U.yd c j,())/\U.vM (c,j,U.yd c j,()):=by
 obtain⟨a,b⟩:=jd5 h;exact⟨by unfold U.jlr;rw[if_pos h],a,b,rfl⟩
theorem jAH:jwr:=by
 rintro⟨c,j,⟨⟩⟩;refine⟨fun h=> ?_,fun h=> ?_⟩
 .have h:U.zR c j≠0:=of_decide_eq_true h;simp only;unfold U.jlr;rw[if_neg h]
 .have h:U.zR c j=0:=(by simpa using h);obtain⟨b,d⟩:=jd5 h;obtain⟨_,_,_,a,_⟩:=jx b;obtain⟨_,_,_,_,hk,_⟩:=jbP d;have hk:0<=j.2.2.2.2.1/\j.2.2.2.2.1<=3:=hk;have a:c.2.2.1.length=4:=a;refine⟨hk.1,by simp only;omega,?_⟩;simp only;rw[(jxw h).1,h];rfl
theorem jo4:zc PR 117 jwR:=jR jAH Tryz.func117 (kcC jls kcN) koN
theorem jgj (t:TkD) (s:Int) (n:Nat):U.we t s (n+1)=U.we t s n++(if U.jfj s (n:Int)=true then[((n:Int),nth (U.je (U.tc t)) n,())] else[]):=by
 unfold U.we;rw[L.range_filter_succ,jGA]
 split<;>simp
theorem jx0 (t:TkD) (s:Int) {n m:Nat} (h:n<=m):∃rest,U.we t s n++rest=U.we t s m:=by
 induction m with
 |zero=>
  have:n=0:=(by omega);subst this;exact⟨[],by simp⟩
 |succ m b=>
  by_cases e:n=m+1
  .subst e;exact⟨[],by simp⟩
  .obtain⟨r,a⟩:=b (by omega);rw[jgj,<-a];exact⟨r++_,by rw[jFU]⟩
theorem jfl:vA:=by
 unfold vA q26_3 q26_2 q26_1 q26_0;rintro⟨(_|t),s,⟨⟩⟩ l i e
 .cases i
 have e:(U.je (U.tc t)).length<=60:=e;refine⟨rfl,fun _=>⟨⟨0,⟨⟨rfl,trivial⟩,trivial⟩,rfl,jFM _⟩,fun x g=> ?_⟩⟩;have g:x<=(U.je (U.tc t)).length:=g;have c:U.tk (some t)=t:=rfl;refine⟨fun h=> ?_,fun h=> ?_⟩
 .have h:x<(U.je (U.tc t)).length:=by
   have:=of_decide_eq_true h;have this:(x:Int)<((U.je (U.tc t)).length:Int):=this;omega
  have j:(x:Int)<((U.je (U.tc t)).length:Int):=(by omega);refine⟨by omega,j,by omega,by omega,fun b=> ?_,fun b=> ?_⟩
  .have d:U.we t s (x+1)=U.we t s x++[((x:Int),nth (U.je (U.tc t)) x,())]:=(by rw[jgj,if_pos b]);obtain⟨r,f⟩:=jx0 t s (show x+1<=(U.je (U.tc t)).length by omega);refine⟨rfl,⟨r,by rw[d] at f;exact f⟩,⟨fun a=>absurd a (by rw[Bool.not_true,Bool.and_false];simp),fun _=>⟨L.in64 (by omega) (by omega),x+1,⟨⟨by omega,trivial⟩,trivial⟩,?_,(show x+1<=(U.je (U.tc t)).length by omega),(show(U.je (U.tc t)).length-(x+1)<(U.je (U.tc t)).length-x by omega)⟩⟩,
    fun _ a=>(by cases a),fun a=> ?_⟩
   .rw[c,d];rfl
   .rw[Bool.not_false,Bool.and_true] at a;exact absurd b (by simp only at a⊢;rw[a];simp)
  .have d:U.we t s (x+1)=U.we t s x:=by
    rw[jgj,if_neg (by simp only at b⊢;rw[b];simp),jGb]
   refine⟨fun a=> ?_,fun _=>⟨L.in64 (by omega) (by omega),x+1,⟨⟨by omega,trivial⟩,trivial⟩,?_,(show x+1<=(U.je (U.tc t)).length by omega),(show(U.je (U.tc t)).length-(x+1)<(U.je (U.tc t)).length-x by omega)⟩⟩
   .rw[Bool.not_false,Bool.and_true] at a;exact absurd a (by simp only at b⊢;rw[b];simp)
   .rw[c,d]
 .have h:(U.je (U.tc t)).length<=x:=by
   have:=of_decide_eq_false h;have this:¬(x:Int)<((U.je (U.tc t)).length:Int):=this;omega
  intro _;rw[show x=(U.je (U.tc t)).length by omega];rfl
theorem jrk {H:Imm} {lb:Array Value} {d:PD [.ref (.ptr tTk),.ref (.uint .u64)]} (g:pvs PR H [.ref (.ptr tTk),.ref (.uint .u64)] lb.toList d) (a:d.1.isSome=true) (b:(U.je (U.tc (U.tk d.1))).length<=60):jBm PR H [.int,tPe] (LM d) (.func (.func 189) #[] lb):=
 jBz (C:=ctx 28 [(190,jbl)] []) (jjY ⟨fun _=>jo3,trivial⟩ trivial) mixed Tryz.func189 (by kernel_rfl) (by kernel_rfl) (by kernel_rfl) (by kernel_rfl) (by decide) (jaU.mpr jfl) (fun d l B0 R h c e f=>jD4 c f) g ⟨a,b,trivial⟩
theorem jhJ:yO:=by intro d;rfl
theorem ga:jqq PR 155 jD:=jD5 (jcB.mpr jhJ) Tryz.func155 (by kernel_rfl) (by kernel_rfl) (by kernel_rfl) (by kernel_rfl) trivial trivial
theorem jCH:∀(f:Nat) (p:Nat×jei),jw ([]:List (Nat×Nat×jei)) f=some p->ROK PR f p.2:=fun _ _ h=>by cases h
theorem jpo {sv:SV} {h:Prop} {L:List (Ty.st [.int,tPe]).Data->Prop} {v:Value} {ρ:Env} (a:jtA sv=some (h,L)) (b:h) (g:SV.den PR ρ sv v):jBm PR ρ.H [.int,tPe] L v:=by
 unfold jtA at a
 split at a
 case h_2=>cases a
 rename_i o t p s
 split at a
 case h_2=>cases a
 rename_i w u n f;simp only[Option.some.injEq,Prod.mk.injEq] at a;obtain⟨rfl,rfl⟩:=a;obtain⟨e,rfl⟩:=jj n;subst e;obtain⟨i,rfl⟩:=jj f;subst i;simp only[SV.den,SV.denL] at g;obtain⟨lb,rfl,x,r,m,j,y,q,c,k,l⟩:=g;exact jrk (d:=(t,s,())) (by rw[m,c,l];exact⟨j,k,rfl⟩) b.1 b.2
theorem jfc (t:TkD) (a b:Int) (q:List (Int×PeD×Unit)) (x:Int×PeD×Unit):U.wY t a b (q++[x])=U.jn t a b x:=by
 unfold U.wY;rw[List.getLast?_append];simp
theorem jqS {t:TkD} {a b:Int} {q:List (Int×PeD×Unit)} (h:kW (fun q=>U.wY t a b q) q):q.any (U.jn t a b)=false:=by
 rw[jGo];intro x c;obtain⟨u,v,rfl⟩:=List.append_of_mem c;have:=h u x v rfl;simp only[jfc] at this;rw[this];simp
theorem jvc {t:TkD} {s:Int} {x:Int×PeD×Unit} (h:x∈U.jgZ t s):x.2.1∈U.je (U.tc t):=by
 unfold U.jgZ U.we at h;obtain⟨i,hi,rfl⟩:=jGc.1 h;have:=jFP.1 (jF0.1 hi).1;exact L.mem_nth this
theorem jCE {n:Int} {p:PeD} (h:U.yI n p=true):((U.lv p).length:Int)=n:=by
 unfold U.yI at h;simp only[jFD,decide_eq_true_eq] at h;exact h.1.1
theorem jjw:jaF:=by
 unfold jaF q28_0;rintro⟨(_|t),s,a,b,⟨⟩⟩ r l v f w g
 .cases r
 obtain⟨c1,c2,A⟩:=l;have c1:U.jl (U.tc t)=true:=c1;obtain⟨B,C,D,E,p,F⟩:=jx c1;have k:(U.je (U.tc t)).length<=60:=(by omega);have c:U.tk (some t)=t:=rfl;refine⟨⟨rfl,k⟩,trivial,rfl,fun q x rest i e=> ?_,fun xs j e=> ?_,fun q x rest i e d=> ?_⟩
 .have z:x∈U.jgZ t s:=(by rw[c] at i;rw[<-i];simp);have o:=jCE (p _ (jvc z));have o:((x.2.1.1.length:Nat):Int)=U.la (U.tc t):=o;have f:a<U.la (U.tc t):=f;have g:b<U.la (U.tc t):=g;have m:U.wY t a b q=false:=by
   cases n:q.getLast? with
   |none=>unfold U.wY;rw[n]
   |some y=>
    obtain⟨u,rfl⟩:=List.getLast?_eq_some_iff.1 n;have:=e u y [] rfl;exact this
  refine⟨v,by simp only;omega,w,by simp only;omega,rfl,fun h=> ?_,fun h=> ?_⟩
  .have h:U.jn t a b x=true:=h;have:U.wY t a b (q++[x])=true:=(by rw[jfc];exact h);rw[c];simp only;exact⟨this,by rw[this];rfl⟩
  .have h:U.jn t a b x=false:=h;have:U.wY t a b (q++[x])=false:=(by rw[jfc];exact h);rw[c];simp only;exact⟨this,by rw[this,m]⟩
 .rw[c] at j e;subst j;have:=jqS e;simp only;rw[c];unfold U.jbO;rw[this]
 .rw[c] at i d⊢;simp only at d⊢;rw[d];unfold U.jbO;rw[<-i];rw[jfc] at d;simp[d]
theorem jp6:(jqy 33 [] [] [(155,jD)] []).ok PR:=jsB trivial trivial ⟨ga,trivial⟩ trivial
theorem jhx:zc PR 192 jaJ:=
 jxh (body:=zu Tryz.f192) (C:=jqy 33 [] [] [(155,jD)] []) (hk:=hkC (jqy 33 [] [] [(155,jD)] []) (fun _=>none) jiu [] []) jp6 mixed Tryz.func192 (by kernel_rfl) (by kernel_rfl) (by kernel_rfl) (by decide)
  (fun B=>jlN jp6 mixed (fun k ts rs sv d L v ρ hk c a b=>by
   unfold jiu at hk
   split at hk
   case h_2=>cases hk
   simp only[Option.some.injEq] at hk
   cases hk
   exact jpo c a b) jCH B) (jdf.mpr jjw)
end Go.X
namespace Go.X
open Go.Proofs
namespace U
def qe (x:Int) (N n:Nat):List Int:=List.replicate n x++List.replicate (N-n) 0
def jqv (t:TkD) (c:Int) (a b:Nat):Bool:=jbO t c (a:Int) (b:Int)
def jay (t:TkD) (a:Int):List Int:=jED (jqv t a) (la (tc t)).toNat (jlG (tj t)).toNat
def jP (t:TkD) (a:Int) (k:Nat):List Int×List Int:=qk (jqv t a) (la (tc t)).toNat (jlG (tj t)).toNat k
def wE (t:TkD) (a:Int) (x:List Int×List Int) (i:Nat):List Int×List Int:=jfF (jqv t a) (nth x.2 0).toNat x i
def jDL (t:TkD) (a:Int) (x:List Int×List Int) (lo:Nat):Prop:=jDO (jqv t a) (la (tc t)).toNat (jlG (tj t)).toNat x/\x.2≠[]/\x.2.length<=10/\lo<=10
end U
def glo (σ:St) (s:Nat):Nat:=match σ.get s with
 | .osl _ _ lo _=>lo
 |_=>0
def jmx:jQ:=⟨[.val (.uint .u64),.val (.uint .u64)],[.uint .u64,.uint .u64],false,fun d=>[0<=d.1,d.1<=1000,0<=d.2.1,d.2.1<=1000],fun d=>((0:Int),d.1*d.2.1,())⟩
abbrev q29_0 (d:Int×Int×Unit):=(d.1/(2:Int)^Int.toNat 32*ww d.2.1 (4294967295:Int)+ww d.1 (4294967295:Int)*ww d.2.1 (4294967295:Int)/(2:Int)^Int.toNat 32)
abbrev q29_1 (d:Int×Int×Unit):=(d.2.1/(2:Int)^Int.toNat 32)
abbrev q29_2 (d:Int×Int×Unit):=(ww (q29_0 d) (4294967295:Int)+ww d.1 (4294967295:Int)*(q29_1 d))
def jmk:Prop:=∀(d:Int×Int×Unit),0<=d.1->d.1<=1000->0<=d.2.1->d.2.1<=1000->(0:Int)<=32/\(32:Int)<=64/\(0:Int)<=32/\(32:Int)<=64/\0<=ww d.1 (4294967295:Int)*ww d.2.1 (4294967295:Int)/\ww d.1 (4294967295:Int)*ww d.2.1 (4294967295:Int)<=18446744073709551615/\0<=d.1/(2:Int)^Int.toNat 32*ww d.2.1 (4294967295:Int)/\d.1/(2:Int)^Int.toNat 32*ww d.2.1 (4294967295:Int)<=18446744073709551615/\(0:Int)<=32/\(32:Int)<=64/\0<=d.1/(2:Int)^Int.toNat 32*ww d.2.1 (4294967295:Int)+ww d.1 (4294967295:Int)*ww d.2.1 (4294967295:Int)/(2:Int)^Int.toNat 32/\d.1/(2:Int)^Int.toNat 32*ww d.2.1 (4294967295:Int)+ww d.1 (4294967295:Int)*ww d.2.1 (4294967295:Int)/(2:Int)^Int.toNat 32<=18446744073709551615/\(0:Int)<=32/\(32:Int)<=64/\0<=ww d.1 (4294967295:Int)*(q29_1 d)/\ww d.1 (4294967295:Int)*(q29_1 d)<=18446744073709551615/\0<=ww (q29_0 d) (4294967295:Int)+ww d.1 (4294967295:Int)*(q29_1 d)/\ww (q29_0 d) (4294967295:Int)+ww d.1 (4294967295:Int)*(q29_1 d)<=18446744073709551615/\0<=d.1/(2:Int)^Int.toNat 32*(q29_1 d)/\d.1/(2:Int)^Int.toNat 32*(q29_1 d)<=18446744073709551615/\0<=d.1/(2:Int)^Int.toNat 32*(q29_1 d)+(q29_0 d)/(2:Int)^Int.toNat 32/\d.1/(2:Int)^Int.toNat 32*(q29_1 d)+(q29_0 d)/(2:Int)^Int.toNat 32<=18446744073709551615/\(0:Int)<=32/\(32:Int)<=64/\0<=d.1/(2:Int)^Int.toNat 32*(q29_1 d)+(q29_0 d)/(2:Int)^Int.toNat 32+(q29_2 d)/(2:Int)^Int.toNat 32/\d.1/(2:Int)^Int.toNat 32*(q29_1 d)+(q29_0 d)/(2:Int)^Int.toNat 32+(q29_2 d)/(2:Int)^Int.toNat 32<=18446744073709551615/\0<=d.1*d.2.1/\d.1*d.2.1<=18446744073709551615/\(d.1/(2:Int)^Int.toNat 32*(q29_1 d)+(q29_0 d)/(2:Int)^Int.toNat 32+(q29_2 d)/(2:Int)^Int.toNat 32,d.1*d.2.1,())=((0:Int),d.1*d.2.1,())
def jrb:jQ:=⟨[.val (.uint .u64),.val (.uint .u64)],[.uint .u64,.uint .u64],false,fun d=>[0<=d.1,d.1<=1000,0<=d.2.1,d.2.1<=1000],fun d=>((0:Int),d.1*d.2.1,())⟩
def jqN:Prop:=∀(d:Int×Int×Unit),0<=d.1->d.1<=1000->0<=d.2.1->d.2.1<=1000->(false=true->False)/\(false=false->0<=d.1/\d.1<=1000/\0<=d.2.1/\d.2.1<=1000/\((0:Int),d.1*d.2.1,())=((0:Int),d.1*d.2.1,()))
def jhu:zK:=⟨[.val (.slice .int),.val .int],[.cl (.row 3 .int .no)],fun d=>[d.1.length=1,0<=d.2.1,d.2.1<=1000],fun d=>((List.replicate d.2.1.toNat (nth d.1 0),()),())⟩
def jhS:Ann:=fun r=>match r with
 |8=>some fun σ=>{X:=Nat,sl:=fun n=>[(8,.dat .int (n:Int))],ob:=fun n=>[(7,some (.row 3 .int false .no (U.qe (nth (gd (.slice .int) σ 0) 0) (gd .int σ 1).toNat n)))],inv:=fun n=>n<=(gd .int σ 1).toNat/\(1<=n\/(gd .int σ 1).toNat=0),mu:=fun n=>(gd .int σ 1).toNat-n}
 |_=>none
abbrev q31_3 (d:List Int×Int×Unit):=(d.1.length:Int)
abbrev q31_1 (d:List Int×Int×Unit):=(List.replicate ((q31_3 d)*d.2.1).toNat (0:Int))
abbrev q31_4 (d:List Int×Int×Unit)(x:Nat):=(U.qe (nth d.1 0) d.2.1.toNat x)
abbrev q31_0 (d:List Int×Int×Unit)(x:Nat):=(↑(q31_4 d x).length:Int)
abbrev q31_2 (x:Nat)(d:List Int×Int×Unit):=(List.take ((x:Int).toNat-Int.toNat 0) (List.drop (Int.toNat 0) (q31_4 d x)))
abbrev q31_5 (d:List Int×Int×Unit)(x:Nat):=((q31_0 d x).toNat-(x:Int).toNat)
abbrev q31_6 (d:List Int×Int×Unit):=(decide ((0:Int)<0)||decide (9223372036854775807<(q31_3 d)*d.2.1))
def jhg:Prop:=∀(d:List Int×Int×Unit),d.1.length=1->0<=d.2.1->d.2.1<=1000->(decide (d.2.1<0)=true->False)/\(decide (d.2.1<0)=false->d.1.length<4611686018427387904->0<=(q31_3 d)/\(q31_3 d)<=18446744073709551615/\0<=d.2.1/\d.2.1<=18446744073709551615/\0<=(q31_3 d)/\(q31_3 d)<=1000/\0<=d.2.1/\d.2.1<=1000/\((q31_6 d)=true->False)/\((q31_6 d)=false->jz ((q31_3 d)*d.2.1)/\0<=(q31_3 d)*d.2.1/\(q31_3 d)*d.2.1=(q31_3 d)*d.2.1/\((q31_3 d)*d.2.1).toNat*8<=140737488355328/\0+(q31_1 d).length<=(q31_1 d).length/\(∃(x:Nat),(((↑(List.take (q31_1 d).length d.1).length:Int)=(x:Int)/\True)/\jwk (q31_1 d) 0 (q31_1 d).length d.1=U.qe (nth d.1 0) d.2.1.toNat x/\True)/\x<=d.2.1.toNat/\(1<=x\/d.2.1.toNat=0))/\∀(x:Nat),x<=d.2.1.toNat/\(1<=x\/d.2.1.toNat=0)->(q31_4 d x).length<4611686018427387904->(decide ((x:Int)<(q31_0 d x))=true->0<=(x:Int)/\(x:Int)<=(q31_0 d x)/\(q31_0 d x)<=(q31_0 d x)/\(0:Int)<=0/\0<=(x:Int)/\(x:Int)<=(q31_0 d x)/\(x:Int).toNat+(q31_5 d x)<=(q31_4 d x).length/\jz ((x:Int)+(↑(List.take (q31_5 d x) (q31_2 x d)).length:Int))/\∃(a:Nat),(((x:Int)+(↑(List.take (q31_5 d x) (q31_2 x d)).length:Int)=(a:Int)/\True)/\jwk (q31_4 d x) (x:Int).toNat (q31_5 d x) (q31_2 x d)=U.qe (nth d.1 0) d.2.1.toNat a/\True)/\(a<=d.2.1.toNat/\(1<=a\/d.2.1.toNat=0))/\d.2.1.toNat-a<d.2.1.toNat-x)/\(decide ((x:Int)<(q31_0 d x))=false->(U.qe (nth d.1 0) d.2.1.toNat x,())=(List.replicate d.2.1.toNat (nth d.1 0),())/\()=())))
def wn:jQ:=⟨[.val (.ptr tTk),.val (.uint .u64)],[.slice .int],false,fun d=>[d.1.isSome=true,U.vM (U.tk d.1)],fun d=>(U.jay (U.tk d.1) d.2.1,())⟩
def jnJ:Ann:=fun r=>match r with
 |4=>some fun σ=>{X:=Nat×List Int,sl:=fun x=>[(6,.osl 6 .int x.2.length (U.jP (U.tk (gd (.ptr tTk) σ 0)) (gd (.uint .u64) σ 1) x.1).2.length)],ob:=fun x=>[(5,some (.row 3 .int false .no (U.jP (U.tk (gd (.ptr tTk) σ 0)) (gd (.uint .u64) σ 1) x.1).1)),(6,some (.row 3 .int false .no (x.2++(U.jP (U.tk (gd (.ptr tTk) σ 0)) (gd (.uint .u64) σ 1) x.1).2)))],inv:=fun x=>x.2.length<=x.1/\x.1<=(U.la (U.tc (U.tk (gd (.ptr tTk) σ 0)))).toNat,mu:=fun x=>(U.la (U.tc (U.tk (gd (.ptr tTk) σ 0)))).toNat+1-x.1}
 |7=>some fun σ=>{X:=Nat×List Int,sl:=fun x=>[(28,.any),(35,.dat .int (x.1:Int)),(6,.osl 6 .int x.2.length (U.wE (U.tk (gd (.ptr tTk) σ 0)) (gd (.uint .u64) σ 1) (gr .int σ 5,(gr .int σ 6).drop (glo σ 6)) x.1).2.length)],ob:=fun x=>[(5,some (.row 3 .int false .no (U.wE (U.tk (gd (.ptr tTk) σ 0)) (gd (.uint .u64) σ 1) (gr .int σ 5,(gr .int σ 6).drop (glo σ 6)) x.1).1)),(6,some (.row 3 .int false .no (x.2++(U.wE (U.tk (gd (.ptr tTk) σ 0)) (gd (.uint .u64) σ 1) (gr .int σ 5,(gr .int σ 6).drop (glo σ 6)) x.1).2)))],inv:=fun x=>x.1<=(gr .int σ 5).length/\x.2.length<=glo σ 6/\U.jDL (U.tk (gd (.ptr tTk) σ 0)) (gd (.uint .u64) σ 1) (gr .int σ 5,(gr .int σ 6).drop (glo σ 6)) (glo σ 6),mu:=fun x=>(gr .int σ 5).length-x.1}
 |2000011=>some fun σ=>{X:=Unit,sl:=fun _=>[],ob:=fun _=>[],inv:=fun _=>True,mu:=fun _=>0}
 |_=>none
abbrev q32_1 (d:Option (CrD×JbD×LwD×Unit)×Int×Unit):=(jX (((0:Int),[],[],()),((0:Int),(0:Int),(0:Int),(0:Int),(0:Int),(0:Int),()),((0:Int),(0:Int),false,()),()) d.1)
abbrev q32_3 (d:Option (CrD×JbD×LwD×Unit)×Int×Unit)(x:Nat×List Int):=(U.jP (U.tk d.1) d.2.1 x.1)
abbrev q32_2 (d:Option (CrD×JbD×LwD×Unit)×Int×Unit)(x:Nat×List Int):=((q32_3 d x).1,List.drop x.2.length (x.2++(q32_3 d x).2))
abbrev q32_0 (d:Option (CrD×JbD×LwD×Unit)×Int×Unit)(x:Nat×List Int)(a:Nat×List Int):=(U.wE (U.tk d.1) d.2.1 (q32_2 d x) a.1)
abbrev q32_4 (d:Option (CrD×JbD×LwD×Unit)×Int×Unit)(x:Nat×List Int)(a:Nat×List Int):=(nth (q32_0 d x a).1 (a.1:Int).toNat<0)
abbrev q32_5 (a:Nat×List Int):=(a.2.length+Int.toNat 0)
abbrev q32_6 (d:Option (CrD×JbD×LwD×Unit)×Int×Unit)(x:Nat×List Int)(a:Nat×List Int):=(U.wE (U.tk d.1) d.2.1 (q32_2 d x) a.1)
def jme:Prop:=∀(d:Option (CrD×JbD×LwD×Unit)×Int×Unit),d.1.isSome=true->U.vM (U.tk d.1)->d.1.isSome=true/\[(-1:Int)].length=1/\(0:Int)<=(q32_1 d).1.1/\(q32_1 d).1.1<=1000/\d.1.isSome=true/\(0:Int)<=(q32_1 d).2.1.2.1/\(q32_1 d).2.1.2.1<(↑(List.replicate (q32_1 d).1.1.toNat (nth [(-1:Int)] 0)).length:Int)/\d.1.isSome=true/\(∃(x:Nat×List Int),(((x.2.length=0/\(q32_3 d x).2.length=[(q32_1 d).2.1.2.1].length)/\True)/\(List.replicate (q32_1 d).1.1.toNat (nth [(-1:Int)] 0)).set (q32_1 d).2.1.2.1.toNat 0=(q32_3 d x).1/\[(q32_1 d).2.1.2.1]=x.2++(q32_3 d x).2/\True)/\x.2.length<=x.1/\x.1<=(U.la (U.tc (U.tk d.1))).toNat)/\∀(x:Nat×List Int),x.2.length<=x.1/\x.1<=(U.la (U.tc (U.tk d.1))).toNat->(q32_3 d x).2.length<4611686018427387904->(decide ((0:Int)<(↑(q32_3 d x).2.length:Int))=true->(q32_3 d x).1.length<4611686018427387904->(∃(a:Nat×List Int),((0=(a.1:Int)/\(x.2.length=a.2.length/\(q32_3 d x).2.length=(q32_0 d x a).2.length)/\True)/\(q32_3 d x).1=(q32_0 d x a).1/\x.2++(q32_3 d x).2=a.2++(q32_0 d x a).2/\True)/\a.1<=(q32_3 d x).1.length/\a.2.length<=x.2.length/\U.jDL (U.tk d.1) d.2.1 (q32_2 d x) x.2.length)/\∀(a:Nat×List Int),a.1<=(q32_3 d x).1.length/\a.2.length<=x.2.length/\U.jDL (U.tk d.1) d.2.1 (q32_2 d x) x.2.length->(decide ((a.1:Int)<(↑(q32_3 d x).1.length:Int))=true->0<=(a.1:Int)/\(a.1:Int)<(↑(q32_0 d x a).1.length:Int)/\(decide (q32_4 d x a)=true->(0:Int)<=0)/\(decide (q32_4 d x a)=true->(0:Int)<(↑(q32_0 d x a).2.length:Int))/\(decide (q32_4 d x a)=true->d.1.isSome=true)/\(decide (q32_4 d x a)=true->U.vM (U.tk d.1))/\(decide (q32_4 d x a)=true->0<=nth (a.2++(q32_0 d x a).2) (q32_5 a))/\(decide (q32_4 d x a)=true->nth (a.2++(q32_0 d x a).2) (q32_5 a)<U.la (U.tc (U.tk d.1)))/\(decide (q32_4 d x a)=true->0<=(a.1:Int))/\(decide (q32_4 d x a)=true->(a.1:Int)<U.la (U.tc (U.tk d.1)))/\((decide (q32_4 d x a)&&U.jbO (U.tk d.1) d.2.1 (nth (a.2++(q32_0 d x a).2) (q32_5 a)) (a.1:Int))=true->(0:Int)<=0/\(0:Int)<(↑(q32_0 d x a).2.length:Int)/\0<=nth (a.2++(q32_0 d x a).2) (q32_5 a)/\nth (a.2++(q32_0 d x a).2) (q32_5 a)<(↑(q32_0 d x a).1.length:Int)/\jz (nth (q32_0 d x a).1 (nth (a.2++(q32_0 d x a).2) (q32_5 a)).toNat+1)/\0<=(a.1:Int)/\(a.1:Int)<(↑(q32_0 d x a).1.length:Int)/\a.2.length+(q32_0 d x a).2.length=(a.2++(q32_0 d x a).2).length/\0<(q32_0 d x a).2.length/\a.2.length+(q32_0 d x a).2.length+[(a.1:Int)].length<4611686018427387904/\((q32_0 d x a).2.length+[(a.1:Int)].length)*8<=140737488355328/\∀(pre:List Int),pre.length<=a.2.length->jz ((a.1:Int)+1)/\∃(b:Nat×List Int),(((a.1:Int)+1=(b.1:Int)/\(pre.length=b.2.length/\(q32_0 d x a).2.length+[(a.1:Int)].length=(q32_6 d x b).2.length)/\True)/\pre++List.drop a.2.length (a.2++(q32_0 d x a).2)++[(a.1:Int)]=b.2++(q32_6 d x b).2/\(q32_0 d x a).1.set (a.1:Int).toNat (nth (q32_0 d x a).1 (nth (a.2++(q32_0 d x a).2) (q32_5 a)).toNat+1)=(q32_6 d x b).1/\True)/\(b.1<=(q32_3 d x).1.length/\b.2.length<=x.2.length/\U.jDL (U.tk d.1) d.2.1 (q32_2 d x) x.2.length)/\(q32_3 d x).1.length-b.1<(q32_3 d x).1.length-a.1)/\((decide (q32_4 d x a)&&U.jbO (U.tk d.1) d.2.1 (nth (a.2++(q32_0 d x a).2) (q32_5 a)) (a.1:Int))=false->jz ((a.1:Int)+1)/\∃(b:Nat×List Int),(((a.2.length=b.2.length/\(q32_0 d x a).2.length=(q32_6 d x b).2.length)/\(a.1:Int)+1=(b.1:Int)/\True)/\a.2++(q32_0 d x a).2=b.2++(q32_6 d x b).2/\(q32_0 d x a).1=(q32_6 d x b).1/\True)/\(b.1<=(q32_3 d x).1.length/\b.2.length<=x.2.length/\U.jDL (U.tk d.1) d.2.1 (q32_2 d x) x.2.length)/\(q32_3 d x).1.length-b.1<(q32_3 d x).1.length-a.1))/\(decide ((a.1:Int)<(↑(q32_3 d x).1.length:Int))=false->(0:Int)<=1/\(1:Int)<=(↑(q32_0 d x a).2.length:Int)/\(↑(q32_0 d x a).2.length:Int)<=(↑(q32_0 d x a).2.length:Int)/\∃(b:Nat×List Int),(((a.2.length+Int.toNat 1=b.2.length/\(↑(q32_0 d x a).2.length:Int).toNat-Int.toNat 1=(U.jP (U.tk d.1) d.2.1 b.1).2.length)/\True)/\(q32_0 d x a).1=(U.jP (U.tk d.1) d.2.1 b.1).1/\a.2++(q32_0 d x a).2=b.2++(U.jP (U.tk d.1) d.2.1 b.1).2/\True)/\(b.2.length<=b.1/\b.1<=(U.la (U.tc (U.tk d.1))).toNat)/\(U.la (U.tc (U.tk d.1))).toNat+1-b.1<(U.la (U.tc (U.tk d.1))).toNat+1-x.1))/\(decide ((0:Int)<(↑(q32_3 d x).2.length:Int))=false->((q32_3 d x).1,())=(U.jay (U.tk d.1) d.2.1,()))
end Go.X
namespace Go.X
open Go.Proofs
theorem jmm {x:Int} (a:0<=x) (b:x<=4294967295):ww x 4294967295=x:=by
 obtain⟨n,rfl⟩:∃n:Nat,x=(n:Int):=⟨x.toNat,by omega⟩;rw[show(4294967295:Int)=((4294967295:Nat):Int) from rfl,BT.uand_nat (by omega) (by omega),show(4294967295:Nat)=2^32-1 from rfl,Nat.and_two_pow_sub_one_eq_mod,Nat.mod_eq_of_lt (by omega)]
theorem jpF:jmk:=by
 unfold jmk q29_2 q29_1 q29_0;rintro⟨x,y,⟨⟩⟩ b c a d;simp only at b c a d;have f:=jmm b (by omega);have g:=jmm a (by omega);have e:=jmm (x:=0) (by omega) (by omega);have h:x/2^Int.toNat 32=0:=Int.ediv_eq_zero_of_lt b (by show x<2^32;omega);have i:y/2^Int.toNat 32=0:=Int.ediv_eq_zero_of_lt a (by show y<2^32;omega);have k:0<=x*y:=Int.mul_nonneg b a;have l:x*y<=1000*1000:=Int.mul_le_mul c d a (by omega);have c1:x*y/2^Int.toNat 32=0:=Int.ediv_eq_zero_of_lt k (by show x*y<2^32;omega);have j:(0:Int)/2^Int.toNat 32=0:=Int.zero_ediv _;simp only[f,g,h,i,Int.zero_mul,Int.mul_zero,Int.zero_add,Int.add_zero,c1,e,j]
 and_intros<;>first|omega|rfl|trivial
theorem jm0:zc PR 218 jmx:=jR jpF Tryz.func218 kcN koN
theorem jvt:jqN:=by
 rintro⟨x,y,⟨⟩⟩ a b c d;exact⟨fun h=>(by cases h),fun _=>⟨a,b,c,d,rfl⟩⟩
theorem jrN:zc PR 211 jrb:=jR jvt Tryz.func211 (kcC jm0 kcN) koN
theorem jng {x:Int} {N n:Nat} (h:n<=N):(U.qe x N n).length=N:=by
 unfold U.qe;simp;omega
theorem jpv {x:Int} {N n:Nat} (h:n<=N):(U.qe x N n).take n=List.replicate n x:=by
 unfold U.qe;rw[List.take_append_of_le_length (by simp),jGm (by simp)]
theorem jyn {x:Int} {N n:Nat} (h:n<=N):jwk (U.qe x N n) n (N-n) (List.replicate n x)=U.qe x N (n+min (N-n) n):=by
 unfold jwk;rw[jpv h,List.take_replicate,jGv];unfold U.qe;rw[List.drop_append,jGv,List.drop_of_length_le (by simp),jF2,List.drop_replicate,<-List.replicate_append_replicate];congr 2;omega
theorem jjB:jhg:=by
 unfold jhg q31_6 q31_5 q31_2 q31_0 q31_4 q31_1 q31_3;rintro⟨l,n,⟨⟩⟩ b g e;simp only at b g e;obtain⟨N,rfl⟩:∃N:Nat,n=(N:Int):=⟨n.toNat,by omega⟩;obtain⟨y,rfl⟩:∃y,l=[y]:=by
  cases l with
  |nil=>simp at b
  |cons y r=>cases r with
   |nil=>exact⟨y,rfl⟩
   |cons z r=>simp at b
 have c:(([y].length:Nat):Int)*(N:Int)=(N:Int):=(by simp);have f:nth [y] 0=y:=rfl
 dsimp only
 refine⟨fun h=> ?_,fun _ _=>⟨by simp,by simp,by omega,by omega,by simp,by simp,by omega,e,fun h=> ?_,fun _=> ?_⟩⟩
 .have:=of_decide_eq_true h;omega
 .rw[c] at h;have h:(9223372036854775807:Int)<(N:Int):=(by simpa using h);omega
 rw[c,f];simp only[jFJ,jGv];refine⟨L.in64 (by omega) (by omega),by omega,trivial,by omega,by omega,⟨min 1 N,⟨⟨?_,trivial⟩,?_,trivial⟩,by omega,by omega⟩,fun x a i=>⟨fun h=> ?_,fun h=> ?_⟩⟩
 .rw[jGa];simp only[jGe,jGr];omega
 .rcases jGM N with d|d
  .subst d;rfl
  .obtain⟨M,rfl⟩:∃M,N=M+1:=⟨N-1,by omega⟩;have:min 1 (M+1)=1:=(by omega);rw[this];simp[jwk,U.qe,List.replicate_succ]
 .have h:=of_decide_eq_true h;rw[jng a.1] at h;simp only[jng a.1,jFJ,Int.toNat_zero,List.drop_zero,Nat.sub_zero,jpv a.1,List.take_replicate,jGv];refine⟨by omega,by omega,by omega,by omega,by omega,by omega,by omega,L.in64 (by omega) (by omega),x+min (N-x) x,⟨⟨by omega,trivial⟩,jyn a.1,trivial⟩,⟨by omega,by omega⟩,by omega⟩
 .have h:=of_decide_eq_false h;rw[jng a.1] at h;have h:x=N:=(by have:=a.1;omega);subst h;refine⟨?_,trivial⟩;unfold U.qe;rw[Nat.sub_self];simp
theorem jhC:qa PR 191 jhu:=jjf jhS jjB Tryz.func191 (kcC jrN kcN) koN
theorem jCG {a b:List Int}:nth (a++b) (a.length+Int.toNat 0)=nth b 0:=by
 unfold nth;simp only[jGd,Int.toNat_zero,jGO];rw[jFN (jFE _),Nat.sub_self]
theorem jpU {t:TkD} {s:Int} (a:U.vM t):2<=U.la (U.tc t)/\U.la (U.tc t)<=5/\0<=U.jlG (U.tj t)/\U.jlG (U.tj t)<U.la (U.tc t):=by
 obtain⟨c1,c2,_⟩:=a;obtain⟨b,c,_⟩:=jx c1;obtain⟨_,⟨d,e⟩,_⟩:=jbP c2;exact⟨b,c,d,e⟩
theorem jpz:jme:=by
 unfold jme q32_6 q32_5 q32_4 q32_0 q32_2 q32_3 q32_1;rintro⟨(_|t),s,⟨⟩⟩ h0 m
 .cases h0
 have m:U.vM t:=m;obtain⟨l1,l2,j1,j2⟩:=jpU (s:=s) m;have w:U.tk (some t)=t:=rfl;obtain⟨n,A⟩:∃n,n=(U.la (U.tc t)).toNat:=⟨_,rfl⟩;obtain⟨v,hv⟩:∃v,v=(U.jlG (U.tj t)).toNat:=⟨_,rfl⟩;have hs:v<n:=(by omega);have Y:∀k,jDO (U.jqv t s) n v (U.jP t s k)/\((U.jP t s k).2=[]\/jpm (U.jP t s k).1+(U.jP t s k).2.length+k=n):=by
  intro k;rw[A,hv] at*;exact jiM hs k
 refine⟨rfl,rfl,(by omega:0<=U.la (U.tc t)),(by omega:U.la (U.tc t)<=1000),rfl,j1,?_,rfl,⟨(0,[]),⟨⟨⟨rfl,rfl⟩,trivial⟩,rfl,?_,trivial⟩,jFE _,jFM _⟩,fun x hx T=>⟨fun j V=> ?_,fun h=> ?_⟩⟩
 .show U.jlG (U.tj t)<(((List.replicate (U.la (U.tc t)).toNat (nth [(-1:Int)] 0)).length:Nat):Int);rw[jGv];omega
 .show[U.jlG (U.tj t)]=[]++[(((U.jlG (U.tj t)).toNat:Nat):Int)];rw[jF2,Int.toNat_of_nonneg j1]
 .obtain⟨k,pre⟩:=x;obtain⟨X,H⟩:=hx;simp only[w,List.drop_left] at X H j V T⊢;rw[<-A] at H⊢;obtain⟨B,o⟩:=Y k;have j:0<(U.jP t s k).2.length:=(by have:=of_decide_eq_true j;omega);have d:(U.jP t s k).2≠[]:=fun e=>by rw[e] at j;simp at j
  have F:=B.i.len;rcases o with o|o
  .exact absurd o d
  have p:U.jP t s (k+1)=U.w6 (U.jqv t s) n (U.jP t s k):=(by rw[A];rfl);generalize W:U.jP t s k=x0 at*;obtain⟨g,r0,a⟩:∃q r,x0.2=q::r:=by
   cases I:x0.2 with
   |nil=>exact absurd I d
   |cons q r=>exact⟨q,r,rfl⟩
  obtain⟨M,g2,g3⟩:=B.i.que g (by rw[a];simp);have y:nth x0.2 0=g:=(by rw[a];rfl);have hla:((n:Nat):Int)=U.la (U.tc t):=(by omega);have f:U.jDL t s (x0.1,x0.2) pre.length:=by
   unfold U.jDL;rw[<-A,<-hv];exact⟨B,d,by simp only;omega,by omega⟩
  refine⟨⟨(0,pre),⟨⟨rfl,⟨rfl,rfl⟩,trivial⟩,rfl,rfl,trivial⟩,jFM _,jFE _,f⟩,?_⟩;rintro⟨i,p5⟩ ⟨hi,R,_⟩;simp only at hi R;have C:InI (U.jqv t s) n v g.toNat i x0 (U.wE t s (x0.1,x0.2) i):=by
   have:=jym (J:=U.jqv t s) hs (q:=g.toNat) (by omega) g3 B.i B.le i (by omega);unfold U.wE;simp only[y];exact this
  have c:U.wE t s (x0.1,x0.2) (i+1)=U.jfE (U.jqv t s) g.toNat (U.wE t s (x0.1,x0.2) i) i:=by
   unfold U.wE;simp only[y];exact jl2 _ _ _ _
  have D:i=n->U.jP t s (k+1)=((U.wE t s (x0.1,x0.2) i).1,(U.wE t s (x0.1,x0.2) i).2.drop 1):=by
   intro e;subst e;rw[p];have:U.w6 (U.jqv t s) i x0=((U.jfF (U.jqv t s) g.toNat x0 i).1,(U.jfF (U.jqv t s) g.toNat x0 i).2.drop 1):=by
    clear p c C f F d B Y W;obtain⟨st,qu⟩:=x0;simp only at a;subst a;rfl
   rw[this];unfold U.wE;simp only[y]
  generalize hFI:U.wE t s (x0.1,x0.2) i=u at*;obtain⟨l,Q⟩:=C.pre;have hQ:nth u.2 0=g:=(by rw[Q,a];rfl);have G:0<u.2.length:=(by rw[Q,a];simp);have hmu:=C.mu;have hFl:=C.i.len;have E:∀i:Nat,U.jqv t s g.toNat i=U.jbO t s g (i:Int):=by
   intro i;unfold U.jqv;rw[Int.toNat_of_nonneg M]
  simp only[jCG,hQ];simp only[jFJ];refine⟨fun h=> ?_,fun h=> ?_⟩
  .have h:i<n:=(by have:=of_decide_eq_true h;omega);refine⟨by omega,by omega,fun _=>by omega,fun _=>by omega,fun _=>rfl,fun _=>m,fun _=>M,fun _=>by omega,fun _=>by omega,fun _=>by omega,fun z=> ?_,fun z=> ?_⟩
   .rw[jFD] at z;have h3:=of_decide_eq_true z.1;have Z:=C.i.low g.toNat (by omega);have b:U.wE t s (x0.1,x0.2) (i+1)=(u.1.set i (nth u.1 g.toNat+1),u.2++[(i:Int)]):=by
     rw[c];unfold U.jfE;rw[if_pos ⟨h3,by rw[E];exact z.2⟩]
    refine⟨by omega,by omega,M,by omega,L.in64 (by omega) (by omega),by omega,by omega,by simp,G,by simp only[jGe,jGr];omega,by simp only[jGe,jGr];omega,fun K S=>⟨L.in64 (by omega) (by omega),(i+1,K),⟨⟨by simp,⟨rfl,?_⟩,trivial⟩,?_,?_,trivial⟩,⟨by simp only;omega,by simp only;omega,f⟩,by simp only;omega⟩⟩
    .rw[b];simp
    .rw[b,jFU]
    .rw[b]
   .have b:U.wE t s (x0.1,x0.2) (i+1)=u:=by
     rw[c];unfold U.jfE;rw[if_neg (fun O=>by
      rw[E] at O;rw[O.2,decide_eq_true O.1] at z;cases z)]
    refine⟨L.in64 (by omega) (by omega),(i+1,p5),⟨⟨⟨rfl,?_⟩,by simp,trivial⟩,?_,?_,trivial⟩,⟨by simp only;omega,by simp only;omega,f⟩,by simp only;omega⟩
    .rw[b]
    .rw[b]
    .rw[b]
  .have h:i=n:=(by have:=of_decide_eq_false h;omega);have P:=D h;have N:u.2=g::(r0++l):=(by rw[Q,a];rfl);refine⟨by omega,by omega,by omega,(k+1,p5++[g]),⟨⟨⟨?_,?_⟩,trivial⟩,?_,?_,trivial⟩,⟨by simp only[jFY,jGe,jGr];omega,by simp only;omega⟩,by simp only;omega⟩
   .simp only[jFY,jGe,jGr];rfl
   .rw[P];simp only[jGV];rfl
   .rw[P]
   .rw[P,N];simp
 .simp only[w] at h⊢;have h:(U.jP t s x.1).2=[]:=by
   have:=of_decide_eq_false h;exact jGi (by omega)
  have hk:x.1<=n:=(by have:=hx.2;rw[w,<-A] at this;exact this);have h1:U.qk (U.jqv t s) (U.la (U.tc t)).toNat (U.jlG (U.tj t)).toNat ((U.la (U.tc t)).toNat+1)=U.jP t s x.1:=jBf (k:=x.1) h _ (by rw[<-A];omega);show((U.jP t s x.1).1,())=((U.qk (U.jqv t s) (U.la (U.tc t)).toNat (U.jlG (U.tj t)).toNat ((U.la (U.tc t)).toNat+1)).1,());rw[h1]
theorem jmW:zc PR 157 wn:=kK jnJ jpz Tryz.func157 (kcC jhx kcN) (koC jhC koN)
end Go.X
namespace Go.X
open Go.Proofs
namespace U
def v8 (t:TkD) (o:Int) (q:List (Int×PeD×Unit)):Int:=q.foldl (fun o x=>uor o (kz t x.2.1)) o
def gG (q:List (Int×PeD×Unit)):Bool:=q.any (fun x=>jDa x.2.1)
def jkJ (b:Bool) (o k:Int):Int:=if b=true then uor o k else o
def z7 (t:TkD) (s:Int):Int:=jkJ (decide (nth (jay t s) (jqx (tj t)).toNat<0)) (jkJ (jEO (tl t)&& !gG (jgZ t s)) (jkJ (decide (BT.size s≠max (jAx (tj t)) (jCO (tl t)))) (v8 t 0 (jgZ t s)) 8) 16) 32
def jne (c:CrD) (n:Int):Bool:=ja n 0 (2^(je c).length-1)
def qE (c:CrD) (j:JbD) (n:Int):Int:=if zR c j≠0 then zR c j else if jne c n=true then 0 else 1
def jDM (c:CrD) (j:JbD) (n:Int):Int:=if qE c j n=0 then z7 (c,j,yd c j,()) n else 0
def vR (c:CrD) (j:JbD) (n:Nat):List Int:=((List.range n).filter (fun i=>decide (kz (c,j,yd c j,()) (nth (je c) i)=0))).map (fun(i:Nat)=>(i:Int))
def v6 (c:CrD) (j:JbD):List Int:=if zR c j=0 then vR c j (je c).length else[]
end U
def km:jQ:=⟨[.val (.ptr tTk),.val tPe],[.uint .u64],false,fun d=>[d.1.isSome=true,U.vM (U.tk d.1)],fun d=>(U.kz (U.tk d.1) d.2.1,())⟩
def jxg:jqn [.int,tPe]:={ps:=[.ref (.ptr tTk),.own (.box 146 [.dat (.uint .u64)]) true,.own (.box 4 [.dat .bool]) true],slots:=[2,4,5],dst:=65,pre:=fun d=>[d.1.isSome=true,U.vM (U.tk d.1)],G:=fun d q=>((U.v8 (U.tk d.1) d.2.1.1 q,()),(d.2.2.1.1||U.gG q,()),()),seq:=jtA}
def jiv:Nat->Option ((ts:List Ty)×jqn ts):=fun r=>match r with
 |4=>some ⟨[.int,tPe],jxg⟩
 |_=>none
def jaK:jQ:=⟨[.val (.ptr tTk),.val (.uint .u64)],[.uint .u64],false,fun d=>[d.1.isSome=true,U.vM (U.tk d.1),BT.Set' d.2.1],fun d=>(U.z7 (U.tk d.1) d.2.1,())⟩
abbrev q33_0 (d:Option (CrD×JbD×LwD×Unit)×Int×Unit):=(jX (((0:Int),[],[],()),((0:Int),(0:Int),(0:Int),(0:Int),(0:Int),(0:Int),()),((0:Int),(0:Int),false,()),()) d.1)
abbrev q33_1 (d:Option (CrD×JbD×LwD×Unit)×Int×Unit):=(nth (U.jay (U.tk d.1) d.2.1) (q33_0 d).2.1.1.toNat<0)
abbrev q33_2 (d:Option (CrD×JbD×LwD×Unit)×Int×Unit):=(U.z7 (U.tk d.1) d.2.1,())
abbrev q33_3 (d:Option (CrD×JbD×LwD×Unit)×Int×Unit):=(↑(U.jay (U.tk d.1) d.2.1).length:Int)
def jaG:Prop:=∀(d:Option (CrD×JbD×LwD×Unit)×Int×Unit),d.1.isSome=true->U.vM (U.tk d.1)->BT.Set' d.2.1->(d.1.isSome=true/\(U.je (U.tc (U.tk d.1))).length<=60)/\(d.1.isSome=true/\U.vM (U.tk d.1)/\True)/\(d.1,(U.v8 (U.tk d.1) (0:Int) [],()),(false||U.gG [],()),())=(d.1,((0:Int),()),(false,()),())/\(∀(q:List (Int×PeD×Unit)) (x:Int×PeD×Unit) (rest:List (Int×PeD×Unit)),q++x::rest=U.jgZ (U.tk d.1) d.2.1->kW (fun(a:List (Int×PeD×Unit))=>false) q->d.1.isSome=true/\U.vM (U.tk d.1)/\false=false/\((uor (U.v8 (U.tk d.1) (0:Int) q) (U.kz (U.tk d.1) x.2.1),()),(false||U.gG q||x.2.1.2.2.2.2.1,()),())=((U.v8 (U.tk d.1) (0:Int) (q++[x]),()),(false||U.gG (q++[x]),()),()))/\(∀(xs:List (Int×PeD×Unit)),xs=U.jgZ (U.tk d.1) d.2.1->kW (fun(b:List (Int×PeD×Unit))=>false) xs->BT.Set' d.2.1/\d.1.isSome=true/\d.1.isSome=true/\(decide (BT.size d.2.1≠max (q33_0 d).2.1.2.2.2.2.2.1 (q33_0 d).2.2.1.2.1)=true->d.1.isSome=true/\(((q33_0 d).2.2.1.2.2.1&& !(false||U.gG xs))=true->d.1.isSome=true/\U.vM (U.tk d.1)/\d.1.isSome=true/\(0:Int)<=(q33_0 d).2.1.1/\(q33_0 d).2.1.1<(q33_3 d)/\(decide (q33_1 d)=true->(uor (uor (uor (U.v8 (U.tk d.1) (0:Int) xs) (8:Int)) (16:Int)) (32:Int),())=(q33_2 d))/\(decide (q33_1 d)=false->(uor (uor (U.v8 (U.tk d.1) (0:Int) xs) (8:Int)) (16:Int),())=(q33_2 d)))/\(((q33_0 d).2.2.1.2.2.1&& !(false||U.gG xs))=false->d.1.isSome=true/\U.vM (U.tk d.1)/\d.1.isSome=true/\(0:Int)<=(q33_0 d).2.1.1/\(q33_0 d).2.1.1<(q33_3 d)/\(decide (q33_1 d)=true->(uor (uor (U.v8 (U.tk d.1) (0:Int) xs) (8:Int)) (32:Int),())=(q33_2 d))/\(decide (q33_1 d)=false->(uor (U.v8 (U.tk d.1) (0:Int) xs) (8:Int),())=(q33_2 d))))/\(decide (BT.size d.2.1≠max (q33_0 d).2.1.2.2.2.2.2.1 (q33_0 d).2.2.1.2.1)=false->d.1.isSome=true/\(((q33_0 d).2.2.1.2.2.1&& !(false||U.gG xs))=true->d.1.isSome=true/\U.vM (U.tk d.1)/\d.1.isSome=true/\(0:Int)<=(q33_0 d).2.1.1/\(q33_0 d).2.1.1<(q33_3 d)/\(decide (q33_1 d)=true->(uor (uor (U.v8 (U.tk d.1) (0:Int) xs) (16:Int)) (32:Int),())=(q33_2 d))/\(decide (q33_1 d)=false->(uor (U.v8 (U.tk d.1) (0:Int) xs) (16:Int),())=(q33_2 d)))/\(((q33_0 d).2.2.1.2.2.1&& !(false||U.gG xs))=false->d.1.isSome=true/\U.vM (U.tk d.1)/\d.1.isSome=true/\(0:Int)<=(q33_0 d).2.1.1/\(q33_0 d).2.1.1<(q33_3 d)/\(decide (q33_1 d)=true->(uor (U.v8 (U.tk d.1) (0:Int) xs) (32:Int),())=(q33_2 d))/\(decide (q33_1 d)=false->(U.v8 (U.tk d.1) (0:Int) xs,())=(q33_2 d)))))/\∀(q:List (Int×PeD×Unit)) (x:Int×PeD×Unit) (rest:List (Int×PeD×Unit)),q++x::rest=U.jgZ (U.tk d.1) d.2.1->kW (fun(c:List (Int×PeD×Unit))=>false) q->false=true->(U.v8 (U.tk d.1) (0:Int) (q++[x]),())=(q33_2 d)
theorem jdg:(jtg (jqy 64 [(118,km),(156,wo),(157,wn)] [] [(155,jD)] []) jaK (fun _ _=>none) (hkC (jqy 64 [(118,km),(156,wo),(157,wn)] [] [(155,jD)] []) (fun _=>none) jiv [] []) Tryz.f122 (zu Tryz.f122))=jaG:=by kernel_rfl
def jwQ:jQ:=⟨[.val tCr,.val tJb,.val .int],[.ptr tTk,.int],false,fun _=>[],fun d=>(U.jlr d.1 d.2.1,U.qE d.1 d.2.1 d.2.2.1,())⟩
abbrev q34_1 (d:CrD×JbD×Int×Unit):=(U.zR d.1 d.2.1=0)
abbrev q34_0 (d:CrD×JbD×Int×Unit):=(decide (q34_1 d)&& !U.ja d.2.2.1 (0:Int) ((1:Int)*2^(d.1.2.1.length:Int).toNat-1))
def jwq:Prop:=∀(d:CrD×JbD×Int×Unit),(decide (q34_1 d)=true->d.1.2.1.length<4611686018427387904)->(decide (q34_1 d)=true->0<=(d.1.2.1.length:Int))/\(decide (q34_1 d)=true->(d.1.2.1.length:Int)<=64)/\(decide (q34_1 d)=true->jz ((1:Int)*2^(d.1.2.1.length:Int).toNat))/\(decide (q34_1 d)=true->jz ((1:Int)*2^(d.1.2.1.length:Int).toNat-1))/\((q34_0 d)=true->(U.jlr d.1 d.2.1,(1:Int),())=(U.jlr d.1 d.2.1,U.qE d.1 d.2.1 d.2.2.1,()))/\((q34_0 d)=false->(U.jlr d.1 d.2.1,U.zR d.1 d.2.1,())=(U.jlr d.1 d.2.1,U.qE d.1 d.2.1 d.2.2.1,()))
def jq2:jQ:=⟨[.val tCr,.val tJb,.val .int],[.int,.int],false,fun _=>[],fun d=>(U.jDM d.1 d.2.1 d.2.2.1,U.qE d.1 d.2.1 d.2.2.1,())⟩
def jqE:Prop:=∀(d:CrD×JbD×Int×Unit),(decide (U.qE d.1 d.2.1 d.2.2.1≠0)=true->((0:Int),U.qE d.1 d.2.1 d.2.2.1,())=(U.jDM d.1 d.2.1 d.2.2.1,U.qE d.1 d.2.1 d.2.2.1,()))/\(decide (U.qE d.1 d.2.1 d.2.2.1≠0)=false->0<=d.2.2.1/\d.2.2.1<=18446744073709551615/\(U.jlr d.1 d.2.1).isSome=true/\U.vM (U.tk (U.jlr d.1 d.2.1))/\BT.Set' d.2.2.1/\jz (U.z7 (U.tk (U.jlr d.1 d.2.1)) d.2.2.1)/\(U.z7 (U.tk (U.jlr d.1 d.2.1)) d.2.2.1,(0:Int),())=(U.jDM d.1 d.2.1 d.2.2.1,U.qE d.1 d.2.1 d.2.2.1,()))
def jzW:jQ:=⟨[.val tCr,.val tJb],[.slice .int,.int],false,fun _=>[],fun d=>(U.v6 d.1 d.2.1,U.zR d.1 d.2.1,())⟩
def jBj:Ann:=fun r=>match r with
 |6=>some fun σ=>{X:=Nat,sl:=fun i=>[(23,.dat .int (i:Int)),(8,.own 8 .int)],ob:=fun i=>[(8,some (.row 3 .int false .yes (U.vR (gd tCr σ 0) (gd tJb σ 1) i)))],inv:=fun i=>i<=(U.je (gd tCr σ 0)).length,mu:=fun i=>(U.je (gd tCr σ 0)).length-i}
 |_=>none
def jzL:Prop:=∀(d:CrD×JbD×Unit),(decide (U.zR d.1 d.2.1≠0)=true->([],U.zR d.1 d.2.1,())=(U.v6 d.1 d.2.1,U.zR d.1 d.2.1,()))/\(decide (U.zR d.1 d.2.1≠0)=false->d.1.2.1.length<4611686018427387904->(∃(x:Nat),((0=(x:Int)/\True/\True)/\U.vR d.1 d.2.1 x=[]/\True)/\x<=(U.je d.1).length)/\∀(x:Nat),x<=(U.je d.1).length->(decide ((x:Int)<(d.1.2.1.length:Int))=true->0<=(x:Int)/\(x:Int)<(d.1.2.1.length:Int)/\(U.jlr d.1 d.2.1).isSome=true/\U.vM (U.tk (U.jlr d.1 d.2.1))/\(decide (U.kz (U.tk (U.jlr d.1 d.2.1)) (nth d.1.2.1 (x:Int).toNat)=0)=true->((U.vR d.1 d.2.1 x).length+[(x:Int)].length)*8<=140737488355328/\jz ((x:Int)+1)/\∃(a:Nat),(((x:Int)+1=(a:Int)/\True/\True)/\U.vR d.1 d.2.1 x++[(x:Int)]=U.vR d.1 d.2.1 a/\True)/\a<=(U.je d.1).length/\(U.je d.1).length-a<(U.je d.1).length-x)/\(decide (U.kz (U.tk (U.jlr d.1 d.2.1)) (nth d.1.2.1 (x:Int).toNat)=0)=false->jz ((x:Int)+1)/\∃(a:Nat),((True/\(x:Int)+1=(a:Int)/\True)/\U.vR d.1 d.2.1 x=U.vR d.1 d.2.1 a/\True)/\a<=(U.je d.1).length/\(U.je d.1).length-a<(U.je d.1).length-x))/\(decide ((x:Int)<(d.1.2.1.length:Int))=false->(U.vR d.1 d.2.1 x,(0:Int),())=(U.v6 d.1 d.2.1,U.zR d.1 d.2.1,())))
end Go.X
namespace Go.X
open Go.Proofs
theorem jwC (a b c:Bool):0<=U.jut a b c/\U.jut a b c<=7:=by
 unfold U.jut U.jDK;cases a<;>cases b<;>cases c<;>simp
theorem jki (t:TkD) (p:PeD):0<=U.kz t p/\U.kz t p<=7:=jwC _ _ _
theorem joD {s:Int} (h:0<=s/\s<=1000):BT.Set' s:=by unfold BT.Set';omega
theorem jww {a b:Int} (c:0<=a/\a<64) (d:0<=b/\b<64):0<=uor a b/\uor a b<64:=by
 obtain⟨n,rfl⟩:∃n:Nat,a=(n:Int):=⟨a.toNat,by omega⟩;obtain⟨m,rfl⟩:∃m:Nat,b=(m:Int):=⟨b.toNat,by omega⟩;rw[BT.uor_nat (by omega) (by omega)];have:n|||m<2^6:=Nat.or_lt_two_pow (by omega) (by omega);omega
theorem jqQ (t:TkD):∀(q:List (Int×PeD×Unit)) (o:Int),(0<=o/\o<64)->0<=U.v8 t o q/\U.v8 t o q<64
 |[],o,h=>h
 |x::q,o,h=>by
  have:=jki t x.2.1
  exact jqQ t q _ (jww h ⟨by omega,by omega⟩)
theorem jiZ {b:Bool} {o k:Int} (h:0<=o/\o<64) (hk:0<=k/\k<64):0<=U.jkJ b o k/\U.jkJ b o k<64:=by
 unfold U.jkJ
 split
 .exact jww h hk
 .exact h
theorem jvV (t:TkD) (s:Int):0<=U.z7 t s/\U.z7 t s<64:=by
 unfold U.z7;exact jiZ (jiZ (jiZ (jqQ t _ _ (by omega)) (by omega)) (by omega)) (by omega)
theorem jwx (t:TkD) (o:Int) (q:List (Int×PeD×Unit)) (x:Int×PeD×Unit):U.v8 t o (q++[x])=uor (U.v8 t o q) (U.kz t x.2.1):=by
 unfold U.v8;rw[jFX];rfl
theorem jAT {t:TkD} {s:Int} (a:U.vM t):((U.jay t s).length:Int)=U.la (U.tc t):=by
 obtain⟨f,g,c,d⟩:=jpU (s:=s) a;have b:(U.jlG (U.tj t)).toNat<(U.la (U.tc t)).toNat:=(by omega);have:=(jiM (J:=U.jqv t s) b ((U.la (U.tc t)).toNat+1)).1.i.len;have e:(U.jay t s).length=(U.la (U.tc t)).toNat:=this;omega
theorem jjx:jaG:=by
 unfold jaG q33_3 q33_2 q33_1 q33_0;rintro⟨(_|t),s,⟨⟩⟩ n a c
 .cases n
 have a:U.vM t:=a;have c:BT.Set' s:=c;obtain⟨c1,c2,_⟩:=id a;obtain⟨_,_,p,_⟩:=jx c1;obtain⟨⟨m,r⟩,_⟩:=jbP c2;have o:=jAT (s:=s) a;have f:U.tk (some t)=t:=rfl;have b:0<=U.jqx (U.tj t)/\U.jqx (U.tj t)<(((U.jay t s).length:Nat):Int):=⟨m,by omega⟩;refine⟨⟨rfl,(by omega:(U.je (U.tc t)).length<=60)⟩,⟨rfl,a,trivial⟩,rfl,fun q x rest u _=>⟨rfl,a,rfl,?_⟩,fun xs g _=>⟨c,rfl,rfl,?_⟩,fun q x rest _ _ h=>by cases h⟩
 .simp only[f,jwx];unfold U.gG;simp only[List.any_append,List.any_cons,List.any_nil,Bool.or_false,Bool.false_or];rfl
 .simp only[f] at g⊢;subst g;have key:∀(j k l:Bool),decide (BT.size s≠max (U.jAx (U.tj t)) (U.jCO (U.tl t)))=j->(U.jEO (U.tl t)&& !U.gG (U.jgZ t s))=k->decide (nth (U.jay t s) (U.jqx (U.tj t)).toNat<0)=l->
   U.jkJ l (U.jkJ k (U.jkJ j (U.v8 t 0 (U.jgZ t s)) 8) 16) 32=U.z7 t s:=by
   intro j k l i e d;unfold U.z7;rw[i,e,d]
  refine⟨fun i=>⟨rfl,fun e=>⟨rfl,a,rfl,b.1,b.2,fun d=> ?_,fun d=> ?_⟩,fun e=>⟨rfl,a,rfl,b.1,b.2,fun d=> ?_,fun d=> ?_⟩⟩,fun i=>⟨rfl,fun e=>⟨rfl,a,rfl,b.1,b.2,fun d=> ?_,fun d=> ?_⟩,fun e=>⟨rfl,a,rfl,b.1,b.2,fun d=> ?_,fun d=> ?_⟩⟩⟩<;>
   (rw[Bool.false_or] at e;have:=key _ _ _ i e d;rw[<-this];rfl)
theorem jf9 {c:CrD} (h:U.jl c=true):(0:Int)<2^(U.je c).length/\(2:Int)^(U.je c).length<=256:=by
 obtain⟨_,_,a,_⟩:=jx h;rw[BT.two_nat];have b:2^(U.je c).length<=2^8:=jGH (by decide) a;have d:0<2^(U.je c).length:=Nat.pow_pos (by decide);omega
theorem jAG:jwq:=by
 unfold jwq q34_0 q34_1;rintro⟨c,j,n,⟨⟩⟩ _;have e:∀l:Nat,(1:Int)*2^((l:Int)).toNat=2^l:=fun l=>by rw[Int.one_mul,jFJ]
 simp only[e];refine⟨fun _=>by omega,fun h=> ?_,fun h=> ?_,fun h=> ?_,fun h=> ?_,fun h=> ?_⟩
 .have:=(jx (jd5 (of_decide_eq_true h)).1).2.2.1;have this:c.2.1.length<=8:=this;omega
 .have:=jf9 (jd5 (of_decide_eq_true h)).1;have this:(0:Int)<2^c.2.1.length/\(2:Int)^c.2.1.length<=256:=this;exact L.in64 (by omega) (by omega)
 .have:=jf9 (jd5 (of_decide_eq_true h)).1;have this:(0:Int)<2^c.2.1.length/\(2:Int)^c.2.1.length<=256:=this;exact L.in64 (by omega) (by omega)
 .rw[jFD] at h;have a:=of_decide_eq_true h.1;have b:U.jne c n=false:=by
   have d:U.ja n 0 (2^c.2.1.length-1)=false:=(by simpa using h.2);exact d
  unfold U.qE;rw[if_neg (by omega),if_neg (by rw[b];simp)]
 .unfold U.qE;by_cases a:U.zR c j=0
  .rw[decide_eq_true a,Bool.true_and] at h;have b:U.jne c n=true:=by
    have d:U.ja n 0 (2^c.2.1.length-1)=true:=(by simpa using h);exact d
   rw[if_neg (by omega),if_pos b,a]
  .rw[if_pos a]
theorem jxG:zc PR 121 jwQ:=jR jAG Tryz.func121 (kcC jo4 (kcC wJ kcN)) koN
theorem juq {c:CrD} {j:JbD} {n:Int} (h:U.qE c j n=0):U.zR c j=0/\0<=n/\n<2^(U.je c).length:=by
 unfold U.qE at h
 split at h
 .rename_i b;omega
 .rename_i b
  split at h
  .rename_i a;unfold U.jne U.ja at a;simp only[jFD,decide_eq_true_eq] at a;exact⟨by omega,a.1,by omega⟩
  .omega
theorem jvj:jqE:=by
 rintro⟨c,j,n,⟨⟩⟩;refine⟨fun h=> ?_,fun h=> ?_⟩
 .have h:U.qE c j n≠0:=of_decide_eq_true h;simp only;unfold U.jDM;rw[if_neg h]
 .have h:U.qE c j n=0:=(by simpa using h);obtain⟨d,e,g⟩:=juq h;obtain⟨b,f⟩:=jxw d;have k:=jf9 (jd5 d).1;have a:U.tk (U.jlr c j)=(c,j,U.yd c j,()):=(by rw[b];rfl);have i:=jvV (c,j,U.yd c j,()) n;simp only[a];refine⟨e,by omega,by rw[b];rfl,f,joD ⟨e,by omega⟩,L.in64 (by omega) (by omega),?_⟩;unfold U.jDM;rw[if_pos h,h]
theorem jlB (c:CrD) (j:JbD) (n:Nat):U.vR c j (n+1)=U.vR c j n++(if U.kz (c,j,U.yd c j,()) (nth (U.je c) n)=0 then[(n:Int)] else[]):=by
 unfold U.vR;rw[L.range_filter_succ,jGA];by_cases h:U.kz (c,j,U.yd c j,()) (nth (U.je c) n)=0
 .rw[if_pos (decide_eq_true h),if_pos h];rfl
 .rw[if_neg (by simpa using h),if_neg h];rfl
theorem jx1 (c:CrD) (j:JbD) (n:Nat):(U.vR c j n).length<=n:=by
 unfold U.vR;rw[jGR];exact jFR (List.length_filter_le _ _) (by simp)
theorem jCV:jzL:=by
 rintro⟨c,j,⟨⟩⟩;refine⟨fun h=> ?_,fun h _=>⟨⟨0,⟨⟨rfl,trivial,trivial⟩,rfl,trivial⟩,jFM _⟩,fun x f=>⟨fun a=> ?_,fun a=> ?_⟩⟩⟩
 .have h:U.zR c j≠0:=of_decide_eq_true h;simp only;unfold U.v6;rw[if_neg h]
 .have h:U.zR c j=0:=(by simpa using h);obtain⟨e,g⟩:=jxw h;have d:U.tk (U.jlr c j)=(c,j,U.yd c j,()):=(by rw[e];rfl);have a:x<(U.je c).length:=by
   have a:=of_decide_eq_true a;have a:(x:Int)<((U.je c).length:Int):=a;omega
  have i:(x:Int)<((U.je c).length:Int):=(by omega);have k:=(jx (jd5 h).1).2.2.1;have l:=jx1 c j x;simp only[d,jFJ];refine⟨by omega,i,by rw[e];rfl,g,fun b=>⟨by simp only[jGe,jGr];omega,L.in64 (by omega) (by omega),x+1,⟨⟨by simp,trivial,trivial⟩,?_,trivial⟩,a,by omega⟩,fun b=>⟨L.in64 (by omega) (by omega),x+1,⟨⟨trivial,by simp,trivial⟩,?_,trivial⟩,a,by omega⟩⟩
  .have b:U.kz (c,j,U.yd c j,()) (nth (U.je c) x)=0:=of_decide_eq_true b;rw[jlB,if_pos b]
  .have b:¬U.kz (c,j,U.yd c j,()) (nth (U.je c) x)=0:=of_decide_eq_false b;rw[jlB,if_neg b,jGb]
 .have h:U.zR c j=0:=(by simpa using h);have a:(U.je c).length<=x:=by
   have a:=of_decide_eq_false a;have a:¬(x:Int)<((U.je c).length:Int):=a;omega
  have f:x<=(U.je c).length:=f;simp only;unfold U.v6;rw[if_pos h,h,show x=(U.je c).length by omega]
end Go.X
namespace Go.X
open Go.Proofs
def jke:Ann:=fun r=>match r with
 |2=>some fun σ=>{X:=List (Int×Int)×Int,sl:=fun x=>[(4,.dat (.uint .u64) x.2)],ob:=fun x=>[(37,some (.iter .int .int x.1 none))],inv:=fun x=>U.qV (U.jff (U.tk (gd (.ptr tTk) σ 0)) (gd tPe σ 1)) x.1 x.2,mu:=fun x=>x.1.length}
 |_=>none
abbrev q37_0 (d:Option (CrD×JbD×LwD×Unit)×PeD×Unit):=(jX (((0:Int),[],[],()),((0:Int),(0:Int),(0:Int),(0:Int),(0:Int),(0:Int),()),((0:Int),(0:Int),false,()),()) d.1)
def jik:Prop:=∀(d:Option (CrD×JbD×LwD×Unit)×PeD×Unit),d.1.isSome=true->U.vM (U.tk d.1)->d.1.isSome=true/\d.1.isSome=true/\(0:Int)<=(q37_0 d).2.1.2.2.2.1/\(q37_0 d).2.1.2.2.2.1<=64/\d.1.isSome=true/\(0:Int)<=(q37_0 d).2.1.2.2.2.2.1/\(q37_0 d).2.1.2.2.2.2.1<=64/\[(0:Int),(1:Int),(2:Int)].Nodup/\∀(l:List (Int×Int)),l.Perm [((0:Int),U.jDK !d.2.1.2.2.2.1.any fun(e:Int)=>decide (e=(q37_0 d).2.1.2.2.1)),((1:Int),qz (d.2.1.2.1/(2:Int)^(q37_0 d).2.1.2.2.2.1.toNat) (1:Int)),((2:Int),qz (d.2.1.2.2.1/(2:Int)^(q37_0 d).2.1.2.2.2.2.1.toNat) (1:Int))]->(((∃(x:List (Int×Int)×Int),((0=x.2/\True)/\l=x.1/\True)/\U.qV (U.jff (U.tk d.1) d.2.1) x.1 x.2)/\∀(x:List (Int×Int)×Int),U.qV (U.jff (U.tk d.1) d.2.1) x.1 x.2->(x.1=[]->(false=true->False)/\(false=false->(x.2,())=(U.kz (U.tk d.1) d.2.1,())))/\∀(pre:List (Int×Int)) (a:Int×Int) (b:List (Int×Int)),x.1=pre++a::b->(true=true->(decide (a.2=0)=true->0<=a.1/\a.1<=64/\(0:Int)<=1*2^a.1.toNat/\(1:Int)*2^a.1.toNat<=18446744073709551615/\∃(c:List (Int×Int)×Int),((uor x.2 ((1:Int)*2^a.1.toNat)=c.2/\True)/\pre++b=c.1/\True)/\U.qV (U.jff (U.tk d.1) d.2.1) c.1 c.2/\c.1.length<x.1.length)/\(decide (a.2=0)=false->∃(c:List (Int×Int)×Int),((x.2=c.2/\True)/\pre++b=c.1/\True)/\U.qV (U.jff (U.tk d.1) d.2.1) c.1 c.2/\c.1.length<x.1.length))/\(true=false->(x.2,())=(U.kz (U.tk d.1) d.2.1,())))/\True)/\True
end Go.X
namespace Go.X
open Go.Proofs
theorem jtX (z:Int):qz z 1=0\/qz z 1=1:=by
 unfold qz;rw[BitVec.toNat_and];have a:(BitVec.ofInt 64 1).toNat=1:=rfl;rw[a,Nat.and_one_is_mod];rcases Nat.mod_two_eq_zero_or_one (BitVec.ofInt 64 z).toNat with h|h
 .rw[h];exact .inl rfl
 .rw[h];exact .inr rfl
theorem jtW (s n:Int):(qz (s/2^n.toNat) 1=0)↔(!U.jM s n)=true:=by
 unfold U.jM;rcases jtX (s/2^n.toNat) with h|h<;>rw[h]<;>simp
theorem jzT (a b c:Bool) (p:Nat):BT.has (U.jut a b c) p=true↔(a=true/\p=0)\/(b=true/\p=1)\/(c=true/\p=2):=by
 match p with
 |0=>cases a<;>cases b<;>cases c<;>decide
 |1=>cases a<;>cases b<;>cases c<;>decide
 |2=>cases a<;>cases b<;>cases c<;>decide
 |p+3=>
  have h:=jwC a b c;have:BT.has (U.jut a b c) (p+3)=false:=by
   cases d:BT.has (U.jut a b c) (p+3) with
   |false=>rfl
   |true=>have:=BT.has_lt (k:=3) h.1 (by omega) d;omega
  rw[this];simp
theorem jAw (t:TkD) (p:PeD) (k:Nat):(∃e∈U.jff t p,e.2=0/\e.1.toNat=k)↔BT.has (U.kz t p) k=true:=by
 unfold U.kz;rw[jzT];have c:U.jDK (!U.vE p (U.jzH (U.tj t)))=0↔U.vE p (U.jzH (U.tj t))=true:=by
  unfold U.jDK;cases U.vE p (U.jzH (U.tj t))<;>simp
 have d:=jtW (U.fd p) (U.jrX (U.tj t));have f:=jtW (U.cl p) (U.jqw (U.tj t));unfold U.jff;simp only[jFC,List.not_mem_nil,or_false];rw[<-c,<-d,<-f];constructor
 .rintro⟨e,(rfl|rfl|rfl),a,b⟩
  .exact .inl ⟨a,b.symm⟩
  .exact .inr (.inl ⟨a,b.symm⟩)
  .exact .inr (.inr ⟨a,b.symm⟩)
 .rintro(⟨a,b⟩|⟨a,b⟩|⟨a,b⟩)
  .exact⟨_,.inl rfl,a,b.symm⟩
  .exact⟨_,.inr (.inl rfl),a,b.symm⟩
  .exact⟨_,.inr (.inr rfl),a,b.symm⟩
theorem jAv {t:TkD} {p:PeD} {e:Int×Int} (h:e∈U.jff t p):0<=e.1/\e.1<=2:=by
 unfold U.jff at h;simp only[jFC,List.not_mem_nil,or_false] at h;rcases h with rfl|rfl|rfl<;>simp
theorem jve (t:TkD) (p:PeD):(U.jff t p).Nodup:=by
 unfold U.jff;simp
theorem jsT {t:TkD} {p:PeD} {l:List (Int×Int)} (h:l.Perm (U.jff t p)):U.qV (U.jff t p) l 0:=by
 refine⟨BT.zero_set,h.symm.nodup (jve t p),fun e c=>h.mem_iff.1 c,fun k=> ?_⟩;rw[BT.has_zero];constructor
 .intro h;cases h
 .rintro⟨e,a,b,_⟩;exact absurd (h.mem_iff.2 a) b
theorem jwb {t:TkD} {p:PeD} {s:Int} (h:U.qV (U.jff t p) [] s):s=U.kz t p:=by
 obtain⟨a,_,_,c⟩:=h;refine BT.ext a (joD (by have:=jki t p;omega)) (fun k=> ?_);rw[jF6,c,<-jAw];constructor
 .rintro⟨e,a,_,b⟩;exact⟨e,a,b⟩
 .rintro⟨e,a,b⟩;exact⟨e,a,by simp,b⟩
theorem jl6 {all pre a:List (Int×Int)} {e:Int×Int} {s j:Int} (h:U.qV all (pre++e::a) s) (p:BT.Set' j) (hk:∀k,BT.has j k=true↔BT.has s k=true\/(e.2=0/\e.1.toNat=k)):U.qV all (pre++a) j:=by
 obtain⟨q,m,l,n⟩:=h;have i:(e::(pre++a)).Nodup:=List.perm_middle.nodup m;have b:∀x,x∈pre++e::a↔x=e\/x∈pre++a:=fun x=>by rw[List.perm_middle.mem_iff,jFC]
 rw[jGt] at i;refine⟨p,i.2,fun x c=>l x ((b x).2 (.inr c)),fun k=> ?_⟩;rw[hk,n];constructor
 .rintro(⟨x,d,f,g⟩|⟨d,f⟩)
  .exact⟨x,d,fun c=>f ((b x).2 (.inr c)),g⟩
  .exact⟨e,l e ((b e).2 (.inl rfl)),i.1,d,f⟩
 .rintro⟨x,d,f,g⟩;by_cases c:x=e
  .subst c;exact .inr g
  .exact .inl ⟨x,d,fun o=>by rcases(b x).1 o with h|h;exact c h;exact f h,g⟩
theorem jkS:jik:=by
 unfold jik q37_0;rintro⟨(_|t),p,⟨⟩⟩ s d
 .cases s
 have d:U.vM t:=d;have r:U.tk (some t)=t:=rfl;obtain⟨c1,c2,_⟩:=id d;obtain⟨_,_,_,⟨m,o⟩,⟨n,q⟩,_⟩:=jbP c2;have m:0<=t.2.1.2.2.2.1:=m;have o:t.2.1.2.2.2.1<=7:=o;have n:0<=t.2.1.2.2.2.2.1:=n;have q:t.2.1.2.2.2.2.1<=3:=q;refine⟨rfl,rfl,m,by simp only[jX];omega,rfl,n,by simp only[jX];omega,by decide,fun l w=>⟨⟨⟨⟨(l,0),⟨⟨rfl,trivial⟩,rfl,trivial⟩,jsT w⟩,fun x b=>⟨fun h=>⟨fun h=>(by cases h),fun _=> ?_⟩,fun pre e a h=>⟨fun _=> ?_,fun h=>(by cases h)⟩⟩⟩,trivial⟩,trivial⟩⟩
 .rw[h] at b;rw[jwb b]
 .rw[h] at b;have u:e∈U.jff t p:=b.2.2.1 e (by simp);have hk:=jAv u;obtain⟨k,g,v⟩:∃k:Nat,e.1=(k:Int)/\k<=2:=⟨e.1.toNat,by omega,by omega⟩;have y:(1:Int)*2^k=2^k:=Int.one_mul _;have c:(pre++a).length<x.1.length:=(by rw[h];simp);have i:BT.Set' ((2:Int)^k):=BT.two_set (by omega);refine⟨fun f=> ?_,fun f=> ?_⟩
  .have f:e.2=0:=of_decide_eq_true f;rw[g,jFJ,y];refine⟨by omega,by omega,by unfold BT.Set' at i;omega,by unfold BT.Set' at i;omega,(pre++a,uor x.2 (2^k)),⟨⟨rfl,trivial⟩,rfl,trivial⟩,jl6 b (BT.uor_set b.1 i) (fun j=> ?_),c⟩;rw[BT.has_uor b.1 i,BT.has_two,jGJ,decide_eq_true_eq,g,jFJ];simp[f]
  .have f:¬e.2=0:=of_decide_eq_false f;exact⟨(pre++a,x.2),⟨⟨rfl,trivial⟩,rfl,trivial⟩,jl6 b b.1 (fun j=>by simp[f]),c⟩
theorem jbz:zc PR 118 km:=kK jke jkS Tryz.func118 (kcC yn (kcC juX kcN)) koN
theorem jp7:(jqy 64 [(118,km),(156,wo),(157,wn)] [] [(155,jD)] []).ok PR:=jsB ⟨fun _=>jbz,fun _=>jmX,fun _=>jmW,trivial⟩ trivial ⟨ga,trivial⟩ trivial
theorem jhy:zc PR 122 jaK:=
 jxh (body:=zu Tryz.f122) (C:=jqy 64 [(118,km),(156,wo),(157,wn)] [] [(155,jD)] []) (hk:=hkC (jqy 64 [(118,km),(156,wo),(157,wn)] [] [(155,jD)] []) (fun _=>none) jiv [] []) jp7 mixed Tryz.func122 (by kernel_rfl) (by kernel_rfl) (by kernel_rfl) (by decide)
  (fun B=>jlN jp7 mixed (fun k ts rs sv d L v ρ hk c a b=>by
   unfold jiv at hk
   split at hk
   case h_2=>cases hk
   simp only[Option.some.injEq] at hk
   cases hk
   exact jpo c a b) jCH B) (jdg.mpr jjx)
theorem jrG:zc PR 81 jq2:=jR jvj Tryz.func81 (kcC jxG (kcC jhy kcN)) koN
theorem jAh:zc PR 79 jzW:=kK jBj jCV Tryz.func79 (kcC jo4 (kcC jbz kcN)) koN
end Go.X
namespace Go.X
namespace U
def gK (a b:Int):Int:=if a<b then-1 else if b<a then 1 else 0
def wv (l:List Int):Int:=match l.find? (fun n=>decide (n≠0)) with|some n=>n|none=>0
end U
structure jba {α:Type} (c:α->α->Int):Prop where
 anti:∀a b,c b a= -(c a b)
 trans:∀a b d,c a b<=0->c b d<=0->c a d<=0
section
variable {α:Type} {c c1 c2:α->α->Int}
theorem jba.refl (h:jba c) (a:α):c a a=0:=by have:=h.anti a a;omega
theorem jba.lt_le (h:jba c) {a b d:α} (g:c a b<0) (f:c b d<=0):c a d<0:=by
 have i:=h.trans a b d (by omega) f;have j:=h.anti a d;have k:=h.anti a b;by_cases e:c a d=0
 .have:=h.trans b d a f (by omega);omega
 .omega
theorem jba.le_lt (h:jba c) {a b d:α} (f:c a b<=0) (g:c b d<0):c a d<0:=by
 have i:=h.trans a b d f (by omega);have j:=h.anti a d;have k:=h.anti b d;by_cases e:c a d=0
 .have:=h.trans d a b (by omega) f;omega
 .omega
theorem jba.eq_eq (h:jba c) {a b d:α} (e:c a b=0) (f:c b d=0):c a d=0:=by
 have g:=h.trans a b d (by omega) (by omega);have i:=h.anti a d;have j:=h.anti a b;have k:=h.anti b d;have:=h.trans d b a (by omega) (by omega);omega
def jzG (c1 c2:α->α->Int) (a b:α):Int:=if c1 a b≠0 then c1 a b else c2 a b
theorem jgm (c:jba c1) (g:jba c2):jba (jzG c1 c2) where
 anti a b:=by
  have i:=c.anti a b;have h:=g.anti a b;unfold jzG;by_cases e:c1 a b=0
  .rw[if_neg (by omega),if_neg (by omega)];exact h
  .rw[if_pos (by omega),if_pos e];exact i
 trans a b d:=by
  unfold jzG;by_cases e:c1 a b=0
  .rw[if_neg (by omega)];by_cases f:c1 b d=0
   .rw[if_neg (by omega),if_neg (by have:=c.eq_eq e f;omega)];exact g.trans a b d
   .rw[if_pos f];intro _ k;have:=c.le_lt (a:=a) (b:=b) (d:=d) (by omega) (by omega);rw[if_pos (by omega)];omega
  .rw[if_pos e];intro k;by_cases f:c1 b d=0
   .rw[if_neg (by omega)];intro _;have:=c.lt_le (a:=a) (b:=b) (d:=d) (by omega) (by omega);rw[if_pos (by omega)];omega
   .rw[if_pos f];intro h;have:=c.lt_le (a:=a) (b:=b) (d:=d) (by omega) (by omega);rw[if_pos (by omega)];omega
theorem jgU {e:Type} (h:jba c) (f:e->α):jba (fun a b=>c (f a) (f b)):=⟨fun a b=>h.anti (f a) (f b),fun a b d=>h.trans (f a) (f b) (f d)⟩
end
theorem jfC:jba U.gK:=by
 constructor
 .intro a b;unfold U.gK;split<;>split<;>(try split)<;>(try split)<;>omega
 .intro a b d;unfold U.gK;split<;>split<;>(try split)<;>(try split)<;>(try split)<;>(try split)<;>omega
theorem jy7 {a b:Int}:U.gK a b<0↔a<b:=by
 unfold U.gK
 split
 .simp;omega
 .split<;>simp<;>omega
theorem vn {a b:Int}:U.gK a b=0↔a=b:=by
 unfold U.gK
 split
 .simp;omega
 .split
  .simp;omega
  .simp;omega
theorem zq (x:Int) (l:List Int):U.wv (x::l)=if x≠0 then x else U.wv l:=by
 unfold U.wv;by_cases e:x=0
 .simp[List.find?,e]
 .simp[List.find?,e]
theorem wg (x:Int):U.wv [x]=x:=by
 rw[zq]
 split
 .rfl
 .rename_i h;have:x=0:=(by omega);rw[this];rfl
theorem jmR {t:Ty} {c:t.Data->t.Data->Int} (d:jba c) {l:List t.Data} (h:∀x y,x∈l->y∈l->c x y=0->x=y):kD (U.jg t fun x=>(c x.1 x.2.1,())) l where
 irrefl x _:=by
  unfold U.jg;have:=d.refl x;simp only[this];rfl
 trans x y z _ _ _ b a:=by
  unfold U.jg at*;have b:=of_decide_eq_true b;have a:=of_decide_eq_true a;exact decide_eq_true (d.lt_le b (by have a:c y z<0:=a;show c y z<=0;omega))
 total x y hx hy b a:=by
  unfold U.jg at*;have b:¬c x y<0:=of_decide_eq_false b;have a:¬c y x<0:=of_decide_eq_false a;have:=d.anti x y;exact h x y hx hy (by omega)
end Go.X
namespace Go.X
namespace M
theorem mput_cons {kt:Ty} {a:Type} (k:kt.Data) (v:a) (e:kt.Data×a) (r:List (kt.Data×a)):jdM kt k v (e::r)=if @decide (k=e.1) (kt.decEq k e.1)=true then(k,v)::r else e::jdM kt k v r:=rfl
theorem mfind_cons {kt:Ty} {a:Type} (k:kt.Data) (e:kt.Data×a) (r:List (kt.Data×a)):zA kt k (e::r)=if @decide (k=e.1) (kt.decEq k e.1)=true then some e.2 else zA kt k r:=rfl
theorem dec_self {kt:Ty} (k:kt.Data): @decide (k=k) (kt.decEq k k)=true:= @decide_eq_true _ (kt.decEq k k) rfl
theorem mput_fst {kt:Ty} {b:Type} (k:kt.Data) (v:b):∀m:List (kt.Data×b),(jdM kt k v m).map (·.1)=m.map (·.1)\/(k∉m.map (·.1)/\(jdM kt k v m).map (·.1)=m.map (·.1)++[k])
 |[]=> .inr ⟨by simp,rfl⟩
 |e::r=>by
  rw[mput_cons]
  by_cases h: @decide (k=e.1) (kt.decEq k e.1)=true
  .rw[if_pos h]
   have h:k=e.1:= @of_decide_eq_true _ (kt.decEq k e.1) h
   left
   simp[h]
  .rw[if_neg h]
   have h:¬k=e.1:=fun a=>h (@decide_eq_true _ (kt.decEq k e.1) a)
   rcases mput_fst k v r with f|⟨c,d⟩
   .left;simp only[jGz,f]
   .right
    refine⟨?_,by simp only[jGz,d,jF4]⟩
    rw[jGz,jFC]
    rintro(a|a)
    .exact h a
    .exact c a
theorem mfind_mput {kt:Ty} {a:Type} (k:kt.Data) (v:a):∀l:List (kt.Data×a),zA kt k (jdM kt k v l)=some v
 |[]=>by
  rw[show jdM kt k v []=[(k,v)] from rfl,mfind_cons,if_pos (dec_self k)]
 |e::r=>by
  rw[mput_cons]
  by_cases h: @decide (k=e.1) (kt.decEq k e.1)=true
  .rw[if_pos h,mfind_cons,if_pos (dec_self k)]
  .rw[if_neg h,mfind_cons,if_neg h]
   exact mfind_mput k v r
theorem mfind_mput_ne {kt:Ty} {b:Type} {k k':kt.Data} (a:k'≠k) (v:b):∀l:List (kt.Data×b),zA kt k' (jdM kt k v l)=zA kt k' l
 |[]=>by
  rw[show jdM kt k v []=[(k,v)] from rfl,mfind_cons,if_neg (fun e=>a (@of_decide_eq_true _ (kt.decEq k' k) e))]
 |e::r=>by
  rw[mput_cons]
  by_cases h: @decide (k=e.1) (kt.decEq k e.1)=true
  .rw[if_pos h]
   have h:k=e.1:= @of_decide_eq_true _ (kt.decEq k e.1) h
   have d:¬@decide (k'=e.1) (kt.decEq k' e.1)=true:=fun c=>a ((@of_decide_eq_true _ (kt.decEq k' e.1) c).trans h.symm)
   rw[mfind_cons,mfind_cons,if_neg d,if_neg (fun e=>a (@of_decide_eq_true _ (kt.decEq k' k) e))]
  .rw[if_neg h,mfind_cons,mfind_cons,mfind_mput_ne a v r]
end M
end Go.X
namespace Go.Proofs
open Go.Shelf
def Tryz.sortSh_ren:Go.Shelf.Ren:=⟨fun|6=>98|15=>143|14=>142|28=>175|29=>176|20=>167|21=>168|22=>169|23=>170|24=>171|25=>172|26=>173|27=>174|46=>195|47=>196|48=>197|49=>198|50=>199|57=>212|n=>n,fun|22=>28|24=>54|25=>128|3=>3|39=>95|0=>0|53=>188|55=>190|4=>4|46=>181|45=>180|50=>185|5=>5|9=>9|66=>203|70=>207|76=>218|77=>219|n=>n,fun|n=>n⟩
theorem Tryz.sortSh:Go.Proofs.SlLaysF0.n6 Tryz.prog Tryz.sortSh_ren:={
 mixed:=by kernel_rfl
 f6:=⟨Tryz.f98.name,by decide,Tryz.func98.trans (congrArg some (by kernel_rfl))⟩
 f14:=⟨Tryz.f142.name,by decide,Tryz.func142.trans (congrArg some (by kernel_rfl))⟩
 f15:=Tryz.func143.trans (congrArg some (by kernel_rfl))
 f20:=⟨Tryz.f167.name,by decide,Tryz.func167.trans (congrArg some (by kernel_rfl))⟩
 f21:=⟨Tryz.f168.name,by decide,Tryz.func168.trans (congrArg some (by kernel_rfl))⟩
 f22:=⟨Tryz.f169.name,by decide,Tryz.func169.trans (congrArg some (by kernel_rfl))⟩
 f23:=⟨Tryz.f170.name,by decide,Tryz.func170.trans (congrArg some (by kernel_rfl))⟩
 f24:=⟨Tryz.f171.name,by decide,Tryz.func171.trans (congrArg some (by kernel_rfl))⟩
 f25:=⟨Tryz.f172.name,by decide,Tryz.func172.trans (congrArg some (by kernel_rfl))⟩
 f26:=⟨Tryz.f173.name,by decide,Tryz.func173.trans (congrArg some (by kernel_rfl))⟩
 f27:=⟨Tryz.f174.name,by decide,Tryz.func174.trans (congrArg some (by kernel_rfl))⟩
 f28:=Tryz.func175.trans (congrArg some (by kernel_rfl))
 f29:=Tryz.func176.trans (congrArg some (by kernel_rfl))
 f46:=⟨Tryz.f195.name,by decide,Tryz.func195.trans (congrArg some (by kernel_rfl))⟩
 f47:=Tryz.func196.trans (congrArg some (by kernel_rfl))
 f48:=Tryz.func197.trans (congrArg some (by kernel_rfl))
 f49:=⟨Tryz.f198.name,by decide,Tryz.func198.trans (congrArg some (by kernel_rfl))⟩
 f50:=⟨Tryz.f199.name,by decide,Tryz.func199.trans (congrArg some (by kernel_rfl))⟩
 f57:=⟨Tryz.f212.name,by decide,Tryz.func212.trans (congrArg some (by kernel_rfl))⟩
 t0:=Tryz.underlying0
 a0:=Tryz.isAgg0
 z0:=Tryz.sizeOf0
 v0:=Tryz.zeroValue0
 t3:=Tryz.underlying3
 a3:=Tryz.isAgg3
 z3:=Tryz.sizeOf3
 v3:=Tryz.zeroValue3
 t4:=Tryz.underlying4
 a4:=Tryz.isAgg4
 z4:=Tryz.sizeOf4
 v4:=Tryz.zeroValue4
 t5:=Tryz.underlying5
 a5:=Tryz.isAgg5
 z5:=Tryz.sizeOf5
 v5:=Tryz.zeroValue5
 t9:=Tryz.underlying9
 a9:=Tryz.isAgg9
 z9:=Tryz.sizeOf9
 v9:=Tryz.zeroValue9
 t22:=Tryz.underlying28
 a22:=Tryz.isAgg28
 z22:=Tryz.sizeOf28
 v22:=Tryz.zeroValue28
 t25:=Tryz.underlying128
 a25:=Tryz.isAgg128
 z25:=Tryz.sizeOf128
 v25:=Tryz.zeroValue128
 t39:=Tryz.underlying95
 a39:=Tryz.isAgg95
 z39:=Tryz.sizeOf95
 v39:=Tryz.zeroValue95
 t45:=Tryz.underlying180
 a45:=Tryz.isAgg180
 z45:=Tryz.sizeOf180
 v45:=Tryz.zeroValue180
 t46:=Tryz.underlying181
 a46:=Tryz.isAgg181
 z46:=Tryz.sizeOf181
 v46:=Tryz.zeroValue181
 t50:=Tryz.underlying185
 a50:=Tryz.isAgg185
 z50:=Tryz.sizeOf185
 v50:=Tryz.zeroValue185
 t53:=Tryz.underlying188
 a53:=Tryz.isAgg188
 z53:=Tryz.sizeOf188
 v53:=Tryz.zeroValue188
 t55:=Tryz.underlying190
 a55:=Tryz.isAgg190
 z55:=Tryz.sizeOf190
 v55:=Tryz.zeroValue190
 t66:=Tryz.underlying203
 a66:=Tryz.isAgg203
 z66:=Tryz.sizeOf203
 v66:=Tryz.zeroValue203
 t70:=Tryz.underlying207
 a70:=Tryz.isAgg207
 z70:=Tryz.sizeOf207
 v70:=Tryz.zeroValue207
 t76:=Tryz.underlying218
 a76:=Tryz.isAgg218
 z76:=Tryz.sizeOf218
 v76:=Tryz.zeroValue218
 t77:=Tryz.underlying219
 a77:=Tryz.isAgg219
 z77:=Tryz.sizeOf219
 v77:=Tryz.zeroValue219}
def Tryz.sortI_ren:Go.Shelf.Ren:=⟨fun|189=>120|125=>143|257=>154|128=>175|129=>176|294=>180|295=>181|296=>182|297=>183|298=>184|299=>185|216=>186|300=>187|301=>188|328=>208|329=>196|330=>197|331=>209|332=>210|215=>144|343=>216|n=>n,fun|28=>33|3=>3|46=>95|0=>0|51=>188|53=>190|4=>4|183=>181|182=>180|131=>185|5=>5|9=>9|218=>203|222=>207|228=>218|229=>219|n=>n,fun|n=>n⟩
theorem Tryz.sortI:Go.Proofs.Lays.n189 Tryz.prog Tryz.sortI_ren:={
 mixed:=by kernel_rfl
 f125:=Tryz.func143.trans (congrArg some (by kernel_rfl))
 f128:=Tryz.func175.trans (congrArg some (by kernel_rfl))
 f129:=Tryz.func176.trans (congrArg some (by kernel_rfl))
 f189:=Tryz.func120.trans (congrArg some (by kernel_rfl))
 f215:=Tryz.func144.trans (congrArg some (by kernel_rfl))
 f216:=Tryz.func186.trans (congrArg some (by kernel_rfl))
 f257:=Tryz.func154.trans (congrArg some (by kernel_rfl))
 f294:=Tryz.func180.trans (congrArg some (by kernel_rfl))
 f295:=Tryz.func181.trans (congrArg some (by kernel_rfl))
 f296:=Tryz.func182.trans (congrArg some (by kernel_rfl))
 f297:=Tryz.func183.trans (congrArg some (by kernel_rfl))
 f298:=Tryz.func184.trans (congrArg some (by kernel_rfl))
 f299:=Tryz.func185.trans (congrArg some (by kernel_rfl))
 f300:=Tryz.func187.trans (congrArg some (by kernel_rfl))
 f301:=Tryz.func188.trans (congrArg some (by kernel_rfl))
 f328:=Tryz.func208.trans (congrArg some (by kernel_rfl))
 f329:=Tryz.func196.trans (congrArg some (by kernel_rfl))
 f330:=Tryz.func197.trans (congrArg some (by kernel_rfl))
 f331:=Tryz.func209.trans (congrArg some (by kernel_rfl))
 f332:=Tryz.func210.trans (congrArg some (by kernel_rfl))
 f343:=Tryz.func216.trans (congrArg some (by kernel_rfl))
 t0:=Tryz.underlying0
 a0:=Tryz.isAgg0
 z0:=Tryz.sizeOf0
 v0:=Tryz.zeroValue0
 t3:=Tryz.underlying3
 a3:=Tryz.isAgg3
 z3:=Tryz.sizeOf3
 v3:=Tryz.zeroValue3
 t4:=Tryz.underlying4
 a4:=Tryz.isAgg4
 z4:=Tryz.sizeOf4
 v4:=Tryz.zeroValue4
 t5:=Tryz.underlying5
 a5:=Tryz.isAgg5
 z5:=Tryz.sizeOf5
 v5:=Tryz.zeroValue5
 t9:=Tryz.underlying9
 a9:=Tryz.isAgg9
 z9:=Tryz.sizeOf9
 v9:=Tryz.zeroValue9
 t28:=Tryz.underlying33
 a28:=Tryz.isAgg33
 z28:=Tryz.sizeOf33
 v28:=Tryz.zeroValue33
 t46:=Tryz.underlying95
 a46:=Tryz.isAgg95
 z46:=Tryz.sizeOf95
 v46:=Tryz.zeroValue95
 t51:=Tryz.underlying188
 a51:=Tryz.isAgg188
 z51:=Tryz.sizeOf188
 v51:=Tryz.zeroValue188
 t53:=Tryz.underlying190
 a53:=Tryz.isAgg190
 z53:=Tryz.sizeOf190
 v53:=Tryz.zeroValue190
 t131:=Tryz.underlying185
 a131:=Tryz.isAgg185
 z131:=Tryz.sizeOf185
 v131:=Tryz.zeroValue185
 t182:=Tryz.underlying180
 a182:=Tryz.isAgg180
 z182:=Tryz.sizeOf180
 v182:=Tryz.zeroValue180
 t183:=Tryz.underlying181
 a183:=Tryz.isAgg181
 z183:=Tryz.sizeOf181
 v183:=Tryz.zeroValue181
 t218:=Tryz.underlying203
 a218:=Tryz.isAgg203
 z218:=Tryz.sizeOf203
 v218:=Tryz.zeroValue203
 t222:=Tryz.underlying207
 a222:=Tryz.isAgg207
 z222:=Tryz.sizeOf207
 v222:=Tryz.zeroValue207
 t228:=Tryz.underlying218
 a228:=Tryz.isAgg218
 z228:=Tryz.sizeOf218
 v228:=Tryz.zeroValue218
 t229:=Tryz.underlying219
 a229:=Tryz.isAgg219
 z229:=Tryz.sizeOf219
 v229:=Tryz.zeroValue219}
end Go.Proofs
namespace Go.X
open Go.Proofs
abbrev rwS:Sh:= .cl (.row 54 tSh .unk)
namespace U
def jgX (s:SpD):Bool:=(decide (0<=lo s)&&decide (lo s<=hi s))&&decide (hi s<=300)
def ji7 (n:Nat) (b:BkD):Bool:=((ja (jvX b) 0 ((n:Int)-1)&&decide (0<=jaA b))&&decide (jaA b<jqi b))&&decide (jqi b<=1440)
def jpi (nb a:Nat) (s:ShD):Bool:=(((ja (wO s) 0 99&&ja (jnT s) 0 9999)&&ja (jz0 s) 1 2)&&ja (joH s) 0 ((nb:Int)-1))&&ja (jcY s) 0 ((a:Int)-1)
def yt (a b:ShD):Int:=wv [gK (wO a) (wO b),gK (jnT a) (jnT b),gK (jz0 a) (jz0 b),gK (joH a) (joH b),gK (jcY a) (jcY b)]
def js (a b:ShD):Int:=wv [gK (jnT a) (jnT b),gK (wO a) (wO b)]
def wh (a b:ShD):Bool:=decide (a=b)
def jU (l:List ShD):List ShD:=q9 wh (jc (jg tSh fun x=>(yt x.1 x.2.1,())) l)
def jcy (m:List (Int×Int)) (s:ShD):List (Int×Int):=jdM .int (wO s) (kJ 0 (zA .int (wO s) m)+1) m
def kP (m:List (Int×Int)) (l:List ShD) (n:Nat):List (Int×Int):=(l.take n).foldl jcy m
def jt4 (m:List (Int×Int)) (s:ShD):Bool:=decide (1<kJ 0 (zA .int (wO s) (jcy m s)))
def jfL (m:List (Int×Int)) (l:List ShD) (i:Nat):Bool:=jt4 (kP m l i) (nth l i)
def jb8 (m:List (Int×Int)) (l:List ShD):Int:=gQ (jfL m l) (List.range l.length)
def jzy (m:List (Int×Int)) (l:List ShD):Nat:=match(List.range l.length).findIdx? (jfL m l) with|some i=>i+1|none=>l.length
def jd6 (m:List (Int×Int)) (l:List ShD):List (Int×Int):=kP m l (jzy m l)
def jEs (m:List (Int×Int)):Prop:=m=[]
def jwZ (m:List (Int×Int)):Prop:=∀k,0<=kJ 0 (zA .int k m)/\kJ 0 (zA .int k m)<=200000
def jwj (l:List ShD):Bool:=decide (0<=jb8 [] l)
def jj3 (d:DyD):Int:=if jl (jd d)=false then 30 else if jvg d=false then 31 else 0
def jJ (d:DyD):Int:=if jj3 d≠0 then jj3 d else if zC d=false then 50 else if jwj (jU (kR d))=true then 51 else 0
end U
def jq3:jQ:=⟨[.val .int,.val .int,.val .int],[.bool],false,fun _=>[],fun d=>(U.ja d.1 d.2.1 d.2.2.1,())⟩
def jqF:Prop:=∀(d:Int×Int×Int×Unit),(decide (d.2.1<=d.1)&&decide (d.1<=d.2.2.1),())=(U.ja d.1 d.2.1 d.2.2.1,())
def jcG:jQ:=⟨[.val (.slice tSp),.fn [tSp] [.bool]],[.int],false,fun d=>[∀g∈d.1,U.jB (d.2.1.pre (g,()))],fun d=>(U.gQ (U.jb (α:=SpD) d.2.1.F) d.1,())⟩
def jcV:Ann:=fun r=>match r with
 |2=>some fun σ=>{X:=Nat,sl:=fun i=>[(8,.dat .int (i:Int))],ob:=fun _=>[],inv:=fun i=>i<=(gd (.slice tSp) σ 0).length/\∀b:Nat,b<i->U.jb (gfb tSp σ 1) (nth (gd (.slice tSp) σ 0) b)=false,mu:=fun i=>(gd (.slice tSp) σ 0).length-i}
 |_=>none
def jcC:Prop:=∀(d:List (Int×Int×Unit)×FnD [tSp] [Ty.bool]×Unit),(∀(g:Int×Int×Unit),g∈d.1->U.jB (d.2.1.1 (g,())))->d.1.length<4611686018427387904->(∃(x:Nat),((0=(x:Int)/\True)/\True)/\x<=d.1.length/\∀(b:Nat),b<x->U.jb d.2.1.2 (nth d.1 b)=false)/\∀(x:Nat),(x<=d.1.length/\∀(b:Nat),b<x->U.jb d.2.1.2 (nth d.1 b)=false)->(decide ((x:Int)<(d.1.length:Int))=true->0<=(x:Int)/\(x:Int)<(d.1.length:Int)/\asks (d.2.1.1 (nth d.1 (x:Int).toNat,())) (((d.2.1.2 (nth d.1 (x:Int).toNat,())).1=true->((x:Int),())=(U.gQ (U.jb d.2.1.2) d.1,()))/\((d.2.1.2 (nth d.1 (x:Int).toNat,())).1=false->jz ((x:Int)+1)/\∃(a:Nat),(((x:Int)+1=(a:Int)/\True)/\True)/\(a<=d.1.length/\∀(b:Nat),b<a->U.jb d.2.1.2 (nth d.1 b)=false)/\d.1.length-a<d.1.length-x)))/\(decide ((x:Int)<(d.1.length:Int))=false->((-1:Int),())=(U.gQ (U.jb d.2.1.2) d.1,()))
def jab:jQ:=⟨[.val (.slice tSp),.fn [tSp] [.bool]],[.bool],false,fun d=>[∀g∈d.1,U.jB (d.2.1.pre (g,()))],fun d=>(d.1.any (U.jb (α:=SpD) d.2.1.F),())⟩
def gY:Prop:=∀(d:List (Int×Int×Unit)×FnD [tSp] [Ty.bool]×Unit),(∀(g:Int×Int×Unit),g∈d.1->U.jB (d.2.1.1 (g,())))->(∀(g:Int×Int×Unit),g∈d.1->U.jB (d.2.1.1 (g,())))/\(decide (0<=U.gQ (U.jb d.2.1.2) d.1),())=(d.1.any (U.jb d.2.1.2),())
def jbm:jQ:=⟨[.val (.slice (.slice tSp)),.fn [(.slice tSp)] [.bool]],[.int],false,fun d=>[∀g∈d.1,U.jB (d.2.1.pre (g,()))],fun d=>(U.gQ (U.jb (α:=(List SpD)) d.2.1.F) d.1,())⟩
def jb4:Ann:=fun r=>match r with
 |2=>some fun σ=>{X:=Nat,sl:=fun i=>[(8,.dat .int (i:Int))],ob:=fun _=>[],inv:=fun i=>i<=(gd (.slice (.slice tSp)) σ 0).length/\∀b:Nat,b<i->U.jb (gfb (.slice tSp) σ 1) (nth (gd (.slice (.slice tSp)) σ 0) b)=false,mu:=fun i=>(gd (.slice (.slice tSp)) σ 0).length-i}
 |_=>none
def jbf:Prop:=∀(d:List (List (Int×Int×Unit))×FnD [tSp.slice] [Ty.bool]×Unit),(∀(g:List (Int×Int×Unit)),g∈d.1->U.jB (d.2.1.1 (g,())))->d.1.length<4611686018427387904->(∃(x:Nat),((0=(x:Int)/\True)/\True)/\x<=d.1.length/\∀(b:Nat),b<x->U.jb d.2.1.2 (nth d.1 b)=false)/\∀(x:Nat),(x<=d.1.length/\∀(b:Nat),b<x->U.jb d.2.1.2 (nth d.1 b)=false)->(decide ((x:Int)<(d.1.length:Int))=true->0<=(x:Int)/\(x:Int)<(d.1.length:Int)/\asks (d.2.1.1 (nth d.1 (x:Int).toNat,())) (((d.2.1.2 (nth d.1 (x:Int).toNat,())).1=true->((x:Int),())=(U.gQ (U.jb d.2.1.2) d.1,()))/\((d.2.1.2 (nth d.1 (x:Int).toNat,())).1=false->jz ((x:Int)+1)/\∃(a:Nat),(((x:Int)+1=(a:Int)/\True)/\True)/\(a<=d.1.length/\∀(b:Nat),b<a->U.jb d.2.1.2 (nth d.1 b)=false)/\d.1.length-a<d.1.length-x)))/\(decide ((x:Int)<(d.1.length:Int))=false->((-1:Int),())=(U.gQ (U.jb d.2.1.2) d.1,()))
def yV:jQ:=⟨[.val (.slice (.slice tSp)),.fn [(.slice tSp)] [.bool]],[.bool],false,fun d=>[∀g∈d.1,U.jB (d.2.1.pre (g,()))],fun d=>(d.1.any (U.jb (α:=(List SpD)) d.2.1.F),())⟩
def yR:Prop:=∀(d:List (List (Int×Int×Unit))×FnD [tSp.slice] [Ty.bool]×Unit),(∀(g:List (Int×Int×Unit)),g∈d.1->U.jB (d.2.1.1 (g,())))->(∀(g:List (Int×Int×Unit)),g∈d.1->U.jB (d.2.1.1 (g,())))/\(decide (0<=U.gQ (U.jb d.2.1.2) d.1),())=(d.1.any (U.jb d.2.1.2),())
def jaa:jQ:=⟨[.val (.slice tBk),.fn [tBk] [.bool]],[.int],false,fun d=>[∀g∈d.1,U.jB (d.2.1.pre (g,()))],fun d=>(U.gQ (U.jb (α:=BkD) d.2.1.F) d.1,())⟩
def jaD:Ann:=fun r=>match r with
 |2=>some fun σ=>{X:=Nat,sl:=fun i=>[(8,.dat .int (i:Int))],ob:=fun _=>[],inv:=fun i=>i<=(gd (.slice tBk) σ 0).length/\∀b:Nat,b<i->U.jb (gfb tBk σ 1) (nth (gd (.slice tBk) σ 0) b)=false,mu:=fun i=>(gd (.slice tBk) σ 0).length-i}
 |_=>none
def gX:Prop:=∀(d:List BkD×FnD [tBk] [Ty.bool]×Unit),(∀(g:BkD),g∈d.1->U.jB (d.2.1.1 (g,())))->d.1.length<4611686018427387904->(∃(x:Nat),((0=(x:Int)/\True)/\True)/\x<=d.1.length/\∀(b:Nat),b<x->U.jb d.2.1.2 (nth d.1 b)=false)/\∀(x:Nat),(x<=d.1.length/\∀(b:Nat),b<x->U.jb d.2.1.2 (nth d.1 b)=false)->(decide ((x:Int)<(d.1.length:Int))=true->0<=(x:Int)/\(x:Int)<(d.1.length:Int)/\asks (d.2.1.1 (nth d.1 (x:Int).toNat,())) (((d.2.1.2 (nth d.1 (x:Int).toNat,())).1=true->((x:Int),())=(U.gQ (U.jb d.2.1.2) d.1,()))/\((d.2.1.2 (nth d.1 (x:Int).toNat,())).1=false->jz ((x:Int)+1)/\∃(a:Nat),(((x:Int)+1=(a:Int)/\True)/\True)/\(a<=d.1.length/\∀(b:Nat),b<a->U.jb d.2.1.2 (nth d.1 b)=false)/\d.1.length-a<d.1.length-x)))/\(decide ((x:Int)<(d.1.length:Int))=false->((-1:Int),())=(U.gQ (U.jb d.2.1.2) d.1,()))
def ya:jQ:=⟨[.val (.slice tBk),.fn [tBk] [.bool]],[.bool],false,fun d=>[∀g∈d.1,U.jB (d.2.1.pre (g,()))],fun d=>(d.1.any (U.jb (α:=BkD) d.2.1.F),())⟩
def v7:Prop:=∀(d:List BkD×FnD [tBk] [Ty.bool]×Unit),(∀(g:BkD),g∈d.1->U.jB (d.2.1.1 (g,())))->(∀(g:BkD),g∈d.1->U.jB (d.2.1.1 (g,())))/\(decide (0<=U.gQ (U.jb d.2.1.2) d.1),())=(d.1.any (U.jb d.2.1.2),())
def jbn:jQ:=⟨[.val (.slice tSh),.fn [tSh] [.bool]],[.int],false,fun d=>[∀g∈d.1,U.jB (d.2.1.pre (g,()))],fun d=>(U.gQ (U.jb (α:=ShD) d.2.1.F) d.1,())⟩
def jb5:Ann:=fun r=>match r with
 |2=>some fun σ=>{X:=Nat,sl:=fun i=>[(8,.dat .int (i:Int))],ob:=fun _=>[],inv:=fun i=>i<=(gd (.slice tSh) σ 0).length/\∀b:Nat,b<i->U.jb (gfb tSh σ 1) (nth (gd (.slice tSh) σ 0) b)=false,mu:=fun i=>(gd (.slice tSh) σ 0).length-i}
 |_=>none
def jbg:Prop:=∀(d:List ShD×FnD [tSh] [Ty.bool]×Unit),(∀(g:ShD),g∈d.1->U.jB (d.2.1.1 (g,())))->d.1.length<4611686018427387904->(∃(x:Nat),((0=(x:Int)/\True)/\True)/\x<=d.1.length/\∀(b:Nat),b<x->U.jb d.2.1.2 (nth d.1 b)=false)/\∀(x:Nat),(x<=d.1.length/\∀(b:Nat),b<x->U.jb d.2.1.2 (nth d.1 b)=false)->(decide ((x:Int)<(d.1.length:Int))=true->0<=(x:Int)/\(x:Int)<(d.1.length:Int)/\asks (d.2.1.1 (nth d.1 (x:Int).toNat,())) (((d.2.1.2 (nth d.1 (x:Int).toNat,())).1=true->((x:Int),())=(U.gQ (U.jb d.2.1.2) d.1,()))/\((d.2.1.2 (nth d.1 (x:Int).toNat,())).1=false->jz ((x:Int)+1)/\∃(a:Nat),(((x:Int)+1=(a:Int)/\True)/\True)/\(a<=d.1.length/\∀(b:Nat),b<a->U.jb d.2.1.2 (nth d.1 b)=false)/\d.1.length-a<d.1.length-x)))/\(decide ((x:Int)<(d.1.length:Int))=false->((-1:Int),())=(U.gQ (U.jb d.2.1.2) d.1,()))
def yW:jQ:=⟨[.val (.slice tSh),.fn [tSh] [.bool]],[.bool],false,fun d=>[∀g∈d.1,U.jB (d.2.1.pre (g,()))],fun d=>(d.1.any (U.jb (α:=ShD) d.2.1.F),())⟩
def yS:Prop:=∀(d:List ShD×FnD [tSh] [Ty.bool]×Unit),(∀(g:ShD),g∈d.1->U.jB (d.2.1.1 (g,())))->(∀(g:ShD),g∈d.1->U.jB (d.2.1.1 (g,())))/\(decide (0<=U.gQ (U.jb d.2.1.2) d.1),())=(d.1.any (U.jb d.2.1.2),())
def jf0:jQ:=⟨[.val tSp,.rfn [tSp] [.bool]],[.bool],false,fun d=>[U.jB (d.2.1.pre (d.1,()))],fun d=>(!(U.jb (α:=SpD) d.2.1.F d.1),())⟩
def jfV:Prop:=∀(d:(Int×Int×Unit)×FnD [tSp] [Ty.bool]×Unit),U.jB (d.2.1.1 (d.1,()))->asks (d.2.1.1 (d.1,())) ((!(d.2.1.2 (d.1,())).1,())=(!U.jb d.2.1.2 d.1,()))
def jiC:jQ:=⟨[.val (.slice tSp),.fn [tSp] [.bool]],[.bool],false,fun d=>[∀g∈d.1,U.jB (d.2.1.pre (g,()))],fun d=>(d.1.all (U.jb (α:=SpD) d.2.1.F),())⟩
def jio:Prop:=∀(d:List (Int×Int×Unit)×FnD [tSp] [Ty.bool]×Unit),(∀(g:Int×Int×Unit),g∈d.1->U.jB (d.2.1.1 (g,())))->(∀(g:Int×Int×Unit),g∈d.1->U.jB [U.jB (d.2.1.1 (g,()))])/\(!d.1.any (U.jb fun(a:(Int×Int×Unit)×Unit)=>(!U.jb d.2.1.2 a.1,())),())=(d.1.all (U.jb d.2.1.2),())
def jeG:jQ:=⟨[.val (.slice tSp),.rfn [(.slice tSp)] [.bool]],[.bool],false,fun d=>[U.jB (d.2.1.pre (d.1,()))],fun d=>(!(U.jb (α:=(List SpD)) d.2.1.F d.1),())⟩
def jeu:Prop:=∀(d:List (Int×Int×Unit)×FnD [tSp.slice] [Ty.bool]×Unit),U.jB (d.2.1.1 (d.1,()))->asks (d.2.1.1 (d.1,())) ((!(d.2.1.2 (d.1,())).1,())=(!U.jb d.2.1.2 d.1,()))
def jhr:jQ:=⟨[.val (.slice (.slice tSp)),.fn [(.slice tSp)] [.bool]],[.bool],false,fun d=>[∀g∈d.1,U.jB (d.2.1.pre (g,()))],fun d=>(d.1.all (U.jb (α:=(List SpD)) d.2.1.F),())⟩
def jhj:Prop:=∀(d:List (List (Int×Int×Unit))×FnD [tSp.slice] [Ty.bool]×Unit),(∀(g:List (Int×Int×Unit)),g∈d.1->U.jB (d.2.1.1 (g,())))->(∀(g:List (Int×Int×Unit)),g∈d.1->U.jB [U.jB (d.2.1.1 (g,()))])/\(!d.1.any (U.jb fun(a:List (Int×Int×Unit)×Unit)=>(!U.jb d.2.1.2 a.1,())),())=(d.1.all (U.jb d.2.1.2),())
def jcH:jQ:=⟨[.val tBk,.rfn [tBk] [.bool]],[.bool],false,fun d=>[U.jB (d.2.1.pre (d.1,()))],fun d=>(!(U.jb (α:=BkD) d.2.1.F d.1),())⟩
def jcF:Prop:=∀(d:BkD×FnD [tBk] [Ty.bool]×Unit),U.jB (d.2.1.1 (d.1,()))->asks (d.2.1.1 (d.1,())) ((!(d.2.1.2 (d.1,())).1,())=(!U.jb d.2.1.2 d.1,()))
def jeI:jQ:=⟨[.val (.slice tBk),.fn [tBk] [.bool]],[.bool],false,fun d=>[∀g∈d.1,U.jB (d.2.1.pre (g,()))],fun d=>(d.1.all (U.jb (α:=BkD) d.2.1.F),())⟩
def jew:Prop:=∀(d:List BkD×FnD [tBk] [Ty.bool]×Unit),(∀(g:BkD),g∈d.1->U.jB (d.2.1.1 (g,())))->(∀(g:BkD),g∈d.1->U.jB [U.jB (d.2.1.1 (g,()))])/\(!d.1.any (U.jb fun(a:BkD×Unit)=>(!U.jb d.2.1.2 a.1,())),())=(d.1.all (U.jb d.2.1.2),())
def jeH:jQ:=⟨[.val tSh,.rfn [tSh] [.bool]],[.bool],false,fun d=>[U.jB (d.2.1.pre (d.1,()))],fun d=>(!(U.jb (α:=ShD) d.2.1.F d.1),())⟩
def jev:Prop:=∀(d:ShD×FnD [tSh] [Ty.bool]×Unit),U.jB (d.2.1.1 (d.1,()))->asks (d.2.1.1 (d.1,())) ((!(d.2.1.2 (d.1,())).1,())=(!U.jb d.2.1.2 d.1,()))
def jhs:jQ:=⟨[.val (.slice tSh),.fn [tSh] [.bool]],[.bool],false,fun d=>[∀g∈d.1,U.jB (d.2.1.pre (g,()))],fun d=>(d.1.all (U.jb (α:=ShD) d.2.1.F),())⟩
def jhk:Prop:=∀(d:List ShD×FnD [tSh] [Ty.bool]×Unit),(∀(g:ShD),g∈d.1->U.jB (d.2.1.1 (g,())))->(∀(g:ShD),g∈d.1->U.jB [U.jB (d.2.1.1 (g,()))])/\(!d.1.any (U.jb fun(a:ShD×Unit)=>(!U.jb d.2.1.2 a.1,())),())=(d.1.all (U.jb d.2.1.2),())
def jot:jQ:=⟨[.val tSp],[.bool],false,fun _=>[],fun d=>(U.jgX d.1,())⟩
def jn7:Prop:=∀(d:(Int×Int×Unit)×Unit),(decide (0<=d.1.1)&&decide (d.1.1<=d.1.2.1)&&decide (d.1.2.1<=300),())=(U.jgX d.1,())
def jos:jQ:=⟨[.val (.slice tSp),.ref tDy,.rfn [tSp] [.bool]],[.bool],false,fun d=>[∀g∈d.1,U.jB (d.2.2.1.pre (g,()))],fun d=>(decide ((d.1.length:Int)=((U.jK d.2.1).length:Int))&&d.1.all (U.jb (α:=SpD) d.2.2.1.F),())⟩
def jn6:Prop:=∀(d:List (Int×Int×Unit)×DyD×FnD [tSp] [Ty.bool]×Unit),(∀(g:Int×Int×Unit),g∈d.1->U.jB (d.2.2.1.1 (g,())))->d.1.length<4611686018427387904->d.2.1.2.1.length<4611686018427387904->(decide ((d.1.length:Int)=(d.2.1.2.1.length:Int))=true->∀(g:Int×Int×Unit),g∈d.1->U.jB (d.2.2.1.1 (g,())))/\(decide ((d.1.length:Int)=(d.2.1.2.1.length:Int))&&d.1.all (U.jb d.2.2.1.2),())=(decide ((d.1.length:Int)=(↑(U.jK d.2.1).length:Int))&&d.1.all (U.jb d.2.2.1.2),())
def jor:jQ:=⟨[.val tBk,.ref tDy],[.bool],false,fun _=>[],fun d=>(U.ji7 (U.jK d.2.1).length d.1,())⟩
def jn5:Prop:=∀(d:BkD×DyD×Unit),d.2.1.2.1.length<4611686018427387904->jz ((d.2.1.2.1.length:Int)-1)/\(U.ja d.1.2.1 (0:Int) ((d.2.1.2.1.length:Int)-1)&&decide (0<=d.1.2.2.1)&&decide (d.1.2.2.1<d.1.2.2.2.1)&&decide (d.1.2.2.2.1<=1440),())=(U.ji7 (U.jK d.2.1).length d.1,())
def joq:jQ:=⟨[.val tSh,.ref tDy],[.bool],false,fun _=>[],fun d=>(U.jpi (U.jq d.2.1).length (U.je (U.jd d.2.1)).length d.1,())⟩
abbrev q58_0 (d:ShD×DyD×Unit):=(U.ja d.1.1 (0:Int) (99:Int)&&U.ja d.1.2.1 (0:Int) (9999:Int)&&U.ja d.1.2.2.1 (1:Int) (2:Int)&&U.ja d.1.2.2.2.1 (0:Int) ((d.2.1.2.2.1.length:Int)-1))
abbrev q58_1 (d:ShD×DyD×Unit):=(U.ja d.1.1 (0:Int) (99:Int)&&U.ja d.1.2.1 (0:Int) (9999:Int)&&U.ja d.1.2.2.1 (1:Int) (2:Int))
def jn4:Prop:=∀(d:ShD×DyD×Unit),((q58_1 d)=true->d.2.1.2.2.1.length<4611686018427387904)->((q58_1 d)=true->jz ((d.2.1.2.2.1.length:Int)-1))/\(((q58_0 d)=true->d.2.1.1.2.1.length<4611686018427387904)->((q58_0 d)=true->jz ((d.2.1.1.2.1.length:Int)-1))/\(U.ja d.1.1 (0:Int) (99:Int)&&U.ja d.1.2.1 (0:Int) (9999:Int)&&U.ja d.1.2.2.1 (1:Int) (2:Int)&&U.ja d.1.2.2.2.1 (0:Int) ((d.2.1.2.2.1.length:Int)-1)&&U.ja d.1.2.2.2.2.1 (0:Int) ((d.2.1.1.2.1.length:Int)-1),())=(U.jpi (U.jq d.2.1).length (U.je (U.jd d.2.1)).length d.1,()))
def juy:jQ:=⟨[.val tDy],[.bool],false,fun _=>[],fun d=>(U.zC d.1,())⟩
abbrev q59_0 (d:DyD×Unit):=((d.1.2.2.1.length:Int)<=4)
abbrev q59_1 (d:DyD×Unit):=(↑(U.jK d.1).length:Int)
abbrev q59_2 (d:DyD×Unit):=(d.1.2.1.length:Int)
def jue:Prop:=∀(d:DyD×Unit),d.1.2.2.1.length<4611686018427387904->(decide (q59_0 d)=true->d.1.2.1.length<4611686018427387904)->((decide (q59_0 d)&&U.ja (q59_2 d) (1:Int) (5:Int))=true->∀(g:List (Int×Int×Unit)),g∈d.1.2.1->U.jB [∀(a:Int×Int×Unit),a∈g->U.jB []])/\((decide (q59_0 d)&&U.ja (q59_2 d) (1:Int) (5:Int)&&d.1.2.1.all (U.jb fun(b:List (Int×Int×Unit)×Unit)=>(decide ((b.1.length:Int)=(q59_1 d))&&b.1.all (U.jb fun(h:(Int×Int×Unit)×Unit)=>(U.jgX h.1,())),())))=true->∀(i:BkD),i∈d.1.2.2.1->U.jB [])/\(((decide (q59_0 d)&&U.ja (q59_2 d) (1:Int) (5:Int)&&d.1.2.1.all (U.jb fun(c:List (Int×Int×Unit)×Unit)=>(decide ((c.1.length:Int)=(q59_1 d))&&c.1.all (U.jb fun(j:(Int×Int×Unit)×Unit)=>(U.jgX j.1,())),()))&&d.1.2.2.1.all (U.jb fun(n:BkD×Unit)=>(U.ji7 (U.jK d.1).length n.1,()))&&U.ja d.1.2.2.2.1 (0:Int) (300:Int)&&U.ja d.1.2.2.2.2.1 (0:Int) (1440:Int))=true->d.1.2.2.2.2.2.1.length<4611686018427387904)->((decide (q59_0 d)&&U.ja (q59_2 d) (1:Int) (5:Int)&&d.1.2.1.all (U.jb fun(e:List (Int×Int×Unit)×Unit)=>(decide ((e.1.length:Int)=(q59_1 d))&&e.1.all (U.jb fun(k:(Int×Int×Unit)×Unit)=>(U.jgX k.1,())),()))&&d.1.2.2.1.all (U.jb fun(o:BkD×Unit)=>(U.ji7 (U.jK d.1).length o.1,()))&&U.ja d.1.2.2.2.1 (0:Int) (300:Int)&&U.ja d.1.2.2.2.2.1 (0:Int) (1440:Int)&&decide ((d.1.2.2.2.2.2.1.length:Int)<=30))=true->∀(l:ShD),l∈d.1.2.2.2.2.2.1->U.jB [])/\(decide (q59_0 d)&&U.ja (q59_2 d) (1:Int) (5:Int)&&d.1.2.1.all (U.jb fun(f:List (Int×Int×Unit)×Unit)=>(decide ((f.1.length:Int)=(q59_1 d))&&f.1.all (U.jb fun(m:(Int×Int×Unit)×Unit)=>(U.jgX m.1,())),()))&&d.1.2.2.1.all (U.jb fun(z6:BkD×Unit)=>(U.ji7 (U.jK d.1).length z6.1,()))&&U.ja d.1.2.2.2.1 (0:Int) (300:Int)&&U.ja d.1.2.2.2.2.1 (0:Int) (1440:Int)&&decide ((d.1.2.2.2.2.2.1.length:Int)<=30)&&d.1.2.2.2.2.2.1.all (U.jb fun(z7:ShD×Unit)=>(U.jpi (U.jq d.1).length (U.je (U.jd d.1)).length z7.1,())),())=(U.zC d.1,()))
def jht:jQ:=⟨[.val .int],[.bool],false,fun _=>[],fun _=>(false,())⟩
def jhl:Prop:=∀(d:Int×Unit),(decide (d.1≠d.1),())=(false,())
def jeK:jQ:=⟨[.val .int,.val .int],[.int],false,fun _=>[],fun d=>(U.gK d.1 d.2.1,())⟩
abbrev q61_0 (d:Int×Int×Unit):=(U.gK d.1 d.2.1,())
def jex:Prop:=∀(d:Int×Int×Unit),(false=true->(false=true->((0:Int),())=(q61_0 d))/\(false=false->((-1:Int),())=(q61_0 d)))/\(false=false->(false=true->((1:Int),())=(q61_0 d))/\(false=false->(decide (d.1<d.2.1)=true->((-1:Int),())=(q61_0 d))/\(decide (d.1<d.2.1)=false->(decide (d.2.1<d.1)=true->((1:Int),())=(q61_0 d))/\(decide (d.2.1<d.1)=false->((0:Int),())=(q61_0 d)))))
def jmw:jQ:=⟨[.val (.slice .int)],[.int],false,fun _=>[],fun d=>(U.wv d.1,())⟩
def jnM:Ann:=fun r=>match r with
 |3=>some fun σ=>{X:=Nat,sl:=fun i=>[(8,.dat .int (i:Int))],ob:=fun _=>[],inv:=fun i=>i<=(gd (.slice .int) σ 0).length/\∀b:Nat,b<i->nth (gd (.slice .int) σ 0) b=0,mu:=fun i=>(gd (.slice .int) σ 0).length-i}
 |_=>none
def jmj:Prop:=∀(d:List Int×Unit),d.1.length<4611686018427387904->(∃(x:Nat),((0=(x:Int)/\True)/\True)/\x<=d.1.length/\∀(b:Nat),b<x->nth d.1 b=0)/\∀(x:Nat),(x<=d.1.length/\∀(b:Nat),b<x->nth d.1 b=0)->(decide ((x:Int)<(d.1.length:Int))=true->0<=(x:Int)/\(x:Int)<(d.1.length:Int)/\(decide (nth d.1 (x:Int).toNat≠0)=true->(nth d.1 (x:Int).toNat,())=(U.wv d.1,()))/\(decide (nth d.1 (x:Int).toNat≠0)=false->jz ((x:Int)+1)/\∃(a:Nat),(((x:Int)+1=(a:Int)/\True)/\True)/\(a<=d.1.length/\∀(b:Nat),b<a->nth d.1 b=0)/\d.1.length-a<d.1.length-x))/\(decide ((x:Int)<(d.1.length:Int))=false->((0:Int),())=(U.wv d.1,()))
def jiD:jQ:=⟨[.val tSh,.val tSh],[.int],false,fun _=>[],fun d=>(U.yt d.1 d.2.1,())⟩
def jip:Prop:=∀(d:ShD×ShD×Unit),(U.wv [U.gK d.1.1 d.2.1.1,U.gK d.1.2.1 d.2.1.2.1,U.gK d.1.2.2.1 d.2.1.2.2.1,U.gK d.1.2.2.2.1 d.2.1.2.2.2.1,U.gK d.1.2.2.2.2.1 d.2.1.2.2.2.2.1],())=(U.yt d.1 d.2.1,())
def jq4:jQ:=⟨[.val tSh,.val tSh],[.int],false,fun _=>[],fun d=>(U.js d.1 d.2.1,())⟩
def jqG:Prop:=∀(d:ShD×ShD×Unit),(U.wv [U.gK d.1.2.1 d.2.1.2.1,U.gK d.1.1 d.2.1.1],())=(U.js d.1 d.2.1,())
def jf3:zK:=⟨[.val (.slice tSh)],[rwS],fun d=>[d.1.length<=100000],fun d=>((d.1,()),())⟩
def jfR:Prop:=∀(d:List ShD×Unit),d.1.length<=100000->∀(a:Bool),(a=true->d.1=[])->(a=true->([],())=d/\()=())/\(a=false->(0+d.1.length)*40<=140737488355328/\([]++d.1,())=d/\()=())
def jdu:zK:=⟨[.own rwS false],[rwS],fun d=>[d.1.length<=100000],fun d=>((U.q9 U.wh d.1,()),())⟩
def jeg:Ann:=fun r=>match r with
 |4=>some fun σ=>{X:=Nat,sl:=fun i=>[(3,.dat .int (i:Int))],ob:=fun _=>[],inv:=fun i=>U.jCT U.wh (gr tSh σ 1000000) i,mu:=fun i=>(gr tSh σ 1000000).length-i}
 |9=>some fun σ=>{X:=Nat×List ShD,sl:=fun x=>[(5,.dat .int (x.1:Int)),(3,.dat .int (U.jc1 U.wh (gr tSh σ 1000000) ((gd .int σ 3).toNat+x.1)))],ob:=fun x=>[(1000000,some (.row 54 tSh false .unk x.2))],inv:=fun x=>U.jrZ U.wh (gr tSh σ 1000000) (gd .int σ 3).toNat x.1 x.2,mu:=fun x=>(gr tSh σ 1000000).length-x.1}
 |_=>none
abbrev q66_0 (x:Nat)(a:Nat×List ShD):=((x:Int).toNat+a.1)
abbrev q66_2 (d:List ShD×Unit)(x:Nat)(a:Nat×List ShD):=(List.take (U.jc1 U.wh d.1 (q66_0 x a)).toNat a.2++List.replicate ((a.2.length:Int).toNat-(U.jc1 U.wh d.1 (q66_0 x a)).toNat) ((0:Int),(0:Int),(0:Int),(0:Int),(0:Int),()))
abbrev q66_3 (a:Nat×List ShD)(x:Nat):=(!decide (nth a.2 ((x:Int).toNat+(a.1:Int).toNat)=nth a.2 ((x:Int).toNat+((a.1:Int)-1).toNat)))
abbrev q66_4 (d:List ShD×Unit):=(d.1.length:Int)
abbrev q66_1 (d:List ShD×Unit)(x:Nat):=(↑((q66_4 d).toNat-(x:Int).toNat):Int)
def jdl:Prop:=∀(d:List ShD×Unit),d.1.length<=100000->d.1.length<4611686018427387904->(decide ((q66_4 d)<2)=true->d=(U.q9 U.wh d.1,())/\()=())/\(decide ((q66_4 d)<2)=false->(∃(x:Nat),((1=(x:Int)/\True)/\True)/\U.jCT U.wh d.1 x)/\∀(x:Nat),U.jCT U.wh d.1 x->d.1.length<4611686018427387904->(decide ((x:Int)<(q66_4 d))=true->0<=(x:Int)/\(x:Int)<(q66_4 d)/\jz ((x:Int)-1)/\0<=(x:Int)-1/\(x:Int)-1<(q66_4 d)/\(decide (nth d.1 (x:Int).toNat=nth d.1 ((x:Int)-1).toNat)=true->0<=(x:Int)/\(x:Int)<=(q66_4 d)/\(q66_4 d)<=(q66_4 d)/\(∃(a:Nat×List ShD),((1=(a.1:Int)/\(x:Int)=U.jc1 U.wh d.1 (q66_0 x a)/\True)/\d.1=a.2/\True)/\U.jrZ U.wh d.1 (x:Int).toNat a.1 a.2)/\∀(a:Nat×List ShD),U.jrZ U.wh d.1 (x:Int).toNat a.1 a.2->(q66_4 d).toNat-(x:Int).toNat<4611686018427387904->(decide ((a.1:Int)<(q66_1 d x))=true->0<=(a.1:Int)/\(a.1:Int)<(q66_1 d x)/\jz ((a.1:Int)-1)/\0<=(a.1:Int)-1/\(a.1:Int)-1<(q66_1 d x)/\((q66_3 a x)=true->0<=(a.1:Int)/\(a.1:Int)<(q66_1 d x)/\0<=U.jc1 U.wh d.1 (q66_0 x a)/\U.jc1 U.wh d.1 (q66_0 x a)<(a.2.length:Int)/\jz (U.jc1 U.wh d.1 (q66_0 x a)+1)/\jz ((a.1:Int)+1)/\∃(b:Nat×List ShD),(((a.1:Int)+1=(b.1:Int)/\U.jc1 U.wh d.1 (q66_0 x a)+1=U.jc1 U.wh d.1 ((x:Int).toNat+b.1)/\True)/\a.2.set (U.jc1 U.wh d.1 (q66_0 x a)).toNat (nth a.2 ((x:Int).toNat+(a.1:Int).toNat))=b.2/\True)/\U.jrZ U.wh d.1 (x:Int).toNat b.1 b.2/\d.1.length-b.1<d.1.length-a.1)/\((q66_3 a x)=false->jz ((a.1:Int)+1)/\∃(b:Nat×List ShD),((U.jc1 U.wh d.1 (q66_0 x a)=U.jc1 U.wh d.1 ((x:Int).toNat+b.1)/\(a.1:Int)+1=(b.1:Int)/\True)/\a.2=b.2/\True)/\U.jrZ U.wh d.1 (x:Int).toNat b.1 b.2/\d.1.length-b.1<d.1.length-a.1))/\(decide ((a.1:Int)<(q66_1 d x))=false->0<=U.jc1 U.wh d.1 (q66_0 x a)/\U.jc1 U.wh d.1 (q66_0 x a)<=(a.2.length:Int)/\(a.2.length:Int)<=(a.2.length:Int)/\(U.jc1 U.wh d.1 (q66_0 x a)).toNat+((a.2.length:Int).toNat-(U.jc1 U.wh d.1 (q66_0 x a)).toNat)=a.2.length/\(0:Int)<=0/\0<=U.jc1 U.wh d.1 (q66_0 x a)/\U.jc1 U.wh d.1 (q66_0 x a)<=(↑(q66_2 d x a).length:Int)/\(List.take ((U.jc1 U.wh d.1 (q66_0 x a)).toNat-Int.toNat 0) (q66_2 d x a),())=(U.q9 U.wh d.1,())/\()=()))/\(decide (nth d.1 (x:Int).toNat=nth d.1 ((x:Int)-1).toNat)=false->jz ((x:Int)+1)/\∃(c:Nat),(((x:Int)+1=(c:Int)/\True)/\True)/\U.jCT U.wh d.1 c/\d.1.length-c<d.1.length-x))/\(decide ((x:Int)<(q66_4 d))=false->d=(U.q9 U.wh d.1,())/\()=()))
abbrev jcI:zK:=jBx tSh 54
def jmA:zK:=⟨[.val (.slice tSh)],[rwS],fun d=>[d.1.length<=100000],fun d=>((U.jU d.1,()),())⟩
abbrev q67_0:=(Ty.int.pair (Ty.int.pair (Ty.int.pair (Ty.int.pair (Ty.int.pair Ty.unit)))))
def jmg:Prop:=∀(d:List ShD×Unit),d.1.length<=100000->d.1.length<=100000/\(∀(x:ShD),x∈d.1->∀(y:ShD),y∈d.1->U.jB [])/\kD (U.jg q67_0 fun(a:ShD×ShD×Unit)=>(U.yt a.1 a.2.1,())) d.1/\(U.jc (U.jg q67_0 fun(b:ShD×ShD×Unit)=>(U.yt b.1 b.2.1,())) d.1).length<=100000/\(U.q9 U.wh (U.jc (U.jg q67_0 fun(c:ShD×ShD×Unit)=>(U.yt c.1 c.2.1,())) d.1),())=(U.jU d.1,())/\()=()
def joC:zK:=⟨[.val tSh,.own (.box 125 [.map .int .int]) true],[.cl (.dat .bool)],fun d=>[U.jwZ d.2.1.1],fun d=>((U.jt4 d.2.1.1 d.1,()),((U.jcy d.2.1.1 d.1,()),()))⟩
abbrev q68_0 (d:ShD×(List (Int×Int)×Unit)×Unit):=(kJ (0:Int) (zA Ty.int d.1.1 d.2.1.1)+1)
def jn8:Prop:=∀(d:ShD×(List (Int×Int)×Unit)×Unit),U.jwZ d.2.1.1->jz (q68_0 d)/\(decide (1<kJ (0:Int) (zA Ty.int d.1.1 (jdM Ty.int d.1.1 (q68_0 d) d.2.1.1))),())=(U.jt4 d.2.1.1 d.1,())/\((jdM Ty.int d.1.1 (q68_0 d) d.2.1.1,()),())=((U.jcy d.2.1.1 d.1,()),())
abbrev clV:Sh:= .fbox 96 125 [.map .int .int]
def yZ:zK:=⟨[.val (.slice tSh),.own clV true],[.cl (.dat .int)],fun d=>[d.1.length<=100000,U.jEs d.2.1.1],fun d=>((U.jb8 d.2.1.1 d.1,()),((U.jd6 d.2.1.1 d.1,()),()))⟩
def gN:Ann:=fun r=>match r with
 |2=>some fun σ=>{X:=Nat,sl:=fun i=>[(8,.dat .int (i:Int))],ob:=fun i=>[(400020,some (.map false .int .int (U.kP [] (gd (.slice tSh) σ 0) i)))],inv:=fun i=>i<=(gd (.slice tSh) σ 0).length/\∀b:Nat,b<i->U.jfL [] (gd (.slice tSh) σ 0) b=false,mu:=fun i=>(gd (.slice tSh) σ 0).length-i}
 |_=>none
def yQ:Prop:=∀(d:List ShD×(List (Int×Int)×Unit)×Unit),d.1.length<=100000->U.jEs d.2.1.1->d.1.length<4611686018427387904->(∃(x:Nat),((0=(x:Int)/\True)/\d.2.1.1=U.kP [] d.1 x/\True)/\x<=d.1.length/\∀(b:Nat),b<x->U.jfL [] d.1 b=false)/\∀(x:Nat),(x<=d.1.length/\∀(b:Nat),b<x->U.jfL [] d.1 b=false)->(decide ((x:Int)<(d.1.length:Int))=true->0<=(x:Int)/\(x:Int)<(d.1.length:Int)/\U.jwZ (U.kP [] d.1 x)/\(U.jt4 (U.kP [] d.1 x) (nth d.1 (x:Int).toNat)=true->((x:Int),())=(U.jb8 d.2.1.1 d.1,())/\((U.jcy (U.kP [] d.1 x) (nth d.1 (x:Int).toNat),()),())=((U.jd6 d.2.1.1 d.1,()),()))/\(U.jt4 (U.kP [] d.1 x) (nth d.1 (x:Int).toNat)=false->jz ((x:Int)+1)/\∃(a:Nat),(((x:Int)+1=(a:Int)/\True)/\(True/\True)/\U.jcy (U.kP [] d.1 x) (nth d.1 (x:Int).toNat)=U.kP [] d.1 a/\True)/\(a<=d.1.length/\∀(b:Nat),b<a->U.jfL [] d.1 b=false)/\d.1.length-a<d.1.length-x))/\(decide ((x:Int)<(d.1.length:Int))=false->((-1:Int),())=(U.jb8 d.2.1.1 d.1,())/\((U.kP [] d.1 x,()),())=((U.jd6 d.2.1.1 d.1,()),()))
def vG:zK:=⟨[.val (.slice tSh),.own clV true],[.cl (.dat .bool)],fun d=>[d.1.length<=100000,U.jEs d.2.1.1],fun d=>((decide (0<=U.jb8 d.2.1.1 d.1),()),((U.jd6 d.2.1.1 d.1,()),()))⟩
def vB:Prop:=∀(d:List ShD×(List (Int×Int)×Unit)×Unit),d.1.length<=100000->U.jEs d.2.1.1->d.1.length<=100000/\U.jEs d.2.1.1/\(decide (0<=U.jb8 d.2.1.1 d.1),())=(decide (0<=U.jb8 d.2.1.1 d.1),())/\((U.jd6 d.2.1.1 d.1,()),())=((U.jd6 d.2.1.1 d.1,()),())
def juz:jQ:=⟨[.val (.slice tSh)],[.bool],false,fun d=>[d.1.length<=100000],fun d=>(U.jwj d.1,())⟩
def juf:Prop:=∀(d:List ShD×Unit),d.1.length<=100000->d.1.length<=100000/\U.jEs []/\(decide (0<=U.jb8 [] d.1),())=(U.jwj d.1,())
def jkA:jQ:=⟨[.val tDy],[.int],false,fun _=>[],fun d=>(U.jj3 d.1,())⟩
def jk8:Ann:=fun r=>match r with
 |5=>some fun σ=>{X:=Nat,sl:=fun i=>[(17,.dat .int (i:Int))],ob:=fun _=>[],inv:=fun i=>i<=(gd (.slice tBk) σ 15).length/\∀b:Nat,b<i->U.jN (U.jd (gd tDy σ 0)) (U.vz (nth (gd (.slice tBk) σ 15) b))=true,mu:=fun i=>(gd (.slice tBk) σ 15).length-i}
 |_=>none
abbrev q72_0:=((0:Int),(1:Int),(0:Int),(0:Int),(0:Int),(1:Int),())
def jkq:Prop:=∀(d:DyD×Unit),(decide (U.zR d.1.1 q72_0≠0)=true->(U.zR d.1.1 q72_0,())=(U.jj3 d.1,()))/\(decide (U.zR d.1.1 q72_0≠0)=false->d.1.2.2.1.length<4611686018427387904->(∃(x:Nat),((0=(x:Int)/\True)/\True)/\x<=d.1.2.2.1.length/\∀(b:Nat),b<x->U.jN (U.jd d.1) (U.vz (nth d.1.2.2.1 b))=true)/\∀(x:Nat),(x<=d.1.2.2.1.length/\∀(b:Nat),b<x->U.jN (U.jd d.1) (U.vz (nth d.1.2.2.1 b))=true)->(decide ((x:Int)<(d.1.2.2.1.length:Int))=true->0<=(x:Int)/\(x:Int)<(d.1.2.2.1.length:Int)/\(decide (U.zR d.1.1 (nth d.1.2.2.1 (x:Int).toNat).1≠0)=true->(U.zR d.1.1 (nth d.1.2.2.1 (x:Int).toNat).1,())=(U.jj3 d.1,()))/\(decide (U.zR d.1.1 (nth d.1.2.2.1 (x:Int).toNat).1≠0)=false->jz ((x:Int)+1)/\∃(a:Nat),(((x:Int)+1=(a:Int)/\True)/\True)/\(a<=d.1.2.2.1.length/\∀(b:Nat),b<a->U.jN (U.jd d.1) (U.vz (nth d.1.2.2.1 b))=true)/\d.1.2.2.1.length-a<d.1.2.2.1.length-x))/\(decide ((x:Int)<(d.1.2.2.1.length:Int))=false->((0:Int),())=(U.jj3 d.1,())))
def juB:jQ:=⟨[.val tDy],[.int],false,fun d=>[(U.kR d.1).length<=100000],fun d=>(U.jJ d.1,())⟩
def juh:Prop:=∀(d:DyD×Unit),(U.kR d.1).length<=100000->(decide (U.jj3 d.1≠0)=true->(U.jj3 d.1,())=(U.jJ d.1,()))/\(decide (U.jj3 d.1≠0)=false->((!U.zC d.1)=true->((50:Int),())=(U.jJ d.1,()))/\((!U.zC d.1)=false->d.1.2.2.2.2.2.1.length<=100000/\(U.jU d.1.2.2.2.2.2.1).length<=100000/\(U.jwj (U.jU d.1.2.2.2.2.2.1)=true->((51:Int),())=(U.jJ d.1,()))/\(U.jwj (U.jU d.1.2.2.2.2.2.1)=false->((0:Int),())=(U.jJ d.1,()))))
end Go.X
namespace Go.X
open Go.Proofs
theorem jvk:jqF:=by
 intro d;rfl
theorem jdJ:zc PR 90 jq3:=jR jvk Tryz.func90 kcN koN
theorem jdV:jcC:=by
 rintro⟨l,f,⟨⟩⟩ a g;refine⟨⟨0,⟨⟨rfl,trivial⟩,trivial⟩,jFM _,fun b c=>by omega⟩,fun i hi=>⟨fun h=> ?_,fun h=> ?_⟩⟩
 .have h:i<l.length:=(by simpa using h);simp only[jFJ] at*;refine⟨by omega,by omega,wM _ (a _ (L.mem_nth h)) ⟨fun c=> ?_,fun c=>⟨L.in64 (by omega) (by omega),i+1,⟨⟨by simp,trivial⟩,trivial⟩,⟨by omega,fun b d=> ?_⟩,by omega⟩⟩⟩
  .rw[wS (p:=U.jb (α:=SpD) f.F) h hi.2 c]
  .by_cases e:b=i
   .subst e;exact c
   .exact hi.2 b (by omega)
 .have h:l.length<=i:=(by simpa using h);rw[kG (p:=U.jb (α:=SpD) f.F) h hi.2]
theorem jcO:zc PR 164 jcG:=kK jcV jdV Tryz.func164 kcN koN
theorem ja7:gY:=by
 rintro⟨l,f,⟨⟩⟩ a;refine⟨a,?_⟩;exact congrArg (·,()) (jbS (U.jb (α:=SpD) f.F) l)
theorem jam:zc PR 134 jab:=jR ja7 Tryz.func134 (kcC jcO kcN) koN
theorem jcS:jbf:=by
 rintro⟨l,f,⟨⟩⟩ a g;refine⟨⟨0,⟨⟨rfl,trivial⟩,trivial⟩,jFM _,fun b c=>by omega⟩,fun i hi=>⟨fun h=> ?_,fun h=> ?_⟩⟩
 .have h:i<l.length:=(by simpa using h);simp only[jFJ] at*;refine⟨by omega,by omega,wM _ (a _ (L.mem_nth h)) ⟨fun c=> ?_,fun c=>⟨L.in64 (by omega) (by omega),i+1,⟨⟨by simp,trivial⟩,trivial⟩,⟨by omega,fun b d=> ?_⟩,by omega⟩⟩⟩
  .rw[wS (p:=U.jb (α:=(List SpD)) f.F) h hi.2 c]
  .by_cases e:b=i
   .subst e;exact c
   .exact hi.2 b (by omega)
 .have h:l.length<=i:=(by simpa using h);rw[kG (p:=U.jb (α:=(List SpD)) f.F) h hi.2]
theorem jbA:zc PR 165 jbm:=kK jb4 jcS Tryz.func165 kcN koN
theorem jat:yR:=by
 rintro⟨l,f,⟨⟩⟩ a;refine⟨a,?_⟩;exact congrArg (·,()) (jbS (U.jb (α:=(List SpD)) f.F) l)
theorem gj:zc PR 136 yV:=jR jat Tryz.func136 (kcC jbA kcN) koN
theorem ja6:gX:=by
 rintro⟨l,f,⟨⟩⟩ a g;refine⟨⟨0,⟨⟨rfl,trivial⟩,trivial⟩,jFM _,fun b c=>by omega⟩,fun i hi=>⟨fun h=> ?_,fun h=> ?_⟩⟩
 .have h:i<l.length:=(by simpa using h);simp only[jFJ] at*;refine⟨by omega,by omega,wM _ (a _ (L.mem_nth h)) ⟨fun c=> ?_,fun c=>⟨L.in64 (by omega) (by omega),i+1,⟨⟨by simp,trivial⟩,trivial⟩,⟨by omega,fun b d=> ?_⟩,by omega⟩⟩⟩
  .rw[wS (p:=U.jb (α:=BkD) f.F) h hi.2 c]
  .by_cases e:b=i
   .subst e;exact c
   .exact hi.2 b (by omega)
 .have h:l.length<=i:=(by simpa using h);rw[kG (p:=U.jb (α:=BkD) f.F) h hi.2]
theorem jal:zc PR 166 jaa:=kK jaD ja6 Tryz.func166 kcN koN
theorem yK:v7:=by
 rintro⟨l,f,⟨⟩⟩ a;refine⟨a,?_⟩;exact congrArg (·,()) (jbS (U.jb (α:=BkD) f.F) l)
theorem yc:zc PR 138 ya:=jR yK Tryz.func138 (kcC jal kcN) koN
theorem jcT:jbg:=by
 rintro⟨l,f,⟨⟩⟩ a g;refine⟨⟨0,⟨⟨rfl,trivial⟩,trivial⟩,jFM _,fun b c=>by omega⟩,fun i hi=>⟨fun h=> ?_,fun h=> ?_⟩⟩
 .have h:i<l.length:=(by simpa using h);simp only[jFJ] at*;refine⟨by omega,by omega,wM _ (a _ (L.mem_nth h)) ⟨fun c=> ?_,fun c=>⟨L.in64 (by omega) (by omega),i+1,⟨⟨by simp,trivial⟩,trivial⟩,⟨by omega,fun b d=> ?_⟩,by omega⟩⟩⟩
  .rw[wS (p:=U.jb (α:=ShD) f.F) h hi.2 c]
  .by_cases e:b=i
   .subst e;exact c
   .exact hi.2 b (by omega)
 .have h:l.length<=i:=(by simpa using h);rw[kG (p:=U.jb (α:=ShD) f.F) h hi.2]
theorem jbB:zc PR 141 jbn:=kK jb5 jcT Tryz.func141 kcN koN
theorem jau:yS:=by
 rintro⟨l,f,⟨⟩⟩ a;refine⟨a,?_⟩;exact congrArg (·,()) (jbS (U.jb (α:=ShD) f.F) l)
theorem gm:zc PR 95 yW:=jR jau Tryz.func95 (kcC jbB kcN) koN
theorem jhQ:jfV:=by
 intro d h;exact wM _ h rfl
theorem jgh:zc PR 135 jf0:=jR jhQ Tryz.func135 kcN koN
theorem jkW:jio:=by
 intro d h;exact⟨fun g a=>⟨h g a,trivial⟩,congrArg (·,()) (jjb d.snd.fst.2 d.fst)⟩
theorem ji3:zc PR 88 jiC:=jR jkW Tryz.func88 (kcC jam (kcC jgh kcN)) koN
theorem jgw:jeu:=by
 intro d h;exact wM _ h rfl
theorem je4:zc PR 137 jeG:=jR jgw Tryz.func137 kcN koN
theorem jjF:jhj:=by
 intro d h;exact⟨fun g a=>⟨h g a,trivial⟩,congrArg (·,()) (jjb d.snd.fst.2 d.fst)⟩
theorem jhF:zc PR 92 jhr:=jR jjF Tryz.func92 (kcC gj (kcC je4 kcN)) koN
theorem jdX:jcF:=by
 intro d h;exact wM _ h rfl
theorem jcQ:zc PR 139 jcH:=jR jdX Tryz.func139 kcN koN
theorem jgy:jew:=by
 intro d h;exact⟨fun g a=>⟨h g a,trivial⟩,congrArg (·,()) (jjb d.snd.fst.2 d.fst)⟩
theorem je6:zc PR 93 jeI:=jR jgy Tryz.func93 (kcC yc (kcC jcQ kcN)) koN
theorem jgx:jev:=by
 intro d h;exact wM _ h rfl
theorem je5:zc PR 140 jeH:=jR jgx Tryz.func140 kcN koN
theorem jjG:jhk:=by
 intro d h;exact⟨fun g a=>⟨h g a,trivial⟩,congrArg (·,()) (jjb d.snd.fst.2 d.fst)⟩
theorem jhG:zc PR 94 jhs:=jR jjG Tryz.func94 (kcC gm (kcC je5 kcN)) koN
theorem jsa:jn7:=fun _=>rfl
theorem jpd:zc PR 86 jot:=jR jsa Tryz.func86 kcN koN
theorem jr9:jn6:=by
 rintro⟨l,d,f,⟨⟩⟩ a _ _;exact⟨fun _=>a,rfl⟩
theorem jpc:zc PR 87 jos:=jR jr9 Tryz.func87 (kcC ji3 kcN) koN
theorem jr8:jn5:=by
 rintro⟨b,d,⟨⟩⟩ h;have h:(U.jK d).length<4611686018427387904:=h;exact⟨L.in64 (by show _<=((U.jK d).length:Int)-1;omega) (by show((U.jK d).length:Int)-1<=_;omega),rfl⟩
theorem jpb:zc PR 89 jor:=jR jr8 Tryz.func89 (kcC jdJ kcN) koN
theorem jr7:jn4:=by
 unfold jn4 q58_1 q58_0;rintro⟨s,d,⟨⟩⟩ h;refine⟨fun a=> ?_,fun b=>⟨fun a=> ?_,rfl⟩⟩
 .have h:=h a;exact L.in64 (by simp only at*;omega) (by simp only at*;omega)
 .have h:=b a;exact L.in64 (by simp only at*;omega) (by simp only at*;omega)
theorem jpa:zc PR 91 joq:=jR jr7 Tryz.func91 (kcC jdJ kcN) koN
theorem jAk (s:SpD):U.jgX s=U.je8 s:=by
 unfold U.jgX U.je8;rw[jF6];simp only[jFD,decide_eq_true_eq];omega
theorem jAn (n:Nat) (b:BkD):U.ji7 n b=U.jcR n b:=by
 unfold U.ji7 U.jcR U.ja;rw[jF6];simp only[jFD,decide_eq_true_eq];omega
theorem jAl (nb a:Nat) (s:ShD):U.jpi nb a s=U.jbG nb a s:=by
 unfold U.jpi U.jbG U.ja;rw[jF6];simp only[jFD,decide_eq_true_eq];omega
theorem jAC (d:DyD):(((((((decide (((U.jq d).length:Int)<=4)&&U.ja ((U.jK d).length:Int) 1 5)&&(U.jK d).all (fun r=>decide ((r.length:Int)=((U.jK d).length:Int))&&r.all U.je8))&&(U.jq d).all (U.jcR (U.jK d).length))&&U.ja (U.jhw d) 0 300)&&U.ja (U.jx6 d) 0 1440)&&decide (((U.kR d).length:Int)<=30))&&(U.kR d).all (U.jbG (U.jq d).length (U.je (U.jd d)).length))=U.zC d:=by
 unfold U.zC;have e:(fun(r:List SpD)=>decide ((r.length:Int)=((U.jK d).length:Int))&&r.all U.je8)=U.vN (U.jK d).length:=by
  funext r;unfold U.vN;congr 1;exact decide_eq_decide.2 (by omega)
 rw[e];cases (U.jK d).all (U.vN (U.jK d).length)<;>cases (U.jq d).all (U.jcR (U.jK d).length)<;>cases (U.kR d).all (U.jbG (U.jq d).length (U.je (U.jd d)).length)<;>simp only[Bool.and_false,Bool.and_true,Bool.false_and,U.ja]
 rw[jF6];simp only[jFD,decide_eq_true_eq];omega
theorem jys:jue:=by
 unfold jue q59_2 q59_1 q59_0;rintro⟨d,⟨⟩⟩ _ _;refine⟨fun _ _ _=>⟨fun _ _=>trivial,trivial⟩,fun _ _ _=>trivial,fun _=>⟨fun _ _ _=>trivial,?_⟩⟩;have a:(U.jb fun(x:SpD×Unit)=>(U.jgX x.fst,()))=U.je8:=funext jAk;have b:(U.jb fun(x:BkD×Unit)=>(U.ji7 (U.jK d).length x.fst,()))=U.jcR (U.jK d).length:=funext (jAn _);have c:(U.jb fun(x:ShD×Unit)=>(U.jpi (U.jq d).length (U.je (U.jd d)).length x.fst,()))=U.jbG (U.jq d).length (U.je (U.jd d)).length:=funext (jAl _ _);simp only;rw[a,b,c];exact congrArg (·,()) (jAC d)
theorem juY:zc PR 46 juy:=jR jys Tryz.func46 (kcC jdJ (kcC jpd (kcC jpc (kcC jpb (kcC jpa (kcC jhF (kcC je6 (kcC jhG kcN)))))))) koN
theorem jjH:jhl:=by
 intro d;simp
theorem jhH:zc PR 144 jht:=jR jjH Tryz.func144 kcN koN
theorem jgz:jex:=by
 unfold jex q61_0;rintro⟨a,b,⟨⟩⟩;refine⟨fun h=>(by cases h),fun _=>⟨fun h=>(by cases h),fun _=>⟨fun h=> ?_,fun h=>⟨fun c=> ?_,fun c=> ?_⟩⟩⟩⟩
 .have h:a<b:=of_decide_eq_true h;simp only;unfold U.gK;rw[if_pos h]
 .have h:¬a<b:=of_decide_eq_false h;have c:b<a:=of_decide_eq_true c;simp only;unfold U.gK;rw[if_neg h,if_pos c]
 .have h:¬a<b:=of_decide_eq_false h;have c:¬b<a:=of_decide_eq_false c;simp only;unfold U.gK;rw[if_neg h,if_neg c]
theorem wX:zc PR 101 jeK:=jR jgz Tryz.func101 (kcC jhH kcN) koN
theorem jvx {l:List Int} {i:Nat} (h:i<l.length) (a:∀b:Nat,b<i->nth l b=0) (hi:nth l i≠0):U.wv l=nth l i:=by
 have e:l.find? (fun n=>decide (n≠0))=some (nth l i):=by
  rw[List.find?_eq_some_iff_getElem];refine⟨decide_eq_true hi,i,h,by rw[L.nth_lt h],fun j c=> ?_⟩;have:=a j c;rw[L.nth_lt (by omega)] at this;simp[this]
 unfold U.wv;rw[e]
theorem jpN {l:List Int} (a:∀b:Nat,b<l.length->nth l b=0):U.wv l=0:=by
 have e:l.find? (fun n=>decide (n≠0))=none:=by
  rw[List.find?_eq_none];intro x c;obtain⟨i,hi,rfl⟩:=L.mem_iff.1 c;simp[a i hi]
 unfold U.wv;rw[e]
theorem jpE:jmj:=by
 rintro⟨l,⟨⟩⟩ f;refine⟨⟨0,⟨⟨rfl,trivial⟩,trivial⟩,jFM _,fun b c=>by omega⟩,fun x d=>⟨fun h=> ?_,fun h=> ?_⟩⟩
 .have h:x<l.length:=(by simpa using h);simp only[jFJ];refine⟨by omega,by omega,fun a=> ?_,fun a=>⟨L.in64 (by omega) (by simp only at f;omega),x+1,⟨⟨by simp,trivial⟩,trivial⟩,⟨h,fun b c=> ?_⟩,by omega⟩⟩
  .rw[jvx h d.2 (of_decide_eq_true a)]
  .by_cases e:b=x
   .subst e;exact Classical.not_not.1 (of_decide_eq_false a)
   .exact d.2 b (by omega)
 .have h:l.length<=x:=(by simpa using h);rw[jpN (fun b c=>d.2 b (by simp only at c;omega))]
theorem jan:zc PR 100 jmw:=kK jnM jpE Tryz.func100 kcN koN
theorem jkX:jip:=fun _=>rfl
theorem ji4:zc PR 99 jiD:=jR jkX Tryz.func99 (kcC wX (kcC jan kcN)) koN
theorem jvl:jqG:=fun _=>rfl
theorem jrH:zc PR 119 jq4:=jR jvl Tryz.func119 (kcC wX (kcC jan kcN)) koN
theorem jhM:jfR:=by
 rintro⟨l,⟨⟩⟩ b c a;have b:l.length<=100000:=b;refine⟨fun h=>⟨?_,rfl⟩,fun _=>⟨by simp only;omega,by simp,rfl⟩⟩;have:l=[]:=a h;rw[this]
theorem jgd:qa PR 97 jf3:=jlz jhM Tryz.func97 kcN koN
theorem jfp:jdl:=by
 unfold jdl q66_1 q66_4 q66_3 q66_2 q66_0;rintro⟨l,⟨⟩⟩ m C;have m:l.length<=100000:=m;obtain⟨eq,k⟩:∃eq,eq=U.wh:=⟨_,rfl⟩;have A:∀a b:ShD,decide (a=b)=eq a b:=fun a b=>by rw[k];rfl
 simp only[<-k,A,jFJ];refine⟨fun h=>⟨?_,trivial⟩,fun h=> ?_⟩
 .have h:(l.length:Int)<2:=of_decide_eq_true h;rw[L.comp_short (by omega)]
 have h:¬(l.length:Int)<2:=of_decide_eq_false h;refine⟨⟨1,⟨⟨rfl,trivial⟩,trivial⟩,jFE _,by omega,?_⟩,fun i hi _=>⟨fun g=> ?_,fun g=>⟨?_,trivial⟩⟩⟩
 .rw[L.comp_short];rw[jGa];omega
 .have g:(i:Int)<(l.length:Int):=of_decide_eq_true g;obtain⟨s,D,f⟩:=hi;have z:((i:Int)-1).toNat=i-1:=(by omega);rw[z];have n:=L.comp_take (eq:=eq) (l:=l) s (by omega:i<l.length);refine⟨by omega,g,by unfold jz;omega,by omega,by omega,fun j=>⟨by omega,by omega,jGy _,⟨(1,l),⟨⟨rfl,?_,trivial⟩,rfl,trivial⟩,jFE _,by omega,rfl,?_,rfl,?_⟩,fun x q _=>⟨fun e=> ?_,fun e=> ?_⟩⟩,fun j=>⟨L.in64 (by omega) (by omega),i+1,⟨⟨by simp,trivial⟩,trivial⟩,⟨by omega,by omega,?_⟩,by omega⟩⟩
  .unfold U.jc1;rw[n,if_pos j,jGb,f,jGa];omega
  .rw[n,if_pos j,jGb,f,jGa];show l.take i=l.take (min i l.length);congr 1;omega
  .rw[n,if_pos j,jGb,f,jGa];omega
  .have e:(x.1:Int)<((l.length-i:Nat):Int):=of_decide_eq_true e;have r:=q;obtain⟨G,H,I,v,J,w⟩:=r;obtain⟨E,F⟩:=L.inv9_next s q (by omega);have y:((x.1:Int)-1).toNat=x.1-1:=(by omega);have o:i+(x.1-1)=i+x.1-1:=(by omega);rw[y,o];have p:U.jc1 eq l (i+x.1)=((U.q9 eq (l.take (i+x.1))).length:Int):=rfl;refine⟨by omega,e,by unfold jz;omega,by omega,by omega,fun c=> ?_,fun c=> ?_⟩
   .have c:eq (nth x.2 (i+x.1)) (nth x.2 (i+x.1-1))=false:=(by simpa using c);obtain⟨t,u⟩:=E c;refine⟨by omega,e,by omega,by omega,by unfold jz;omega,L.in64 (by omega) (by omega),(x.1+1,_),⟨⟨by simp,t.symm,trivial⟩,rfl,trivial⟩,u,by show _-(x.1+1)<_;omega⟩
   .have c:eq (nth x.2 (i+x.1)) (nth x.2 (i+x.1-1))=true:=(by simpa using c);obtain⟨t,u⟩:=F c;exact⟨L.in64 (by omega) (by omega),(x.1+1,x.2),⟨⟨t.symm,by simp,trivial⟩,rfl,trivial⟩,u,by show _-(x.1+1)<_;omega⟩
  .have e:¬(x.1:Int)<((l.length-i:Nat):Int):=of_decide_eq_false e;obtain⟨G,H,I,v,J,w⟩:=q;have p:U.jc1 eq l (i+x.1)=((U.q9 eq (l.take (i+x.1))).length:Int):=rfl;have d:l.take (i+x.1)=l:=jGm (by omega);rw[d] at p v w;rw[p];simp only[jFJ];have B:=L.comp_len (eq:=eq) l;refine⟨by omega,by omega,jGy _,by omega,by omega,by omega,?_,⟨?_,trivial⟩⟩
   .simp only[jFY,jGa,jGv];omega
   .congr 1;rw[show(U.q9 eq l).length-Int.toNat 0=(U.q9 eq l).length from rfl];rw[List.take_left' (by rw[jGa];omega)];exact v.symm
  .rw[n,if_neg (by rw[j];simp),f];exact(L.take_succ (by omega)).symm
 .have g:¬(i:Int)<(l.length:Int):=of_decide_eq_false g;obtain⟨s,D,f⟩:=hi;have d:l.take i=l:=jGm (by omega);rw[d] at f;rw[f]
theorem jdI:qa PR 102 jdu:=jjf jeg jfp Tryz.func102 kcN koN
theorem vf:qa PR 98 jcI:=
 jri Tryz.sortSh 54 rfl (jFQ (by kernel_rfl)) Tryz.isAgg54 Tryz.sizeOf54 (wi Tryz.func98 (c:=zu Tryz.f98) (by kernel_rfl) (by kernel_rfl))
theorem jA5:jba U.yt:=by
 have e:U.yt=jzG (fun a b=>U.gK (U.wO a) (U.wO b)) (jzG (fun a b=>U.gK (U.jnT a) (U.jnT b)) (jzG (fun a b=>U.gK (U.jz0 a) (U.jz0 b)) (jzG (fun a b=>U.gK (U.joH a) (U.joH b)) (fun a b=>U.gK (U.jcY a) (U.jcY b))))):=by
  funext a b;unfold U.yt;simp only[zq,wg,jzG]
  split<;>(try rfl);split<;>(try rfl);split<;>(try rfl);split<;>(try rfl);split<;>(try rfl)
  rename_i h;exact(Classical.not_not.1 h).symm
 rw[e];exact jgm (jgU jfC U.wO) (jgm (jgU jfC U.jnT) (jgm (jgU jfC U.jz0) (jgm (jgU jfC U.joH) (jgU jfC U.jcY))))
theorem jvP {a b:ShD} (h:U.yt a b=0):a=b:=by
 unfold U.yt at h;rw[zq] at h
 split at h
 .contradiction
 rename_i c;rw[zq] at h
 split at h
 .contradiction
 rename_i d;rw[zq] at h
 split at h
 .contradiction
 rename_i e;rw[zq] at h
 split at h
 .contradiction
 rename_i f;rw[wg] at h;have c:=vn.1 (Classical.not_not.1 c);have d:=vn.1 (Classical.not_not.1 d);have e:=vn.1 (Classical.not_not.1 e);have f:=vn.1 (Classical.not_not.1 f);have g:=vn.1 h;obtain⟨i,j,k,l,m,⟨⟩⟩:=a;obtain⟨n,o,p,q,r,⟨⟩⟩:=b;have c:i=n:=c;have d:j=o:=d;have e:k=p:=e;have f:l=q:=f;have g:m=r:=g;rw[c,d,e,f,g]
theorem jAe (l:List ShD):kD (U.jg tSh fun x=>(U.yt x.1 x.2.1,())) l:=jmR jA5 (fun _ _ _ _ h=>jvP h)
theorem jy1 (l:List ShD):(U.jU l).length<=l.length:=by
 unfold U.jU;refine jFR (L.comp_len _) ?_;rw[(zg l).length_eq];exact jFE _
theorem jpB:jmg:=by
 unfold jmg q67_0;rintro⟨l,⟨⟩⟩ a;exact⟨a,fun _ _ _ _=>trivial,jAe l,by rw[(zg (lt:=U.jg tSh fun x=>(U.yt x.1 x.2.1,())) l).length_eq];exact a,rfl,rfl⟩
theorem je7:qa PR 48 jmA:=jlz jpB Tryz.func48 (kcC ji4 kcN) (koC jgd (koC vf (koC jdI koN)))
theorem jsb:jn8:=by
 unfold jn8 q68_0;rintro⟨s,⟨m,⟨⟩⟩,⟨⟩⟩ h;have h:U.jwZ m:=h;have:=h (U.wO s);have this:0<=kJ 0 (zA .int s.1 m)/\kJ 0 (zA .int s.1 m)<=200000:=this;exact⟨L.in64 (by simp only;omega) (by simp only;omega),rfl,rfl⟩
theorem jpe:qa PR 96 joC:=jlz jsb Tryz.func96 kcN koN
theorem gI {m:List (Int×Int)} {l:List ShD} {i:Nat} (h:i<l.length):U.kP m l (i+1)=U.jcy (U.kP m l i) (nth l i):=by
 unfold U.kP;rw[L.take_succ h,jFX];rfl
theorem jBS (l:List ShD):∀i,i<=l.length->∀k,0<=kJ 0 (zA .int k (U.kP [] l i))/\kJ 0 (zA .int k (U.kP [] l i))<=(i:Int)
 |0,_,k=>⟨jGy 0,jGy 0⟩
 |i+1,hi,k=>by
  have b:=jBS l i (by omega)
  rw[gI (by omega)]
  unfold U.jcy
  by_cases e:k=U.wO (nth l i)
  .rw[e]
   have a:=M.mfind_mput (kt:= .int) (U.wO (nth l i)) (kJ 0 (zA .int (U.wO (nth l i)) (U.kP [] l i))+1) (U.kP [] l i)
   rw[a]
   have:=b (U.wO (nth l i))
   show 0<=kJ 0 (zA .int (U.wO (nth l i)) (U.kP [] l i))+1/\kJ 0 (zA .int (U.wO (nth l i)) (U.kP [] l i))+1<=_
   omega
  .have a:=M.mfind_mput_ne (kt:= .int) (k:=U.wO (nth l i)) (k':=k) e (kJ 0 (zA .int (U.wO (nth l i)) (U.kP [] l i))+1) (U.kP [] l i)
   rw[a]
   have:=b k
   omega
theorem jBl {m:List (Int×Int)} {l:List ShD} {i:Nat} (h:i<l.length) (a:∀b:Nat,b<i->U.jfL m l b=false) (hi:U.jfL m l i=true):U.jb8 m l=(i:Int)/\U.jzy m l=i+1:=by
 have e:(List.range l.length).findIdx? (U.jfL m l)=some i:=by
  rw[List.findIdx?_eq_some_iff_getElem];refine⟨by simpa using h,by simpa using hi,fun j c=>by simp[a j c]⟩
 unfold U.jb8 U.jzy U.gQ;rw[e];exact⟨rfl,rfl⟩
theorem jl7 {m:List (Int×Int)} {l:List ShD} (a:∀b:Nat,b<l.length->U.jfL m l b=false):U.jb8 m l= -1/\U.jzy m l=l.length:=by
 have e:(List.range l.length).findIdx? (U.jfL m l)=none:=by
  rw[List.findIdx?_eq_none_iff];intro x c;exact a x (jFP.1 c)
 unfold U.jb8 U.jzy U.gQ;rw[e];exact⟨rfl,rfl⟩
theorem jas:yQ:=by
 rintro⟨l,⟨m,⟨⟩⟩,⟨⟩⟩ n g o;have g:m=[]:=g;subst g;have n:l.length<=100000:=n;refine⟨⟨0,⟨⟨rfl,trivial⟩,rfl,trivial⟩,jFM _,fun b j=>by omega⟩,fun x a=>⟨fun h=> ?_,fun h=> ?_⟩⟩
 .have h:x<l.length:=(by simpa using h);simp only[jFJ];refine⟨by omega,by omega,fun k=> ?_,fun f=> ?_,fun f=>⟨L.in64 (by omega) (by omega),x+1,⟨⟨by simp,trivial⟩,⟨trivial,trivial⟩,(gI h).symm,trivial⟩,⟨h,fun b j=> ?_⟩,by omega⟩⟩
  .have:=jBS l x (by omega) k;omega
  .obtain⟨c,d⟩:=jBl h a.2 f;unfold U.jd6;rw[c,d,gI h];exact⟨rfl,rfl⟩
  .by_cases e:b=x
   .subst e;exact f
   .exact a.2 b (by omega)
 .have h:l.length<=x:=(by simpa using h);obtain⟨c,d⟩:=jl7 (m:=[]) (l:=l) (fun b j=>a.2 b (by omega));have i:x=l.length:=(by have:=a.1;simp only at this;omega);unfold U.jd6;rw[c,d,i];exact⟨rfl,rfl⟩
theorem gi:qa PR 141 yZ:=jjf gN jas Tryz.func141 kcN (koC jpe koN)
theorem ye:vB:=fun _ a b=>⟨a,b,rfl,rfl⟩
theorem vL:qa PR 95 vG:=jlz ye Tryz.func95 kcN (koC gi koN)
theorem jyt:juf:=fun _ h=>⟨h,rfl,rfl⟩
theorem juZ:zc PR 47 juz:=jR jyt Tryz.func47 kcN (koC vL koN)
theorem jzZ {c:CrD} (h:U.jl c=true):U.jN c (0,1,0,0,0,1,())=true:=by
 obtain⟨a,_⟩:=jx h;unfold U.jN;refine decide_eq_true ?_;refine⟨by decide,?_,by decide,?_,by decide,by decide,by decide,by decide,by decide,by decide,by decide,by decide,by decide⟩
 .show(0:Int)<=U.la c-1;omega
 .show(1:Int)<=U.la c-1;omega
theorem jzd (c:CrD):U.zR c (0,1,0,0,0,1,())=if U.jl c=false then 30 else 0:=by
 unfold U.zR;by_cases h:U.jl c=false
 .rw[if_pos h,if_pos h]
 .rw[if_neg h,if_neg h,if_neg (by rw[jzZ (by simpa using h)];simp)]
theorem jnk:jkq:=by
 unfold jkq q72_0;rintro⟨d,⟨⟩⟩;have e:=jzd d.1;simp only[e];by_cases f:U.jl d.1=false
 .rw[if_pos f];refine⟨fun _=> ?_,fun h=>by simp at h⟩;have f:U.jl (U.jd d)=false:=f;unfold U.jj3;rw[if_pos f]
 .rw[if_neg f];have c:U.jl (U.jd d)=true:=eq_true_of_ne_false f;refine⟨fun h=>by simp at h,fun _ k=>⟨⟨0,⟨⟨rfl,trivial⟩,trivial⟩,jFM _,fun b j=>by omega⟩,fun x l=>⟨fun h=> ?_,fun h=> ?_⟩⟩⟩
  .have h:(x:Int)<((U.jq d).length:Int):=of_decide_eq_true h;have h:x<(U.jq d).length:=(by omega);have k:(U.jq d).length<4611686018427387904:=k;have m:U.zR d.1 (nth d.2.2.1 x).1=if U.jN (U.jd d) (U.vz (nth (U.jq d) x))=false then 31 else 0:=by
    show(if U.jl (U.jd d)=false then(30:Int) else if U.jN (U.jd d) (U.vz (nth (U.jq d) x))=false then 31 else 0)=_;rw[if_neg (by rw[c];simp)]
   simp only[jFJ,m];refine⟨by omega,by show(x:Int)<((U.jq d).length:Int);omega,fun a=> ?_,fun a=>⟨L.in64 (by omega) (by omega),x+1,⟨⟨by simp,trivial⟩,trivial⟩,⟨h,fun b j=> ?_⟩,(by show(U.jq d).length-(x+1)<(U.jq d).length-x;omega)⟩⟩
   .have a:=of_decide_eq_true a;by_cases g:U.jN (U.jd d) (U.vz (nth (U.jq d) x))=false
    .rw[if_pos g];unfold U.jj3;rw[if_neg (by rw[c];simp),if_pos];unfold U.jvg;exact L.all_false h g
    .rw[if_neg g] at a;exact absurd rfl a
   .have a:=of_decide_eq_false a;by_cases n:b=x
    .subst n;by_cases g:U.jN (U.jd d) (U.vz (nth (U.jq d) b))=false
     .rw[if_pos g] at a;exact absurd (by decide) a
     .exact eq_true_of_ne_false g
    .exact l.2 b (by omega)
  .have h:¬(x:Int)<((U.jq d).length:Int):=of_decide_eq_false h;have h:(U.jq d).length<=x:=(by omega);unfold U.jj3;rw[if_neg (by rw[c];simp),if_neg];rw[Bool.not_eq_false];unfold U.jvg;rw[jFW];intro b j;obtain⟨i,hi,rfl⟩:=L.mem_iff.1 j;exact l.2 i (by omega)
theorem jkN:zc PR 45 jkA:=kK jk8 jnk Tryz.func45 (kcC jls kcN) koN
theorem jyv:juh:=by
 rintro⟨d,⟨⟩⟩ c;refine⟨fun h=> ?_,fun h=>⟨fun b=> ?_,fun b=>⟨c,jFR (jy1 _) c,fun a=> ?_,fun a=> ?_⟩⟩⟩
 .have h:=of_decide_eq_true h;simp only at h⊢;unfold U.jJ;rw[if_pos h]
 .have h:=of_decide_eq_false h;simp only at h⊢;unfold U.jJ;rw[if_neg h,if_pos (by simpa using b)]
 .have h:=of_decide_eq_false h;simp only at h⊢;unfold U.jJ;rw[if_neg h,if_neg (by simpa using b)];have a:U.jwj (U.jU (U.kR d))=true:=a;rw[if_pos a]
 .have h:=of_decide_eq_false h;simp only at h⊢;unfold U.jJ;rw[if_neg h,if_neg (by simpa using b)];have a:U.jwj (U.jU (U.kR d))=false:=a;rw[if_neg (by rw[a];simp)]
theorem ju1:zc PR 16 juB:=jR jyv Tryz.func16 (kcC jkN (kcC juY (kcC juZ kcN))) (koC je7 koN)
end Go.X
namespace Go.X
namespace U
def jus {α:Type} [Inhabited α] (l:List α) (j k:Nat):List α:=(l.set j (nth l k)).set k (nth l j)
def jcJ {α:Type} [Inhabited α] (lt:α->α->Bool):List α->Nat->List α
 |l,0=>l
 |l,j+1=>if lt (nth l (j+1)) (nth l j)=true then jcJ lt (jus l (j+1) j) j else l
def yE {α:Type} [Inhabited α] (lt:α->α->Bool) (l:List α) (i:Nat):List α:=(List.range i).foldl (jcJ lt) l
def jaR {α:Type} [Inhabited α] (lt:α->α->Bool) (l:List α):List α:=yE lt l l.length
def jdS {α:Type} (lt:α->α->Bool) (x:α):List α->List α
 |[]=>[x]
 |y::r=>if lt x y=true then y::jdS lt x r else x::y::r
end U
namespace IS
variable {α:Type} [Inhabited α] {lt:α->α->Bool}
theorem swap_perm {l:List α} {j k:Nat} (a:j<l.length) (hk:k<l.length):(U.jus l j k).Perm l:=by
 unfold U.jus;rw[L.nth_lt a,L.nth_lt hk];exact List.set_set_perm a hk
theorem sink_perm:∀(j:Nat) (l:List α),j<l.length->(U.jcJ lt l j).Perm l
 |0,l,_=>List.Perm.refl _
 |j+1,l,h=>by
  unfold U.jcJ
  have a:=swap_perm (l:=l) (j:=j+1) (k:=j) h (by omega)
  split
  .exact(sink_perm j _ (by rw[a.length_eq];omega)).trans a
  .exact List.Perm.refl _
theorem part_succ (lt:α->α->Bool) (l:List α) (i:Nat):U.yE lt l (i+1)=U.jcJ lt (U.yE lt l i) i:=by
 simp[U.yE,jF5]
theorem part_perm {l:List α}:∀(i:Nat),i<=l.length->(U.yE lt l i).Perm l
 |0,_=>List.Perm.refl _
 |i+1,h=>by
  rw[part_succ]
  have a:=part_perm (l:=l) i (by omega)
  exact(sink_perm i _ (by rw[a.length_eq];omega)).trans a
theorem isort_perm (lt:α->α->Bool) (l:List α):(U.jaR lt l).Perm l:=part_perm _ (jFE _)
theorem part_isort {l:List α} {i:Nat} (a:1<=i) (b:i<=max l.length 1) (c:l.length<=i):U.yE lt l i=U.jaR lt l:=by
 unfold U.jaR;by_cases h:l.length=0
 .have:i=1:=(by omega);subst this;rw[h];rfl
 .have:i=l.length:=(by omega);rw[this]
theorem insR_len {α:Type} {lt:α->α->Bool} (x:α):∀q:List α,(U.jdS lt x q).length=q.length+1
 |[]=>rfl
 |y::r=>by
  unfold U.jdS
  split
  .simp[insR_len x r]
  .simp
theorem nth_mid (a:List α) (x:α) (s:List α):nth (a++x::s) a.length=x:=by
 rw[L.nth_lt (by simp)];simp
theorem sink_app:∀(q:List α) (x:α) (s:List α),U.jcJ lt (q.reverse++x::s) q.length=(U.jdS lt x q).reverse++s
 |[],x,s=>rfl
 |y::r,x,s=>by
  have e:(y::r).reverse++x::s=r.reverse++y::x::s:=by simp
  rw[e]
  have g:nth (r.reverse++y::x::s) (r.length+1)=x:=by
   have:=nth_mid (r.reverse++[y]) x s;simpa using this
  have h:nth (r.reverse++y::x::s) r.length=y:=by
   have:=nth_mid r.reverse y (x::s);simpa using this
  show(if lt (nth _ (r.length+1)) (nth _ r.length)=true then U.jcJ lt (U.jus _ (r.length+1) r.length) r.length else _)=_;rw[g,h];unfold U.jdS
  split
  .have a:U.jus (r.reverse++y::x::s) (r.length+1) r.length=r.reverse++x::(y::s):=by
    unfold U.jus;rw[g,h];apply List.ext_getElem?;intro k;simp only[List.getElem?_set,jGK];by_cases b:r.length=k
    .subst b;rw[if_pos rfl,if_pos (by simp)];rw[jFN (by simp)];simp
    .rw[if_neg b];by_cases c:r.length+1=k
     .subst c;rw[if_pos rfl,if_pos (by simp)];rw[jFN (by simp)];simp
     .rw[if_neg c];by_cases f:k<r.length
      .rw[jFO (by simpa using f),jFO (by simpa using f)]
      .rw[jFN (by simp;omega),jFN (by simp;omega)];obtain⟨d,i⟩:∃d,k-r.reverse.length=d+2:=⟨k-r.length-2,by simp;omega⟩;rw[i];simp
   rw[a,sink_app r x (y::s)];simp
  .simp
theorem fold_len {α:Type} {lt:α->α->Bool}:∀(l q:List α),(l.foldl (fun q x=>U.jdS lt x q) q).length=q.length+l.length
 |[],q=>rfl
 |x::l,q=>by
  simp only[List.foldl_cons,jGe]
  rw[fold_len l,insR_len];omega
theorem part_eq (l:List α):∀i,i<=l.length->U.yE lt l i=((l.take i).foldl (fun q x=>U.jdS lt x q) []).reverse++l.drop i
 |0,_=>by simp[U.yE]
 |i+1,h=>by
  rw[part_succ,part_eq l i (by omega)]
  have b:l.drop i=nth l i::l.drop (i+1):=by
   rw[L.nth_lt (by omega)];exact List.drop_eq_getElem_cons (by omega)
  rw[b];have a:((l.take i).foldl (fun q x=>U.jdS lt x q) []).length=i:=(by rw[fold_len];simp;omega);have:=sink_app (lt:=lt) ((l.take i).foldl (fun q x=>U.jdS lt x q) []) (nth l i) (l.drop (i+1));rw[a] at this;rw[this,L.take_succ (by omega),jFX];rfl
theorem isort_eq (l:List α):U.jaR lt l=(l.foldl (fun q x=>U.jdS lt x q) []).reverse:=by
 unfold U.jaR;rw[part_eq l _ (jFE _)];simp
theorem insR_mem {α:Type} {lt:α->α->Bool} {x z:α}:∀{q:List α},z∈U.jdS lt x q↔z=x\/z∈q
 |[]=>by simp[U.jdS]
 |y::r=>by
  unfold U.jdS
  split
  .simp only[jFC,insR_mem (q:=r)]
   constructor
   .rintro(h|h|h)<;>simp[h]
   .rintro(h|h|h)<;>simp[h]
  .simp
theorem insR_desc {α:Type} {lt:α->α->Bool} {x:α}:∀{q:List α},kD lt (x::q)->q.Pairwise (fun a b=>lt a b=false)->(U.jdS lt x q).Pairwise (fun a b=>lt a b=false)
 |[],_,_=>by simp[U.jdS]
 |y::r,ho,h=>by
  rw[jGs] at h
  unfold U.jdS
  split
  .rename_i d
   rw[jGs]
   refine⟨fun z c=> ?_,insR_desc (ho.sub (fun z c=>by rcases jFC.1 c with h|h;exact h▸jGf;exact jFI _ (jFI _ h))) h.2⟩
   rcases insR_mem.1 c with rfl|c
   .exact ho.asymm (by simp) (by simp) d
   .exact h.1 z c
  .rename_i d
   have d:lt x y=false:=by simpa using d
   rw[jGs]
   refine⟨fun z c=> ?_,jGs.2 h⟩
   rcases jFC.1 c with rfl|c
   .exact d
   .exact ho.ntrans (by simp) (by simp) (by simp[c]) d (h.1 z c)
theorem fold_desc {α:Type} {lt:α->α->Bool}:∀(l q:List α),kD lt (l++q)->q.Pairwise (fun a b=>lt a b=false)->(l.foldl (fun q x=>U.jdS lt x q) q).Pairwise (fun a b=>lt a b=false)
 |[],q,_,h=>h
 |x::l,q,ho,h=>by
  refine fold_desc l _ (ho.sub (fun z c=> ?_)) (insR_desc (ho.sub (fun z c=> ?_)) h)
  .rcases jFL.1 c with c|c
   .simp[c]
   .rcases insR_mem.1 c with rfl|c
    .simp
    .simp[c]
  .rcases jFC.1 c with rfl|c
   .simp
   .simp[c]
theorem isort_asc {l:List α} (a:kD lt l):jwf lt (U.jaR lt l):=by
 rw[isort_eq];unfold jwf;rw[List.pairwise_reverse];exact fold_desc l [] (by simpa using a) (by simp)
theorem isort_sort {l:List α} (a:kD lt l):U.jaR lt l=U.jc lt l:=joz a (isort_perm lt l) (isort_asc a)
end IS
end Go.X
namespace Go.X
open Go.Proofs
def U.len8tab:ByteArray:=⟨#[0,1,2,2,3,3,3,3,4,4,4,4,4,4,4,4,5,5,5,5,5,5,5,5,5,5,5,5,5,5,5,5,6,6,6,6,6,6,6,6,6,6,6,6,6,6,6,6,6,6,6,6,6,6,6,6,6,6,6,6,6,6,6,6,7,7,7,7,7,7,7,7,7,7,7,7,7,7,7,7,7,7,7,7,7,7,7,7,7,7,7,7,7,7,7,7,7,7,7,7,7,7,7,7,7,7,7,7,7,7,7,7,7,7,7,7,7,7,7,7,7,7,7,7,7,7,7,7,8,8,8,8,8,8,8,8,8,8,8,8,8,8,8,8,8,8,8,8,8,8,8,8,8,8,8,8,8,8,8,8,8,8,8,8,8,8,8,8,8,8,8,8,8,8,8,8,8,8,8,8,8,8,8,8,8,8,8,8,8,8,8,8,8,8,8,8,8,8,8,8,8,8,8,8,8,8,8,8,8,8,8,8,8,8,8,8,8,8,8,8,8,8,8,8,8,8,8,8,8,8,8,8,8,8,8,8,8,8,8,8,8,8,8,8,8,8,8,8,8,8,8,8,8,8,8,8]⟩
abbrev rwI:Sh:= .cl (.row 3 .int .unk)
namespace U
abbrev FC:=Int×Int×Unit->Int×Unit
abbrev vl (F:FC):Int->Int->Bool:=jg .int F
def jaO (p:Int×Int×Unit->List Prop) (l:List Int):Prop:=∀x∈l,∀y∈l,jB (p (x,y,()))
def jea (n:Int):Int:=if n=0 then 0 else if n<2 then 1 else if n<4 then 2 else if n<8 then 3 else 4
end U
def jmy:jQ:=⟨[.val (.uint .u64)],[.int],false,fun d=>[0<=d.1/\d.1<=12],fun d=>(U.jea d.1,())⟩
abbrev q74_0 (d:Int×Unit):=(d.1/(2:Int)^Int.toNat 32/(2:Int)^Int.toNat 16/(2:Int)^Int.toNat 8)
abbrev q74_1 (d:Int×Unit):=(d.1/(2:Int)^Int.toNat 32/(2:Int)^Int.toNat 16)
abbrev q74_2 (d:Int×Unit):=(d.1/(2:Int)^Int.toNat 32/(2:Int)^Int.toNat 8)
abbrev q74_3 (d:Int×Unit):=(d.1/(2:Int)^Int.toNat 16/(2:Int)^Int.toNat 8)
abbrev q74_4 (d:Int×Unit):=(256<=d.1/(2:Int)^Int.toNat 32/(2:Int)^Int.toNat 16)
def jml:Prop:=∀(d:Int×Unit),0<=d.1/\d.1<=12->(decide (4294967296<=d.1)=true->(0:Int)<=32/\(32:Int)<=64/\(decide (65536<=d.1/(2:Int)^Int.toNat 32)=true->(0:Int)<=16/\(16:Int)<=64/\jz ((32:Int)+16)/\(decide (q74_4 d)=true->(0:Int)<=8/\(8:Int)<=64/\jz ((32:Int)+16+8)/\0<=d.1/(2:Int)^Int.toNat 32/(2:Int)^Int.toNat 16/(2:Int)^Int.toNat 8/\d.1/(2:Int)^Int.toNat 32/(2:Int)^Int.toNat 16/(2:Int)^Int.toNat 8<=255/\0<=d.1/(2:Int)^Int.toNat 32/(2:Int)^Int.toNat 16/(2:Int)^Int.toNat 8/\d.1/(2:Int)^Int.toNat 32/(2:Int)^Int.toNat 16/(2:Int)^Int.toNat 8<(U.len8tab.size:Int)/\jz (qd U.len8tab (q74_0 d).toNat)/\jz ((32:Int)+16+8+qd U.len8tab (q74_0 d).toNat)/\((32:Int)+16+8+qd U.len8tab (q74_0 d).toNat,())=(U.jea d.1,()))/\(decide (q74_4 d)=false->0<=d.1/(2:Int)^Int.toNat 32/(2:Int)^Int.toNat 16/\d.1/(2:Int)^Int.toNat 32/(2:Int)^Int.toNat 16<=255/\0<=d.1/(2:Int)^Int.toNat 32/(2:Int)^Int.toNat 16/\d.1/(2:Int)^Int.toNat 32/(2:Int)^Int.toNat 16<(U.len8tab.size:Int)/\jz (qd U.len8tab (q74_1 d).toNat)/\jz ((32:Int)+16+qd U.len8tab (q74_1 d).toNat)/\((32:Int)+16+qd U.len8tab (q74_1 d).toNat,())=(U.jea d.1,())))/\(decide (65536<=d.1/(2:Int)^Int.toNat 32)=false->(decide (256<=d.1/(2:Int)^Int.toNat 32)=true->(0:Int)<=8/\(8:Int)<=64/\jz ((32:Int)+8)/\0<=d.1/(2:Int)^Int.toNat 32/(2:Int)^Int.toNat 8/\d.1/(2:Int)^Int.toNat 32/(2:Int)^Int.toNat 8<=255/\0<=d.1/(2:Int)^Int.toNat 32/(2:Int)^Int.toNat 8/\d.1/(2:Int)^Int.toNat 32/(2:Int)^Int.toNat 8<(U.len8tab.size:Int)/\jz (qd U.len8tab (q74_2 d).toNat)/\jz ((32:Int)+8+qd U.len8tab (q74_2 d).toNat)/\((32:Int)+8+qd U.len8tab (q74_2 d).toNat,())=(U.jea d.1,()))/\(decide (256<=d.1/(2:Int)^Int.toNat 32)=false->0<=d.1/(2:Int)^Int.toNat 32/\d.1/(2:Int)^Int.toNat 32<=255/\0<=d.1/(2:Int)^Int.toNat 32/\d.1/(2:Int)^Int.toNat 32<(U.len8tab.size:Int)/\jz (qd U.len8tab (d.1/(2:Int)^Int.toNat 32).toNat)/\jz ((32:Int)+qd U.len8tab (d.1/(2:Int)^Int.toNat 32).toNat)/\((32:Int)+qd U.len8tab (d.1/(2:Int)^Int.toNat 32).toNat,())=(U.jea d.1,()))))/\(decide (4294967296<=d.1)=false->(decide (65536<=d.1)=true->(0:Int)<=16/\(16:Int)<=64/\jz ((0:Int)+16)/\(decide (256<=d.1/(2:Int)^Int.toNat 16)=true->(0:Int)<=8/\(8:Int)<=64/\jz ((0:Int)+16+8)/\0<=d.1/(2:Int)^Int.toNat 16/(2:Int)^Int.toNat 8/\d.1/(2:Int)^Int.toNat 16/(2:Int)^Int.toNat 8<=255/\0<=d.1/(2:Int)^Int.toNat 16/(2:Int)^Int.toNat 8/\d.1/(2:Int)^Int.toNat 16/(2:Int)^Int.toNat 8<(U.len8tab.size:Int)/\jz (qd U.len8tab (q74_3 d).toNat)/\jz ((0:Int)+16+8+qd U.len8tab (q74_3 d).toNat)/\((0:Int)+16+8+qd U.len8tab (q74_3 d).toNat,())=(U.jea d.1,()))/\(decide (256<=d.1/(2:Int)^Int.toNat 16)=false->0<=d.1/(2:Int)^Int.toNat 16/\d.1/(2:Int)^Int.toNat 16<=255/\0<=d.1/(2:Int)^Int.toNat 16/\d.1/(2:Int)^Int.toNat 16<(U.len8tab.size:Int)/\jz (qd U.len8tab (d.1/(2:Int)^Int.toNat 16).toNat)/\jz ((0:Int)+16+qd U.len8tab (d.1/(2:Int)^Int.toNat 16).toNat)/\((0:Int)+16+qd U.len8tab (d.1/(2:Int)^Int.toNat 16).toNat,())=(U.jea d.1,())))/\(decide (65536<=d.1)=false->(decide (256<=d.1)=true->(0:Int)<=8/\(8:Int)<=64/\jz ((0:Int)+8)/\0<=d.1/(2:Int)^Int.toNat 8/\d.1/(2:Int)^Int.toNat 8<=255/\0<=d.1/(2:Int)^Int.toNat 8/\d.1/(2:Int)^Int.toNat 8<(U.len8tab.size:Int)/\jz (qd U.len8tab (d.1/(2:Int)^Int.toNat 8).toNat)/\jz ((0:Int)+8+qd U.len8tab (d.1/(2:Int)^Int.toNat 8).toNat)/\((0:Int)+8+qd U.len8tab (d.1/(2:Int)^Int.toNat 8).toNat,())=(U.jea d.1,()))/\(decide (256<=d.1)=false->0<=d.1/\d.1<=255/\0<=d.1/\d.1<(U.len8tab.size:Int)/\jz (qd U.len8tab d.1.toNat)/\jz ((0:Int)+qd U.len8tab d.1.toNat)/\((0:Int)+qd U.len8tab d.1.toNat,())=(U.jea d.1,()))))
def jrc:jQ:=⟨[.val (.uint .u64)],[.int],false,fun d=>[0<=d.1/\d.1<=12],fun d=>(U.jea d.1,())⟩
def jqO:Prop:=∀(d:Int×Unit),0<=d.1/\d.1<=12->(false=true->False)/\(false=false->(0<=d.1/\d.1<=12)/\(U.jea d.1,())=(U.jea d.1,()))
def qG:zK:=⟨[.own rwI true,.val .int,.val .int,.fn [.int,.int] [.int]],[],fun d=>[d.2.1=0/\d.2.2.1=(d.1.length:Int)/\d.1.length<=12,U.jaO d.2.2.2.1.pre d.1],fun d=>((),(U.jaR (U.vl d.2.2.2.1.F) d.1,()))⟩
def qU:Ann:=fun r=>match r with
 |1=>some fun σ=>{X:=Nat,sl:=fun i=>[(8,.dat .int (i:Int))],ob:=fun i=>[(1000000,some (.row 3 .int false .unk (U.yE (U.vl (gfn [.int,.int] [.int] σ 3)) (gr .int σ 1000000) i)))],inv:=fun i=>1<=i/\i<=max (gr .int σ 1000000).length 1,mu:=fun i=>(gr .int σ 1000000).length-i}
 |4=>some fun σ=>{X:=Nat×List Int,sl:=fun x=>[(9,.dat .int (x.1:Int))],ob:=fun x=>[(1000000,some (.row 3 .int false .unk x.2))],inv:=fun x=>(x.1:Int)<=gd .int σ 8/\x.2.Perm (gr .int σ 1000000)/\U.jcJ (U.vl (gfn [.int,.int] [.int] σ 3)) x.2 x.1=U.jcJ (U.vl (gfn [.int,.int] [.int] σ 3)) (gr .int σ 1000000) (gd .int σ 8).toNat,mu:=fun x=>x.1}
 |_=>none
abbrev q76_0 (a:Nat×List Int):=(nth a.2 (a.1:Int).toNat,nth a.2 ((a.1:Int)-1).toNat,())
abbrev q76_1 (d:List Int×Int×Int×FnD [Ty.int,Ty.int] [Ty.int]×Unit):=(U.vl d.2.2.2.1.2)
def qD:Prop:=∀(d:List Int×Int×Int×FnD [Ty.int,Ty.int] [Ty.int]×Unit),d.2.1=0/\d.2.2.1=(d.1.length:Int)/\d.1.length<=12->U.jaO d.2.2.2.1.1 d.1->jz (d.2.1+1)/\(∃(x:Nat),((d.2.1+1=(x:Int)/\True)/\d.1=U.yE (q76_1 d) d.1 x/\True)/\1<=x/\x<=max d.1.length 1)/\∀(x:Nat),1<=x/\x<=max d.1.length 1->(decide ((x:Int)<d.2.2.1)=true->(∃(a:Nat×List Int),(((x:Int)=(a.1:Int)/\True)/\U.yE (q76_1 d) d.1 x=a.2/\True)/\(a.1:Int)<=(x:Int)/\a.2.Perm (U.yE (q76_1 d) d.1 x)/\U.jcJ (q76_1 d) a.2 a.1=U.jcJ (q76_1 d) (U.yE (q76_1 d) d.1 x) (x:Int).toNat)/\∀(a:Nat×List Int),(a.1:Int)<=(x:Int)/\a.2.Perm (U.yE (q76_1 d) d.1 x)/\U.jcJ (q76_1 d) a.2 a.1=U.jcJ (q76_1 d) (U.yE (q76_1 d) d.1 x) (x:Int).toNat->(decide (d.2.1<(a.1:Int))=true->0<=(a.1:Int))/\(decide (d.2.1<(a.1:Int))=true->(a.1:Int)<(a.2.length:Int))/\(decide (d.2.1<(a.1:Int))=true->jz ((a.1:Int)-1))/\(decide (d.2.1<(a.1:Int))=true->0<=(a.1:Int)-1)/\(decide (d.2.1<(a.1:Int))=true->(a.1:Int)-1<(a.2.length:Int))/\jzm (decide (d.2.1<(a.1:Int))) (d.2.2.2.1.1 (q76_0 a)) (((decide (d.2.1<(a.1:Int))&&decide ((d.2.2.2.1.2 (q76_0 a)).1<0))=true->jz ((a.1:Int)-1)/\jz ((a.1:Int)-1)/\0<=(a.1:Int)-1/\(a.1:Int)-1<(a.2.length:Int)/\0<=(a.1:Int)/\(a.1:Int)<(a.2.length:Int)/\0<=(a.1:Int)/\(a.1:Int)<(a.2.length:Int)/\0<=(a.1:Int)-1/\(a.1:Int)-1<(↑(a.2.set (a.1:Int).toNat (nth a.2 ((a.1:Int)-1).toNat)).length:Int)/\jz ((a.1:Int)-1)/\∃(b:Nat×List Int),(((a.1:Int)-1=(b.1:Int)/\True)/\(a.2.set (a.1:Int).toNat (nth a.2 ((a.1:Int)-1).toNat)).set ((a.1:Int)-1).toNat (nth a.2 (a.1:Int).toNat)=b.2/\True)/\((b.1:Int)<=(x:Int)/\b.2.Perm (U.yE (q76_1 d) d.1 x)/\U.jcJ (q76_1 d) b.2 b.1=U.jcJ (q76_1 d) (U.yE (q76_1 d) d.1 x) (x:Int).toNat)/\b.1<a.1)/\((decide (d.2.1<(a.1:Int))&&decide ((d.2.2.2.1.2 (q76_0 a)).1<0))=false->jz ((x:Int)+1)/\∃(c:Nat),(((x:Int)+1=(c:Int)/\True)/\a.2=U.yE (q76_1 d) d.1 c/\True)/\(1<=c/\c<=max d.1.length 1)/\d.1.length-c<d.1.length-x)))/\(decide ((x:Int)<d.2.2.1)=false->()=()/\(U.yE (q76_1 d) d.1 x,())=(U.jaR (q76_1 d) d.1,()))
def yY:zK:=⟨[.own rwI true,.val .int,.val .int,.val .int,.fn [.int,.int] [.int]],[],fun d=>[d.2.1=0/\d.2.2.1=(d.1.length:Int)/\d.1.length<=12,U.jaO d.2.2.2.2.1.pre d.1],fun d=>((),(U.jaR (U.vl d.2.2.2.2.1.F) d.1,()))⟩
def gM:Ann:=fun r=>match r with
 |1000002=>some fun _=>{X:=Unit,sl:=fun _=>[],ob:=fun _=>[],inv:=fun _=>True,mu:=fun _=>0}
 |_=>none
def yP:Prop:=∀(d:List Int×Int×Int×Int×FnD [Ty.int,Ty.int] [Ty.int]×Unit),d.2.1=0/\d.2.2.1=(d.1.length:Int)/\d.1.length<=12->U.jaO d.2.2.2.2.1.1 d.1->jz (d.2.2.1-d.2.1)/\(decide (d.2.2.1-d.2.1<=12)=true->(d.2.1=0/\d.2.2.1=(d.1.length:Int)/\d.1.length<=12)/\U.jaO d.2.2.2.2.1.1 d.1/\()=()/\(U.jaR (U.vl d.2.2.2.2.1.2) d.1,())=(U.jaR (U.vl d.2.2.2.2.1.2) d.1,()))/\(decide (d.2.2.1-d.2.1<=12)=false->(decide (d.2.2.2.1=0)=true->False)/\(decide (d.2.2.2.1=0)=false->((!true)=true->False)/\((!true)=false->False)))
def zF:zK:=⟨[.own rwI true,.fn [.int,.int] [.int]],[],fun d=>[d.1.length<=12,U.jaO d.2.1.pre d.1,kD (U.vl d.2.1.F) d.1],fun d=>((),(U.jc (U.vl d.2.1.F) d.1,()))⟩
def jer:Prop:=∀(d:List Int×FnD [Ty.int,Ty.int] [Ty.int]×Unit),d.1.length<=12->U.jaO d.2.1.1 d.1->kD (U.vl d.2.1.2) d.1->d.1.length<4611686018427387904->0<=(d.1.length:Int)/\(d.1.length:Int)<=18446744073709551615/\(0<=(d.1.length:Int)/\(d.1.length:Int)<=12)/\((0:Int)=0/\(d.1.length:Int)=(d.1.length:Int)/\d.1.length<=12)/\U.jaO d.2.1.1 d.1/\()=()/\(U.jaR (U.vl d.2.1.2) d.1,())=(U.jc (U.vl d.2.1.2) d.1,())
def asI (l:List Int):List (Ty.st [.int]).Data:=l.map (fun x=>(x,()))
def LVi (d:PD [.ref (.slice .int)]) (xs:List (Ty.st [.int]).Data):Prop:=xs=asI d.1
def jfJ:jie (YS [.int]):=fun r=>match r with
 |1=>some fun σ ys=>{X:=Nat,sl:=fun i=>[(7,.dat .int (i:Int))],ob:=fun _=>[],ys:=fun i=>(asI ((gd (.slice .int) σ 5).take i),true),inv:=fun i=>i<=(gd (.slice .int) σ 5).length,mu:=fun i=>(gd (.slice .int) σ 5).length-i}
 |_=>none
abbrev q79_0 (d:List Int×Unit)(x:Nat):=(nth d.1 (x:Int).toNat,())
def yg:Prop:=∀(d:List Int×Unit) (l:Nat),d.1.length<4611686018427387904->(∃(x:Nat),((0=(x:Int)/\True)/\True)/\([],true)=(List.map (fun(f:Int)=>(f,())) (List.take x d.1),true)/\x<=d.1.length)/\∀(x:Nat),x<=d.1.length->(decide ((x:Int)<(d.1.length:Int))=true->0<=(x:Int)/\(x:Int)<(d.1.length:Int)/\l=l/\(∃(rest:List (Int×Unit)),List.map (fun(g:Int)=>(g,())) (List.take x d.1)++[(q79_0 d x)]++rest=List.map (fun(h:Int)=>(h,())) d.1)/\(((!true)=true->true=true->List.map (fun(i:Int)=>(i,())) (List.take x d.1)++[(q79_0 d x)]=List.map (fun(j:Int)=>(j,())) d.1)/\((!true)=false->jz ((x:Int)+1)/\∃(a:Nat),(((x:Int)+1=(a:Int)/\True)/\True)/\(List.map (fun(k:Int)=>(k,())) (List.take x d.1)++[(q79_0 d x)],true)=(List.map (fun(z6:Int)=>(z6,())) (List.take a d.1),true)/\a<=d.1.length/\d.1.length-a<d.1.length-x))/\((!false)=true->false=true->List.map (fun(z7:Int)=>(z7,())) (List.take x d.1)++[(q79_0 d x)]=List.map (fun(z8:Int)=>(z8,())) d.1)/\((!false)=false->jz ((x:Int)+1)/\∃(a:Nat),(((x:Int)+1=(a:Int)/\True)/\True)/\(List.map (fun(m:Int)=>(m,())) (List.take x d.1)++[(q79_0 d x)],false)=(List.map (fun(b:Int)=>(b,())) (List.take a d.1),true)/\a<=d.1.length/\d.1.length-a<d.1.length-x))/\(decide ((x:Int)<(d.1.length:Int))=false->true=true->List.map (fun(c:Int)=>(c,())) (List.take x d.1)=List.map (fun(e:Int)=>(e,())) d.1)
theorem jbe:(jz1 (ctx 16 [] []) (zu Tryz.f152) [.int] [.ref (.slice .int)] LVi (fun _=>[]) (fun _ _=>jfJ) (fun d l=>hkY [.int] l [13] (fun q=>∃rest,LVi d (q++rest)) (fun _=>none)))=yg:=by kernel_rfl
def zH:jel:=⟨[.val (.slice .int)],fun _=>[],152,[.slice .int],fun d=>(d.1,())⟩
def jaH:Prop:=∀(d:List Int×Unit),d=d
theorem jdi:(jzg (ctx 4 [] []) (fun _=>none) Tryz.f110 (zu Tryz.f110) zH)=jaH:=by kernel_rfl
def vI:jqn [.int]:={ps:=[.own (.box 33 [.row 3 .int .unk]) true],slots:=[2],dst:=20,pre:=fun _=>[],G:=fun d q=>((d.1.1++q.map (·.1),()),()),seq:=fun sv=>match sv with
 | .clo 152 [.ep t m]=>(match zf t (.slice .int) m with
  |some a=>some (True,fun xs=>xs=asI a)
  |none=>none)
 |_=>none}
def wF:Nat->Option ((ts:List Ty)×jqn ts):=fun r=>match r with
 |3=>some ⟨[.int],vI⟩
 |_=>none
def zW:jei:=⟨[none,some (152,1)],[.nil false,.ref (.slice .int)],[rwI],fun d=>[d.2.1.length<=12],fun d r=>r.1.1=d.2.1⟩
def ko:jei:=⟨[some (152,1)],[.ref (.slice .int)],[rwI],fun d=>[d.1.length<=12],fun d r=>r.1.1=d.1⟩
def zN:jei:=⟨[some (152,1),none],[.ref (.slice .int),.fn [.int,.int] [.int]],[rwI],fun d=>[d.1.length<=12,U.jaO d.2.1.pre d.1,kD (U.vl d.2.1.F) d.1],fun d r=>r.1.1=U.jc (U.vl d.2.1.F) d.1⟩
def jed (d:OD zW.ps):List SV:=[.lit (.slice none 0 0),.clo 152 [.ep (.slice .int) d.2.1]]
def vC:Prop:=∀(d:Unit×List Int×Unit),d.2.1.length<=12/\True->True/\True/\(([]++List.map (fun(a:Int×Unit)=>a.1) [],()),())=(([],()),())/\(∀(q:List (Int×Unit)) (x:Int×Unit) (rest:List (Int×Unit)),q++x::rest=List.map (fun(b:Int)=>(b,())) d.2.1->kW (fun(i:List (Int×Unit))=>false) q->(([]++List.map (fun(e:Int×Unit)=>e.1) q).length+[x.1].length)*8<=140737488355328/\false=false/\(([]++List.map (fun(f:Int×Unit)=>f.1) q++[x.1],()),())=(([]++List.map (fun(g:Int×Unit)=>g.1) (q++[x]),()),()))/\(∀(xs:List (Int×Unit)),xs=List.map (fun(z6:Int)=>(z6,())) d.2.1->kW (fun(z7:List (Int×Unit))=>false) xs->∃(k:Unit),[]++List.map (fun(z8:Int×Unit)=>z8.1) xs=d.2.1)/\∀(q:List (Int×Unit)) (x:Int×Unit) (rest:List (Int×Unit)),q++x::rest=List.map (fun(h:Int)=>(h,())) d.2.1->kW (fun(c:List (Int×Unit))=>false) q->false=true->∃(k:Unit),[]=d.2.1
theorem jaY:(jxd (ctx 13 [] []) (fun _=>none) (hkC (ctx 13 [] []) (fun _=>none) wF [] []) Tryz.f178 (zu Tryz.f178) zW jed)=vC:=by kernel_rfl
def jgH (d:OD ko.ps):List SV:=[.clo 152 [.ep (.slice .int) d.1]]
def yT:Prop:=∀(d:List Int×Unit),d.1.length<=12/\True->(d.1.length<=12/\True)/\∀(r:(List Int×Unit)×Unit),r.1.1=d.1->∃(k:Unit),r.1.1=d.1
theorem jcD:(jxd (ctx 5 [] []) (fun _=>none) (hkC (ctx 5 [] []) (fun _=>none) jCf [4] [(178,20,zW)]) Tryz.f150 (zu Tryz.f150) ko jgH)=yT:=by kernel_rfl
def jcU (d:OD zN.ps):List SV:=[.clo 152 [.ep (.slice .int) d.1],.fn [.int,.int] [.int] d.2.1.pre d.2.1.F]
def va:Prop:=∀(d:List Int×FnD [Ty.int,Ty.int] [Ty.int]×Unit),d.1.length<=12/\U.jaO d.2.1.1 d.1/\kD (U.vl d.2.1.2) d.1/\True->(d.1.length<=12/\True)/\∀(r:(List Int×Unit)×Unit),r.1.1=d.1->r.1.1.length<=12/\U.jaO d.2.1.1 r.1.1/\kD (U.vl d.2.1.2) r.1.1/\∃(k:Unit),U.jc (U.vl d.2.1.2) r.1.1=U.jc (U.vl d.2.1.2) d.1
theorem gW:(jxd (ctx 12 [] [(151,zF)]) (fun _=>none) (hkC (ctx 12 [] [(151,zF)]) (fun _=>none) jCf [7] [(150,20,ko)]) Tryz.f109 (zu Tryz.f109) zN jcU)=va:=by kernel_rfl
end Go.X
namespace Go.X
open Go.Proofs
theorem jwc {γ:Bool} {l:List Prop} {k:Prop} (h:γ=true->U.jB l) (hk:k):jzm γ l k:=by
 induction l with
 |nil=>exact hk
 |cons p l b=>exact⟨fun a=>(h a).1,b (fun a=>(h a).2)⟩
theorem jFq:∀n:Nat,n<13->qd U.len8tab n=U.jea (n:Int):=by decide+kernel
theorem jDn (n:Int):0<=U.jea n/\U.jea n<=4:=by
 unfold U.jea
 split
 .omega
 split
 .omega
 split
 .omega
 split<;>omega
theorem jpG:jml:=by
 unfold jml q74_4 q74_3 q74_2 q74_1 q74_0;rintro⟨n,⟨⟩⟩ ⟨a,b⟩;have a:0<=n:=a;have b:n<=12:=b;refine⟨fun h=>absurd (of_decide_eq_true h) (by simp only;omega),fun _=>⟨fun h=>absurd (of_decide_eq_true h) (by simp only;omega),fun _=>⟨fun h=>absurd (of_decide_eq_true h) (by simp only;omega),fun _=> ?_⟩⟩⟩;have c:=jFq n.toNat (by omega);rw[Int.toNat_of_nonneg a] at c;have d:=jDn n;simp only;rw[c];refine⟨by omega,by omega,by omega,?_,by unfold jz;omega,by unfold jz;omega,by rw[Int.zero_add]⟩;have:U.len8tab.size=256:=(by decide+kernel);omega
theorem jm1:zc PR 176 jmy:=jR jpG Tryz.func176 kcN koN
theorem jvu:jqO:=by
 rintro⟨n,⟨⟩⟩ h;exact⟨fun e=>(by cases e),fun _=>⟨h,rfl⟩⟩
theorem jrO:zc PR 143 jrc:=jR jvu Tryz.func143 (kcC jm1 kcN) koN
theorem q7:qD:=by
 unfold qD q76_1 q76_0;rintro⟨l,a,b,⟨pre,c⟩,⟨⟩⟩ x y;obtain⟨z,n,E⟩:a=0/\b=(l.length:Int)/\l.length<=12:=x;have s:U.jaO pre l:=y;subst z n;simp only;refine⟨by unfold jz;omega,⟨1,⟨⟨rfl,trivial⟩,rfl,trivial⟩,jFE _,by omega⟩,fun i hi=>⟨fun h=> ?_,fun h=> ?_⟩⟩
 .have h:i<l.length:=(by have:=of_decide_eq_true h;omega);have u:=IS.part_perm (lt:=U.vl c) (l:=l) i (by omega);refine⟨⟨(i,U.yE (U.vl c) l i),⟨⟨rfl,trivial⟩,rfl,trivial⟩,jGy _,List.Perm.refl _,rfl⟩,?_⟩;rintro⟨j,m⟩ ⟨v,o,p⟩;have v:(j:Int)<=i:=v;have o:m.Perm (U.yE (U.vl c) l i):=o;have p:U.jcJ (U.vl c) m j=U.jcJ (U.vl c) (U.yE (U.vl c) l i) i:=p;have C:m.length=l.length:=(o.trans u).length_eq;have g:∀{k:Nat},k<m.length->nth m k∈l:=fun hk=>(o.trans u).mem_iff.1 (L.mem_nth hk)
  simp only[jFJ];refine⟨fun _=>by omega,fun f=>by have:=of_decide_eq_true f;omega,fun f=>by have:=of_decide_eq_true f;unfold jz;omega,fun f=>by have:=of_decide_eq_true f;omega,fun f=>by have:=of_decide_eq_true f;omega,jwc (fun f=> ?_) ⟨fun n=> ?_,fun n=> ?_⟩⟩
  .have f:=of_decide_eq_true f;exact s _ (g (by omega)) _ (g (by omega))
  .simp only[jFD,decide_eq_true_eq] at n;obtain⟨D,q⟩:=n;obtain⟨d,rfl⟩:∃d,j=d+1:=⟨j-1,by omega⟩;have r:((d+1:Nat):Int)-1=(d:Int):=(by omega);rw[r] at q⊢;simp only[jFJ] at q⊢;have t:=IS.swap_perm (l:=m) (j:=d+1) (k:=d) (by omega) (by omega);have e:jz (d:Int):=(by unfold jz;omega);refine⟨e,e,by omega,by omega,by omega,by omega,by omega,by omega,by omega,by simp;omega,e,⟨(d,U.jus m (d+1) d),⟨⟨rfl,trivial⟩,rfl,trivial⟩,⟨by simp only;omega,t.trans o,?_⟩,by simp⟩⟩;rw[<-p];show _=(if U.vl c (nth m (d+1)) (nth m d)=true then U.jcJ (U.vl c) (U.jus m (d+1) d) d else m);have w:U.vl c (nth m (d+1)) (nth m d)=true:=decide_eq_true q;rw[if_pos w]
  .have B:m=U.yE (U.vl c) l (i+1):=by
    rw[IS.part_succ,<-p];cases j with
    |zero=>rfl
    |succ d=>
     unfold U.jcJ;rw[if_neg];intro A;refine absurd n (by
      rw[Bool.and_eq_false_iff];rintro(h|h)
      .exact absurd (of_decide_eq_false h) (by simp)
      .refine of_decide_eq_false h ?_;have r:((d+1:Nat):Int)-1=(d:Int):=(by omega);rw[r];exact of_decide_eq_true A)
   exact⟨by unfold jz;omega,i+1,⟨⟨by simp,trivial⟩,B,trivial⟩,by omega,by omega⟩
 .have h:l.length<=i:=(by have:=of_decide_eq_false h;omega);exact⟨trivial,by rw[IS.part_isort hi.1 hi.2 h]⟩
theorem qL:qa PR 200 qG:=jjf qU q7 Tryz.func200 kcN koN
theorem jar:yP:=by
 rintro⟨l,a,b,lim,⟨pre,c⟩,⟨⟩⟩ e d;obtain⟨f,g,i⟩:a=0/\b=(l.length:Int)/\l.length<=12:=e;subst f g;refine⟨by unfold jz;simp only;omega,fun _=>⟨⟨rfl,rfl,by simp only;omega⟩,d,rfl,rfl⟩,fun h=>absurd (of_decide_eq_false h) (by simp only;omega)⟩
theorem gg:qa PR 179 yY:=jjf gM jar Tryz.func179 kcN (koC qL koN)
theorem jgs:jer:=by
 rintro⟨l,⟨pre,c⟩,⟨⟩⟩ a b d _;have a:l.length<=12:=a;exact⟨by simp only;omega,by simp only;omega,⟨by simp only;omega,by simp only;omega⟩,⟨rfl,rfl,a⟩,b,rfl,congrArg (·,()) (IS.isort_sort d)⟩
theorem je1:qa PR 151 zF:=jlz jgs Tryz.func151 (kcC jrO kcN) (koC gg koN)
theorem jBi {l:List Int} {i:Nat} (h:i<l.length):asI (l.take (i+1))=asI (l.take i)++[(nth l i,())]:=by
 unfold asI;rw[L.take_succ h,jGA];rfl
theorem jgr:yg:=by
 unfold yg q79_0;rintro⟨l,⟨⟩⟩ y b;have b:l.length<4611686018427387904:=b;refine⟨⟨0,⟨⟨rfl,trivial⟩,trivial⟩,rfl,jFM _⟩,fun x c=>⟨fun h=> ?_,fun h _=> ?_⟩⟩
 .have h:(x:Int)<(l.length:Int):=of_decide_eq_true h;have a:x<l.length:=(by omega);have e:=jBi a;unfold asI at e;simp only[jFJ];refine⟨by omega,h,trivial,⟨asI (l.drop (x+1)),?_⟩,⟨fun h=>(by cases h),fun _=>⟨L.in64 (by omega) (by omega),x+1,⟨⟨by simp,trivial⟩,trivial⟩,?_,by show x+1<=l.length;omega,by show l.length-(x+1)<l.length-x;omega⟩⟩,fun _ h=>(by cases h),fun h=>(by cases h)⟩
  .rw[<-e];unfold asI;rw[<-jGA,jGW]
  .rw[e]
 .have h:¬(x:Int)<(l.length:Int):=of_decide_eq_false h;have c:x<=l.length:=c;rw[jGm (by show l.length<=x;omega)]
theorem juJ {H:Imm} {lb:Array Value} {d:PD [.ref (.slice .int)]} (e:pvs PR H [.ref (.slice .int)] lb.toList d):jBm PR H [.int] (LVi d) (.func (.func 152) #[] lb):=
 jBz (C:=ctx 16 [] []) (jjY trivial trivial) mixed Tryz.func152 (by kernel_rfl) (by kernel_rfl) (by kernel_rfl) (by kernel_rfl) (by decide) (jbe.mpr jgr) (fun d l B0 R f a b c=>jD4 a c) e trivial
theorem jjA:jaH:=by intro d;rfl
theorem jhB:jqq PR 110 zH:=jD5 (jdi.mpr jjA) Tryz.func110 (by kernel_rfl) (by kernel_rfl) (by kernel_rfl) (by kernel_rfl) trivial trivial
theorem jDs (l:List Int):(asI l).map (fun(x:Int×Unit)=>x.1)=l:=by
 unfold asI;rw[List.map_map];exact List.map_id l
theorem jfq:vC:=by
 intro d ⟨a,_⟩;refine⟨trivial,trivial,rfl,fun q x rest h _=>⟨?_,rfl,?_⟩,fun xs h _=>⟨(),?_⟩,fun _ _ _ _ _ h=>(by cases h)⟩
 .have b:=congrArg List.length h;simp only[jGR,jFY,jGe] at b;have a:d.2.1.length<=12:=a;simp only[jF2,jGR,jGe,jGr];omega
 .simp
 .rw[h,jF2];exact jDs d.2.1
theorem jhL:yT:=fun d a=>⟨a,fun r h=>⟨(),h⟩⟩
theorem jdU:va:=fun d ⟨a,b,c,_⟩=>⟨⟨a,trivial⟩,fun r h=>by rw[h];exact⟨a,b,c,(),rfl⟩⟩
theorem jtQ {P:Program} {ρ:Env} {H:Imm} (b:ρ.H=H) {g:Nat} {t:Ty} {d:t.Data} {lb:Array Value} {w:World} {bs:List Nat} (a:gP P H w [.ref t] lb.toList (d,()) bs):SV.den P ρ (.clo g [.ep t d]) (.func (.func g) #[] lb):=by
 subst b
 match e:lb.toList,a with
 |[],a=>exact a.elim
 |[x],⟨_,_,_,⟨c,_⟩,_⟩=>
  simp only[SV.den,SV.denL];exact⟨lb,rfl,x,[],e,c,rfl⟩
 |x::y::r,⟨_,_,_,_,h2⟩=>cases h2.1
theorem jrE {lb:Array Value} (h:lb.size=1):∃x,lb.toList=[x]:=by
 have a:lb.toList.length=1:=(by rw[jF7];exact h);exact List.length_eq_one_iff.1 a
theorem jxA {g n:Nat} {s:jei} (h:ROK PR g s):∀(f:Nat) (p:Nat×jei),jw [(g,n,s)] f=some p->ROK PR f p.2:=by
 intro f p a;simp only[jw] at a
 split at a
 .rename_i b;have:=jFz b;subst this;simp at a;subst a;exact h
 .cases a
theorem jBc (n:Nat):(ctx n [] []).ok PR:=jjY trivial trivial
theorem jcL:ROK PR 178 zW:=by
 refine jxc (body:=zu Tryz.f178) (C:=ctx 13 [] []) (hk:=hkC (ctx 13 [] []) (fun _=>none) wF [] []) (jBc 13) mixed Tryz.func178 (by kernel_rfl) (by kernel_rfl) (by kernel_rfl) (fun B=>jlN (jBc 13) mixed ?_ jCH B) rfl (fun H w vals fl d bs c b ρ f=> ?_) (fun d=>rfl) (jaY.mpr jfq)
 .intro k t rs sv A L v ρ hk a p g;unfold wF at hk
  split at hk
  case h_2=>cases hk
  simp only[Option.some.injEq] at hk;cases hk;simp only[vI] at a
  split at a
  case h_2=>cases a
  rename_i t m
  split at a
  case h_2=>cases a
  rename_i z o;simp only[Option.some.injEq,Prod.mk.injEq] at a;obtain⟨rfl,rfl⟩:=a;obtain⟨e,rfl⟩:=jj o;subst e;simp only[SV.den,SV.denL] at g;obtain⟨lb,rfl,x,r,n,j,l⟩:=g;exact juJ (d:=(m,())) (by rw[n,l];exact⟨j,rfl⟩)
 .obtain⟨v,q,h,rfl,rfl,lb,s,i,rfl,rfl,_,rfl,rfl⟩:=c;obtain⟨u,y,_,⟨rfl,_⟩,b⟩:=b;rw[jGb] at b;refine⟨_,_,rfl,rfl,_,_,rfl,jtQ f b,rfl⟩
theorem jeT:ROK PR 150 ko:=by
 refine jxc (body:=zu Tryz.f150) (C:=ctx 5 [] []) (hk:=hkC (ctx 5 [] []) (fun _=>none) jCf [4] [(178,20,zW)]) (jBc 5) mixed Tryz.func150 (by kernel_rfl) (by kernel_rfl) (by kernel_rfl) (fun B=>jlN (jBc 5) mixed jqT (jxA jcL) B) rfl (fun H w vals fl d bs a c ρ b=> ?_) (fun d=>rfl) (jcD.mpr jhL);obtain⟨lb,f,e,rfl,rfl,_,rfl,rfl⟩:=a;rw[jGb] at c;exact⟨_,_,rfl,jtQ b c,rfl⟩
theorem jlW:(ctx 12 [] [(151,zF)]).ok PR:=jjY trivial ⟨je1,trivial⟩
theorem jbu:ROK PR 109 zN:=by
 refine jxc (body:=zu Tryz.f109) (C:=ctx 12 [] [(151,zF)]) (hk:=hkC (ctx 12 [] [(151,zF)]) (fun _=>none) jCf [7] [(150,20,ko)]) jlW mixed Tryz.func109 (by kernel_rfl) (by kernel_rfl) (by kernel_rfl)
  (fun B=>jlN jlW mixed jqT (jxA jeT) B) rfl (fun H w vals fl d bs a e ρ c=> ?_) (fun d=>rfl) (gW.mpr jdU)
 obtain⟨lb,k,g,rfl,rfl,b,v,l,h,rfl,rfl,rfl,rfl⟩:=a;obtain⟨x,f⟩:=jrE b;rw[f] at e;obtain⟨m,n,_,⟨i,_⟩,c1,c2,_,⟨j,_⟩,_⟩:=e;subst c;refine⟨_,_,rfl,⟨lb,rfl,x,[],f,i,rfl⟩,_,_,rfl,j,rfl⟩
end Go.X
namespace Go.X
open Go.Proofs
abbrev tRo:Ty:= .st [tDy,.slice .int,.slice (.slice .int),.slice .int]
abbrev RoD:Type:=DyD×List Int×List (List Int)×List Int×Unit
namespace U
def ro (o:Option RoD):RoD:=jX (Ty.dflt tRo) o
def rd (r:RoD):DyD:=r.1
def q6 (r:RoD):List Int:=r.2.1
def wy (r:RoD):List (List Int):=r.2.2.1
def jEM (r:RoD):List Int:=r.2.2.2.1
def qb (d:DyD) (b:Int):Prop:=0<=b/\b<((jq d).length:Int)
def jhI (d:DyD) (l:List Int):Prop:=l.length<=12/\∀b∈l,qb d b
def ja5 (d:DyD):Prop:=jl (jd d)=true/\jvg d=true/\zC d=true
def jpk (r:RoD):Prop:=ja5 (rd r)/\(q6 r).length=(jq (rd r)).length
def jnU (d:DyD) (p:Int):Prop:=0<=p/\p<((je (jd d)).length:Int)
def jfD (d:DyD) (a b:Int):Int:=wv [gK (jaA (bk d a)) (jaA (bk d b)),gK a b]
def jo (d:DyD) (l:List Int):List Int:=jc (wU d) l
def zX (d:DyD) (s:List Int) (n:Nat):Int:=jm8 d (s.take n)
def jm2 (d:DyD) (v6:List Int) (p:Int) (s:List Int) (i:Nat):Bool:= !(decide (qz (nth v6 (nth s i).toNat/2^p.toNat) 1=0)||(s.drop (i+1)).any (fun c=>decide (qF d (nth s i) c<0)))
def jDj (d:DyD) (v6:List Int) (p:Int) (s:List Int):Bool:=(List.range s.length).all (jm2 d v6 p s)&&decide (jm8 d s<=jx6 d)
def jqe (d:DyD) (v6:List Int) (p:Int) (l:List Int):Bool:=jDj d v6 p (jo d l)
def gL (r:RoD) (p:Int) (l:List Int):Bool:=jqe (rd r) (q6 r) p l
def ql (on:List (List Int)) (b:Int) (n:Nat):Int:=(List.range n).foldl (fun s p=>if(nth on p).any (fun x=>decide (x=b))=true then bor s (1*2^p) else s) 0
def jfW (on:List (List Int)) (b:Int):Int:=ql on b on.length
def jlR (d:DyD) (b t:Int):Bool:=(decide (qE (jd d) (vz (bk d b)) t=0)&&decide (jDM (jd d) (vz (bk d b)) t=0))&&decide (t≠0)
def vi (l:List PeD) (t:Int) (n:Nat):Int:=(List.range n).foldl (fun s i=>s+qz (t/2^i) 1*fe (nth l i)) 0
def wC (d:DyD) (t:Int):Int:=vi (je (jd d)) t (je (jd d)).length
end U
def jfY:jQ:=⟨[.val (.ptr tRo),.val .int,.val .int],[.int],false,fun d=>[d.1.isSome=true,U.ja5 (U.rd (U.ro d.1)),U.qb (U.rd (U.ro d.1)) d.2.1,U.qb (U.rd (U.ro d.1)) d.2.2.1],fun d=>(U.qF (U.rd (U.ro d.1)) d.2.1 d.2.2.1,())⟩
abbrev q84_0 (d:Option RoD×Int×Int×Unit):=(jX ((((0:Int),[],[],()),[],[],(0:Int),(0:Int),[],()),[],[],[],()) d.1)
abbrev q84_1 (d:Option RoD×Int×Int×Unit):=(nth (q84_0 d).1.2.2.1 d.2.1.toNat)
abbrev q84_2 (d:Option RoD×Int×Int×Unit):=(nth (q84_0 d).1.2.2.1 d.2.2.1.toNat)
def jfT:Prop:=∀(d:Option RoD×Int×Int×Unit),d.1.isSome=true->U.ja5 (U.rd (U.ro d.1))->U.qb (U.rd (U.ro d.1)) d.2.1->U.qb (U.rd (U.ro d.1)) d.2.2.1->d.1.isSome=true/\0<=d.2.1/\d.2.1<(↑(q84_0 d).1.2.2.1.length:Int)/\d.1.isSome=true/\0<=d.2.2.1/\d.2.2.1<(↑(q84_0 d).1.2.2.1.length:Int)/\jz ((q84_2 d).2.2.1-(q84_1 d).2.2.2.1)/\d.1.isSome=true/\jz ((q84_2 d).2.2.1-(q84_1 d).2.2.2.1-(q84_0 d).1.2.2.2.1)/\d.1.isSome=true/\(0:Int)<=(q84_1 d).2.1/\(q84_1 d).2.1<(↑(q84_0 d).1.2.1.length:Int)/\(0:Int)<=(q84_2 d).2.1/\(q84_2 d).2.1<(↑(nth (q84_0 d).1.2.1 (q84_1 d).2.1.toNat).length:Int)/\jz ((q84_2 d).2.2.1-(q84_1 d).2.2.2.1-(q84_0 d).1.2.2.2.1-(nth (nth (q84_0 d).1.2.1 (q84_1 d).2.1.toNat) (q84_2 d).2.1.toNat).2.1)/\((q84_2 d).2.2.1-(q84_1 d).2.2.2.1-(q84_0 d).1.2.2.2.1-(nth (nth (q84_0 d).1.2.1 (q84_1 d).2.1.toNat) (q84_2 d).2.1.toNat).2.1,())=(U.qF (U.rd (U.ro d.1)) d.2.1 d.2.2.1,())
def zn:jQ:=⟨[.val .int,.val .int,.ref (.ptr tRo)],[.int],false,fun d=>[d.2.2.1.isSome=true,U.qb (U.rd (U.ro d.2.2.1)) d.1,U.qb (U.rd (U.ro d.2.2.1)) d.2.1],fun d=>(U.jfD (U.rd (U.ro d.2.2.1)) d.1 d.2.1,())⟩
abbrev q85_0 (d:Int×Int×Option RoD×Unit):=(jX ((((0:Int),[],[],()),[],[],(0:Int),(0:Int),[],()),[],[],[],()) d.2.2.1)
def jcE:Prop:=∀(d:Int×Int×Option RoD×Unit),d.2.2.1.isSome=true->U.qb (U.rd (U.ro d.2.2.1)) d.1->U.qb (U.rd (U.ro d.2.2.1)) d.2.1->d.2.2.1.isSome=true/\0<=d.1/\d.1<(↑(q85_0 d).1.2.2.1.length:Int)/\d.2.2.1.isSome=true/\0<=d.2.1/\d.2.1<(↑(q85_0 d).1.2.2.1.length:Int)/\(U.wv [U.gK (nth (q85_0 d).1.2.2.1 d.1.toNat).2.2.1 (nth (q85_0 d).1.2.2.1 d.2.1.toNat).2.2.1,U.gK d.1 d.2.1],())=(U.jfD (U.rd (U.ro d.2.2.1)) d.1 d.2.1,())
def yk:jQ:=⟨[.val (.ptr tRo),.val (.slice .int)],[.slice .int],false,fun d=>[d.1.isSome=true,U.jhI (U.rd (U.ro d.1)) d.2.1],fun d=>(U.jo (U.rd (U.ro d.1)) d.2.1,())⟩
def yh:Prop:=∀(d:Option RoD×List Int×Unit),d.1.isSome=true->U.jhI (U.rd (U.ro d.1)) d.2.1->(d.2.1.length<=12/\U.jaO (fun(a:Int×Int×Unit)=>[d.1.isSome=true,U.qb (U.rd (U.ro d.1)) a.1,U.qb (U.rd (U.ro d.1)) a.2.1]) d.2.1/\kD (U.vl fun(b:Int×Int×Unit)=>(U.jfD (U.rd (U.ro d.1)) b.1 b.2.1,())) d.2.1/\True)/\∀(r:(List Int×Unit)×Unit),r.1.1=U.jc (U.vl fun(c:Int×Int×Unit)=>(U.jfD (U.rd (U.ro d.1)) c.1 c.2.1,())) d.2.1->r.1=(U.jo (U.rd (U.ro d.1)) d.2.1,())
theorem jbh:(jCo (jqy 9 [(111,zn)] [] [(110,zH)] []) (fun _=>none) (hkC (jqy 9 [(111,zn)] [] [(110,zH)] []) (fun _=>none) jCf [8] [(109,20,zN)]) Tryz.f58 (zu Tryz.f58) yk)=yh:=by kernel_rfl
def jfZ:jQ:=⟨[.val .int,.ref (.ptr tRo),.ref .int],[.bool],false,fun d=>[d.2.1.isSome=true,U.ja5 (U.rd (U.ro d.2.1)),U.qb (U.rd (U.ro d.2.1)) d.1,U.qb (U.rd (U.ro d.2.1)) d.2.2.1],fun d=>(decide (U.qF (U.rd (U.ro d.2.1)) d.2.2.1 d.1<0),())⟩
def jfU:Prop:=∀(d:Int×Option RoD×Int×Unit),d.2.1.isSome=true->U.ja5 (U.rd (U.ro d.2.1))->U.qb (U.rd (U.ro d.2.1)) d.1->U.qb (U.rd (U.ro d.2.1)) d.2.2.1->d.2.1.isSome=true/\U.ja5 (U.rd (U.ro d.2.1))/\U.qb (U.rd (U.ro d.2.1)) d.2.2.1/\U.qb (U.rd (U.ro d.2.1)) d.1/\(decide (U.qF (U.rd (U.ro d.2.1)) d.2.2.1 d.1<0),())=(decide (U.qF (U.rd (U.ro d.2.1)) d.2.2.1 d.1<0),())
def jbp:jQ:=⟨[.val (.ptr tRo),.val .int,.val (.slice .int)],[.bool],false,fun d=>[d.1.isSome=true,U.jpk (U.ro d.1),U.jnU (U.rd (U.ro d.1)) d.2.1,U.jhI (U.rd (U.ro d.1)) d.2.2.1],fun d=>(U.gL (U.ro d.1) d.2.1 d.2.2.1,())⟩
def jkh:Ann:=fun r=>match r with
 |4=>some fun σ=>{X:=Nat,sl:=fun i=>[(16,.dat .int (i:Int)),(7,.dat .int (U.zX (U.rd (U.ro (gd (.ptr tRo) σ 0))) (gd (.slice .int) σ 14) i))],ob:=fun _=>[],inv:=fun i=>i<=(gd (.slice .int) σ 14).length/\∀b:Nat,b<i->U.jm2 (U.rd (U.ro (gd (.ptr tRo) σ 0))) (U.q6 (U.ro (gd (.ptr tRo) σ 0))) (gd .int σ 1) (gd (.slice .int) σ 14) b=true,mu:=fun i=>(gd (.slice .int) σ 14).length-i}
 |_=>none
abbrev q88_0 (d:Option RoD×Int×List Int×Unit):=(jX ((((0:Int),[],[],()),[],[],(0:Int),(0:Int),[],()),[],[],[],()) d.1)
abbrev q88_5 (d:Option RoD×Int×List Int×Unit):=(U.rd (U.ro d.1))
abbrev q88_1 (d:Option RoD×Int×List Int×Unit):=(U.jo (q88_5 d) d.2.2.1)
abbrev q88_4 (d:Option RoD×Int×List Int×Unit):=(↑(q88_1 d).length:Int)
abbrev q88_6 (d:Option RoD×Int×List Int×Unit)(x:Nat):=(nth (q88_1 d) (x:Int).toNat)
abbrev q88_2 (d:Option RoD×Int×List Int×Unit)(x:Nat):=(qz (nth (q88_0 d).2.1 (q88_6 d x).toNat/(2:Int)^d.2.1.toNat) (1:Int)=0)
abbrev q88_3 (d:Option RoD×Int×List Int×Unit)(x:Nat):=((nth (q88_0 d).1.2.2.1 (q88_6 d x).toNat).2.2.2.1-(nth (q88_0 d).1.2.2.1 (q88_6 d x).toNat).2.2.1)
abbrev q88_7 (d:Option RoD×Int×List Int×Unit)(x:Nat):=(List.take ((q88_4 d).toNat-((x:Int)+1).toNat) (List.drop ((x:Int)+1).toNat (q88_1 d)))
def jin:Prop:=∀(d:Option RoD×Int×List Int×Unit),d.1.isSome=true->U.jpk (U.ro d.1)->U.jnU (q88_5 d) d.2.1->U.jhI (q88_5 d) d.2.2.1->d.1.isSome=true/\U.jhI (q88_5 d) d.2.2.1/\((q88_1 d).length<4611686018427387904->(∃(x:Nat),((0=(x:Int)/\0=U.zX (q88_5 d) (q88_1 d) x/\True)/\True)/\x<=(q88_1 d).length/\∀(b:Nat),b<x->U.jm2 (q88_5 d) (U.q6 (U.ro d.1)) d.2.1 (q88_1 d) b=true)/\∀(x:Nat),(x<=(q88_1 d).length/\∀(b:Nat),b<x->U.jm2 (q88_5 d) (U.q6 (U.ro d.1)) d.2.1 (q88_1 d) b=true)->(decide ((x:Int)<(q88_4 d))=true->0<=(x:Int)/\(x:Int)<(q88_4 d)/\d.1.isSome=true/\0<=nth (q88_1 d) (x:Int).toNat/\nth (q88_1 d) (x:Int).toNat<(↑(q88_0 d).1.2.2.1.length:Int)/\d.1.isSome=true/\0<=nth (q88_1 d) (x:Int).toNat/\nth (q88_1 d) (x:Int).toNat<(↑(q88_0 d).1.2.2.1.length:Int)/\jz (q88_3 d x)/\jz (U.zX (q88_5 d) (q88_1 d) x+(q88_3 d x))/\d.1.isSome=true/\0<=nth (q88_1 d) (x:Int).toNat/\nth (q88_1 d) (x:Int).toNat<(↑(q88_0 d).2.1.length:Int)/\0<=d.2.1/\d.2.1<=64/\((!decide (q88_2 d x))=true->jz ((x:Int)+1))/\((!decide (q88_2 d x))=true->0<=(x:Int)+1)/\((!decide (q88_2 d x))=true->(x:Int)+1<=(q88_4 d))/\((!decide (q88_2 d x))=true->(q88_4 d)<=(q88_4 d))/\((!decide (q88_2 d x))=true->∀(g:Int),g∈List.take ((q88_4 d).toNat-((x:Int)+1).toNat) (List.drop ((x:Int)+1).toNat (q88_1 d))->U.jB [d.1.isSome=true,U.ja5 (q88_5 d),U.qb (q88_5 d) g,U.qb (q88_5 d) (q88_6 d x)])/\((decide (q88_2 d x)||(q88_7 d x).any (U.jb fun(c:Int×Unit)=>(decide (U.qF (q88_5 d) (q88_6 d x) c.1<0),())))=true->(false,())=(U.gL (U.ro d.1) d.2.1 d.2.2.1,()))/\((decide (q88_2 d x)||(q88_7 d x).any (U.jb fun(e:Int×Unit)=>(decide (U.qF (q88_5 d) (q88_6 d x) e.1<0),())))=false->jz ((x:Int)+1)/\∃(a:Nat),(((x:Int)+1=(a:Int)/\U.zX (q88_5 d) (q88_1 d) x+(q88_3 d x)=U.zX (q88_5 d) (q88_1 d) a/\True)/\True)/\(a<=(q88_1 d).length/\∀(b:Nat),b<a->U.jm2 (q88_5 d) (U.q6 (U.ro d.1)) d.2.1 (q88_1 d) b=true)/\(q88_1 d).length-a<(q88_1 d).length-x))/\(decide ((x:Int)<(q88_4 d))=false->d.1.isSome=true/\(decide (U.zX (q88_5 d) (q88_1 d) x<=(q88_0 d).1.2.2.2.2.1),())=(U.gL (U.ro d.1) d.2.1 d.2.2.1,())))
def jhp:jQ:=⟨[.val (.ptr tRo),.val .int],[.int],false,fun d=>[d.1.isSome=true,(U.wy (U.ro d.1)).length<=60],fun d=>(U.jfW (U.wy (U.ro d.1)) d.2.1,())⟩
def jhU:Ann:=fun r=>match r with
 |2=>some fun σ=>{X:=Nat,sl:=fun i=>[(12,.dat .int (i:Int)),(4,.dat .int (U.ql (U.wy (U.ro (gd (.ptr tRo) σ 0))) (gd .int σ 1) i))],ob:=fun _=>[],inv:=fun i=>i<=(U.wy (U.ro (gd (.ptr tRo) σ 0))).length,mu:=fun i=>(U.wy (U.ro (gd (.ptr tRo) σ 0))).length-i}
 |_=>none
abbrev q89_0 (d:Option RoD×Int×Unit):=(jX ((((0:Int),[],[],()),[],[],(0:Int),(0:Int),[],()),[],[],[],()) d.1)
abbrev q89_1 (d:Option RoD×Int×Unit):=(U.wy (U.ro d.1))
def jhh:Prop:=∀(d:Option RoD×Int×Unit),d.1.isSome=true->(q89_1 d).length<=60->d.1.isSome=true/\((q89_0 d).2.2.1.length<4611686018427387904->(∃(x:Nat),((0=(x:Int)/\0=U.ql (q89_1 d) d.2.1 x/\True)/\True)/\x<=(q89_1 d).length)/\∀(x:Nat),x<=(q89_1 d).length->(decide ((x:Int)<(↑(q89_0 d).2.2.1.length:Int))=true->0<=(x:Int)/\(x:Int)<(↑(q89_0 d).2.2.1.length:Int)/\(((nth (q89_0 d).2.2.1 (x:Int).toNat).any fun(b:Int)=>decide (b=d.2.1))=true->0<=(x:Int)/\(x:Int)<=64/\jz ((1:Int)*2^(x:Int).toNat)/\jz ((x:Int)+1)/\∃(a:Nat),(((x:Int)+1=(a:Int)/\bor (U.ql (q89_1 d) d.2.1 x) ((1:Int)*2^(x:Int).toNat)=U.ql (q89_1 d) d.2.1 a/\True)/\True)/\a<=(q89_1 d).length/\(q89_1 d).length-a<(q89_1 d).length-x)/\(((nth (q89_0 d).2.2.1 (x:Int).toNat).any fun(c:Int)=>decide (c=d.2.1))=false->jz ((x:Int)+1)/\∃(a:Nat),((U.ql (q89_1 d) d.2.1 x=U.ql (q89_1 d) d.2.1 a/\(x:Int)+1=(a:Int)/\True)/\True)/\a<=(q89_1 d).length/\(q89_1 d).length-a<(q89_1 d).length-x))/\(decide ((x:Int)<(↑(q89_0 d).2.2.1.length:Int))=false->(U.ql (q89_1 d) d.2.1 x,())=(U.jfW (q89_1 d) d.2.1,())))
def jhq:jQ:=⟨[.val (.ptr tRo),.val .int,.val .int],[.bool],false,fun d=>[d.1.isSome=true,U.qb (U.rd (U.ro d.1)) d.2.1],fun d=>(U.jlR (U.rd (U.ro d.1)) d.2.1 d.2.2.1,())⟩
abbrev q90_0 (d:Option RoD×Int×Int×Unit):=(jX ((((0:Int),[],[],()),[],[],(0:Int),(0:Int),[],()),[],[],[],()) d.1)
def jhi:Prop:=∀(d:Option RoD×Int×Int×Unit),d.1.isSome=true->U.qb (U.rd (U.ro d.1)) d.2.1->d.1.isSome=true/\d.1.isSome=true/\0<=d.2.1/\d.2.1<(↑(q90_0 d).1.2.2.1.length:Int)/\(decide (U.qE (q90_0 d).1.1 (nth (q90_0 d).1.2.2.1 d.2.1.toNat).1 d.2.2.1=0)&&decide (U.jDM (q90_0 d).1.1 (nth (q90_0 d).1.2.2.1 d.2.1.toNat).1 d.2.2.1=0)&&decide (d.2.2.1≠0),())=(U.jlR (U.rd (U.ro d.1)) d.2.1 d.2.2.1,())
def jbo:jQ:=⟨[.val (.ptr tRo),.val .int],[.int],false,fun d=>[d.1.isSome=true,U.jl (U.jd (U.rd (U.ro d.1)))=true,0<=d.2.1,d.2.1<=1000000],fun d=>(U.wC (U.rd (U.ro d.1)) d.2.1,())⟩
def jkg:Ann:=fun r=>match r with
 |2=>some fun σ=>{X:=Nat,sl:=fun i=>[(14,.dat .int (i:Int)),(4,.dat .int (U.vi (U.je (U.jd (U.rd (U.ro (gd (.ptr tRo) σ 0))))) (gd .int σ 1) i))],ob:=fun _=>[],inv:=fun i=>i<=(U.je (U.jd (U.rd (U.ro (gd (.ptr tRo) σ 0))))).length,mu:=fun i=>(U.je (U.jd (U.rd (U.ro (gd (.ptr tRo) σ 0))))).length-i}
 |_=>none
abbrev q91_0 (d:Option RoD×Int×Unit):=(jX ((((0:Int),[],[],()),[],[],(0:Int),(0:Int),[],()),[],[],[],()) d.1)
abbrev q91_1 (d:Option RoD×Int×Unit):=(U.je (U.jd (U.rd (U.ro d.1))))
def jim:Prop:=∀(d:Option RoD×Int×Unit),d.1.isSome=true->U.jl (U.jd (U.rd (U.ro d.1)))=true->0<=d.2.1->d.2.1<=1000000->d.1.isSome=true/\((q91_0 d).1.1.2.1.length<4611686018427387904->(∃(x:Nat),((0=(x:Int)/\0=U.vi (q91_1 d) d.2.1 x/\True)/\True)/\x<=(q91_1 d).length)/\∀(x:Nat),x<=(q91_1 d).length->(decide ((x:Int)<(↑(q91_0 d).1.1.2.1.length:Int))=true->0<=(x:Int)/\(x:Int)<(↑(q91_0 d).1.1.2.1.length:Int)/\0<=(x:Int)/\(x:Int)<=64/\jz (qz (d.2.1/(2:Int)^(x:Int).toNat) (1:Int)*(nth (q91_0 d).1.1.2.1 (x:Int).toNat).2.2.2.2.2.1)/\jz (U.vi (q91_1 d) d.2.1 x+qz (d.2.1/(2:Int)^(x:Int).toNat) (1:Int)*(nth (q91_0 d).1.1.2.1 (x:Int).toNat).2.2.2.2.2.1)/\jz ((x:Int)+1)/\∃(a:Nat),(((x:Int)+1=(a:Int)/\U.vi (q91_1 d) d.2.1 x+qz (d.2.1/(2:Int)^(x:Int).toNat) (1:Int)*(nth (q91_0 d).1.1.2.1 (x:Int).toNat).2.2.2.2.2.1=U.vi (q91_1 d) d.2.1 a/\True)/\True)/\a<=(q91_1 d).length/\(q91_1 d).length-a<(q91_1 d).length-x)/\(decide ((x:Int)<(↑(q91_0 d).1.1.2.1.length:Int))=false->(U.vi (q91_1 d) d.2.1 x,())=(U.wC (U.rd (U.ro d.1)) d.2.1,())))
end Go.X
namespace Go.X
open Go.Proofs
theorem zl {d:DyD} (h:U.zC d=true):(U.jq d).length<=4/\(1<=(U.jK d).length/\(U.jK d).length<=5)/\(0<=U.jhw d/\U.jhw d<=300)/\(0<=U.jx6 d/\U.jx6 d<=1440)/\(U.kR d).length<=30/\
 (∀r∈U.jK d,U.vN (U.jK d).length r=true)/\(∀b∈U.jq d,U.jcR (U.jK d).length b=true)/\∀s∈U.kR d,U.jbG (U.jq d).length (U.je (U.jd d)).length s=true:=by
 unfold U.zC at h;simp only[jFD,decide_eq_true_eq,jFW] at h;obtain⟨⟨e,f,g,i,j,k,l,m⟩,n,a,c⟩:=h;exact⟨e,⟨f,g⟩,⟨i,j⟩,⟨k,l⟩,m,n,a,c⟩
theorem jEB {d:DyD} {b:Int} (h:U.qb d b):U.bk d b∈U.jq d:=by
 unfold U.bk;exact L.mem_nth (by unfold U.qb at h;omega)
theorem vo {d:DyD} (h:U.zC d=true) {b:Int} (a:U.qb d b):(0<=U.jvX (U.bk d b)/\U.jvX (U.bk d b)<((U.jK d).length:Int))/\0<=U.jaA (U.bk d b)/\U.jaA (U.bk d b)<U.jqi (U.bk d b)/\U.jqi (U.bk d b)<=1440:=by
 have:=(zl h).2.2.2.2.2.2.1 _ (jEB a);unfold U.jcR at this;have:=of_decide_eq_true this;omega
theorem jeQ {d:DyD} (h:U.zC d=true) {i:Nat} (hi:i<(U.jK d).length):(nth (U.jK d) i).length=(U.jK d).length/\∀j,j<(U.jK d).length->0<=U.lo (nth (nth (U.jK d) i) j)/\U.lo (nth (nth (U.jK d) i) j)<=U.hi (nth (nth (U.jK d) i) j)/\U.hi (nth (nth (U.jK d) i) j)<=300:=by
 have:=(zl h).2.2.2.2.2.1 _ (L.mem_nth hi);unfold U.vN at this;rw[jFD,decide_eq_true_eq,jFW] at this;refine⟨this.1,fun j b=> ?_⟩;have a:=this.2 _ (L.mem_nth (l:=nth (U.jK d) i) (i:=j) (by omega));unfold U.je8 at a;exact of_decide_eq_true a
theorem jjP {d:DyD} (h:U.zC d=true) {a b:Int} (c:U.qb d a) (e:U.qb d b):0<=U.jsl d a b/\U.jsl d a b<=300:=by
 have f:=(vo h c).1;have g:=(vo h e).1;have:=(jeQ h (i:=(U.jvX (U.bk d a)).toNat) (by omega)).2 (U.jvX (U.bk d b)).toNat (by omega);unfold U.jsl;omega
theorem jhO:jfT:=by
 unfold jfT q84_2 q84_1 q84_0;rintro⟨(_|r),a,b,⟨⟩⟩ h c d e
 .cases h
 obtain⟨c1,c2,c⟩:U.ja5 (U.rd r):=c;have d:U.qb (U.rd r) a:=d;have e:U.qb (U.rd r) b:=e;have g:=vo c d;have j:=vo c e;have k:=jjP c d e;have l:=(zl c).2.2.1;have m:=(jeQ c (i:=(U.jvX (U.bk (U.rd r) a)).toNat) (by omega)).1;have f:(0<=a/\a<((U.jq (U.rd r)).length:Int))/\0<=b/\b<((U.jq (U.rd r)).length:Int):=⟨d,e⟩;refine⟨rfl,f.1.1,f.1.2,rfl,f.2.1,f.2.2,?_,rfl,?_,rfl,g.1.1,g.1.2,j.1.1,?_,?_,rfl⟩
 .show jz (U.jaA (U.bk (U.rd r) b)-U.jqi (U.bk (U.rd r) a));exact L.in64 (by omega) (by omega)
 .show jz (U.jaA (U.bk (U.rd r) b)-U.jqi (U.bk (U.rd r) a)-U.jhw (U.rd r));exact L.in64 (by omega) (by omega)
 .show U.jvX (U.bk (U.rd r) b)<((nth (U.jK (U.rd r)) (U.jvX (U.bk (U.rd r) a)).toNat).length:Int);omega
 .show jz (U.jaA (U.bk (U.rd r) b)-U.jqi (U.bk (U.rd r) a)-U.jhw (U.rd r)-U.jsl (U.rd r) a b);exact L.in64 (by omega) (by omega)
theorem jgf:zc PR 59 jfY:=jR jhO Tryz.func59 kcN koN
theorem jdW:jcE:=by
 unfold jcE q85_0;rintro⟨a,b,(_|r),⟨⟩⟩ e c d
 .cases e
 have c:U.qb (U.rd r) a:=c;have d:U.qb (U.rd r) b:=d;exact⟨rfl,c.1,c.2,rfl,d.1,d.2,rfl⟩
theorem jcP:zc PR 111 zn:=jR jdW Tryz.func111 (kcC wX (kcC jan kcN)) koN
theorem jDe (d:DyD):jba (U.jfD d):=by
 have e:U.jfD d=jzG (fun a b=>U.gK (U.jaA (U.bk d a)) (U.jaA (U.bk d b))) U.gK:=by
  funext a b;unfold U.jfD;rw[zq,wg];rfl
 rw[e];exact jgm (jgU jfC (fun a=>U.jaA (U.bk d a))) jfC
theorem jy8 {d:DyD} {a b:Int} (h:U.jfD d a b=0):a=b:=by
 unfold U.jfD at h;rw[zq] at h
 split at h
 .contradiction
 .rw[wg] at h;exact vn.1 h
theorem jy9 (d:DyD) (a b:Int):decide (U.jfD d a b<0)=U.wU d a b:=by
 unfold U.jfD U.wU;rw[zq,wg];refine decide_eq_decide.2 ?_;by_cases c:U.jaA (U.bk d a)<U.jaA (U.bk d b)
 .have e:U.gK (U.jaA (U.bk d a)) (U.jaA (U.bk d b))= -1:=(by unfold U.gK;rw[if_pos c]);rw[e];simp;omega
 .by_cases f:U.jaA (U.bk d b)<U.jaA (U.bk d a)
  .have e:U.gK (U.jaA (U.bk d a)) (U.jaA (U.bk d b))=1:=(by unfold U.gK;rw[if_neg c,if_pos f]);rw[e];simp;omega
  .have e:U.gK (U.jaA (U.bk d a)) (U.jaA (U.bk d b))=0:=(by unfold U.gK;rw[if_neg c,if_neg f]);rw[e];unfold U.gK;simp only[ne_eq,not_true_eq_false,if_false]
   split<;>(try split)<;>omega
theorem jFt (d:DyD) (l:List Int):kD (U.wU d) l:=by
 have:=jmR (t:= .int) (jDe d) (l:=l) (fun _ _ _ _ h=>jy8 h);have e:(U.jg .int fun(x:Int×Int×Unit)=>(U.jfD d x.1 x.2.1,()))=U.wU d:=by
  funext a b;exact jy9 d a b
 rw[e] at this;exact this
theorem ltK (d:DyD):(U.vl fun(x:Int×Int×Unit)=>(U.jfD d x.1 x.2.1,()))=U.wU d:=by
 funext a b;exact jy9 d a b
theorem jgv:yh:=by
 rintro⟨(_|r),l,⟨⟩⟩ c f
 .cases c
 obtain⟨d,b⟩:U.jhI (U.rd r) l:=f;refine⟨⟨d,fun x g y h=>⟨rfl,b x g,b y h,trivial⟩,?_,trivial⟩,fun q a=> ?_⟩
 .have e:=ltK (U.rd r);show kD (U.vl fun(x:Int×Int×Unit)=>(U.jfD (U.rd r) x.1 x.2.1,())) l;rw[e];exact jFt _ l
 .have e:=ltK (U.rd r);have a:q.1.1=U.jc (U.vl fun(x:Int×Int×Unit)=>(U.jfD (U.rd r) x.1 x.2.1,())) l:=a;rw[e] at a;obtain⟨⟨q,⟨⟩⟩,⟨⟩⟩:=q;rw[show q=_ from a];rfl
theorem jp5:(jqy 9 [(111,zn)] [] [(110,zH)] []).ok PR:=jsB ⟨fun _=>jcP,trivial⟩ trivial ⟨jhB,trivial⟩ trivial
theorem je3:zc PR 58 yk:=
 jDU (body:=zu Tryz.f58) (C:=jqy 9 [(111,zn)] [] [(110,zH)] []) (hk:=hkC (jqy 9 [(111,zn)] [] [(110,zH)] []) (fun _=>none) jCf [8] [(109,20,zN)]) jp5 mixed Tryz.func58 (by kernel_rfl) (by kernel_rfl) (by kernel_rfl) (by decide)
  (fun B=>jlN jp5 mixed jqT (jxA jbu) B) (jbh.mpr jgv)
theorem jhP:jfU:=by
 rintro⟨b,(_|r),a,⟨⟩⟩ c f e d
 .cases c
 exact⟨rfl,f,d,e,rfl⟩
theorem jgg:zc PR 123 jfZ:=jR jhP Tryz.func123 (kcC jgf kcN) koN
theorem jdN {d:DyD} {s:List Int} {i:Nat} (h:i<s.length):U.zX d s (i+1)=U.zX d s i+(U.jqi (U.bk d (nth s i))-U.jaA (U.bk d (nth s i))):=by
 unfold U.zX U.jm8;rw[L.take_succ h,jGA,jFX];rfl
theorem jrT {d:DyD} (a:U.zC d=true) {s:List Int} (c:∀b∈s,U.qb d b):∀i,i<=s.length->0<=U.zX d s i/\U.zX d s i<=1440*(i:Int)
 |0,_=>⟨jGy _,jGy _⟩
 |i+1,hi=>by
  have f:=jrT a c i (by omega)
  have e:=vo a (c _ (L.mem_nth (l:=s) (i:=i) (by omega)))
  rw[jdN (by omega)]
  omega
theorem jrf {d:DyD} {l:List Int} {b:Int}:b∈U.jo d l↔b∈l:=(zg l).mem_iff
theorem jrg (d:DyD) (l:List Int):(U.jo d l).length=l.length:=(zg l).length_eq
theorem jkV:jin:=by
 unfold jin q88_7 q88_3 q88_2 q88_6 q88_4 q88_1 q88_5 q88_0;rintro⟨(_|r),p,l,⟨⟩⟩ D v q K
 .cases D
 obtain⟨⟨c1,c2,u⟩,v⟩:U.jpk r:=v;have q:U.jnU (U.rd r) p:=q;obtain⟨z,A⟩:U.jhI (U.rd r) l:=K;have N:=(jx c1).2.2.1;refine⟨rfl,⟨z,A⟩,fun _=> ?_⟩;obtain⟨s,o⟩:∃s,s=U.jo (U.rd r) l:=⟨_,rfl⟩;have O:s.length<=12:=(by rw[o,jrg];exact z);have k:∀b∈s,U.qb (U.rd r) b:=fun b d=>A b (by rw[o] at d;exact jrf.1 d)
 have t:U.ro (some r)=r:=rfl;simp only[t,<-o];refine⟨⟨0,⟨⟨rfl,rfl,trivial⟩,trivial⟩,jFM _,fun b d=>by omega⟩,fun x w=>⟨fun h=> ?_,fun h=> ?_⟩⟩
 .have h:(x:Int)<(s.length:Int):=of_decide_eq_true h;have a:x<s.length:=(by omega);have d:=k _ (L.mem_nth a);have H:=vo u d;have M:=jrT u k x (by omega);have C:((x:Int)+1).toNat=x+1:=(by omega);have B:(s.drop (x+1)).take (s.length-(x+1))=s.drop (x+1):=jGm (by rw[jGV];omega);have I:U.jaA (U.bk (U.rd r) (nth s x))=(nth (U.jq (U.rd r)) (nth s x).toNat).2.2.1:=rfl;simp only[jFJ,C,B];have n:(nth s x)<((U.q6 r).length:Int):=(by rw[v];exact d.2);have m:U.jm2 (U.rd r) (U.q6 r) p s x= !(decide (qz (nth (U.q6 r) (nth s x).toNat/2^p.toNat) 1=0)||(s.drop (x+1)).any (fun c=>decide (U.qF (U.rd r) (nth s x) c<0))):=rfl;have j:((s.drop (x+1)).any (U.jb fun(y:Int×Unit)=>(decide (U.qF (U.rd r) (nth s x) y.fst<0),())))=(s.drop (x+1)).any (fun c=>decide (U.qF (U.rd r) (nth s x) c<0)):=rfl;unfold U.jnU at q;refine⟨by omega,h,rfl,d.1,d.2,rfl,d.1,d.2,?_,?_,rfl,d.1,n,q.1,by omega,fun _=>L.in64 (by omega) (by omega),fun _=>by omega,fun _=>by omega,fun _=>by omega,fun _ g J=>⟨rfl,⟨c1,c2,u⟩,k g (jGX J),d,trivial⟩,fun f=> ?_,fun f=>⟨L.in64 (by omega) (by omega),x+1,⟨⟨by simp,(jdN a).symm,trivial⟩,trivial⟩,⟨by omega,fun b G=> ?_⟩,by omega⟩⟩
  .show jz (U.jqi (U.bk (U.rd r) (nth s x))-U.jaA (U.bk (U.rd r) (nth s x)));exact L.in64 (by omega) (by omega)
  .show jz (U.zX (U.rd r) s x+(U.jqi (U.bk (U.rd r) (nth s x))-U.jaA (U.bk (U.rd r) (nth s x))));exact L.in64 (by omega) (by omega)
  .have f:(decide (qz (nth (U.q6 r) (nth s x).toNat/2^p.toNat) 1=0)||((s.drop (x+1)).any (U.jb fun(y:Int×Unit)=>(decide (U.qF (U.rd r) (nth s x) y.fst<0),()))))=true:=f;have f:U.jm2 (U.rd r) (U.q6 r) p s x=false:=(by rw[m,<-j,f];rfl);have:U.gL r p l=false:=by
    unfold U.gL U.jqe U.jDj;rw[<-o];have:(List.range s.length).all (U.jm2 (U.rd r) (U.q6 r) p s)=false:=by
     rw[jGD];exact⟨x,by simpa using a,by rw[f];simp⟩
    rw[this];rfl
   rw[this]
  .by_cases e:b=x
   .subst e;have f:(decide (qz (nth (U.q6 r) (nth s b).toNat/2^p.toNat) 1=0)||((s.drop (b+1)).any (U.jb fun(y:Int×Unit)=>(decide (U.qF (U.rd r) (nth s b) y.fst<0),()))))=false:=f;rw[m,<-j,f];rfl
   .exact w.2 b (by omega)
 .have h:¬(x:Int)<(s.length:Int):=of_decide_eq_false h;have a:x=s.length:=(by have:=w.1;omega);refine⟨rfl,?_⟩;have E:(List.range s.length).all (U.jm2 (U.rd r) (U.q6 r) p s)=true:=by
   rw[jFW];intro i hi;exact w.2 i (by rw[a];simpa using hi)
  have F:U.zX (U.rd r) s x=U.jm8 (U.rd r) s:=by
   unfold U.zX;rw[a,jGm (jFE _)]
  rw[F];have:U.gL r p l=decide (U.jm8 (U.rd r) s<=U.jx6 (U.rd r)):=by
   unfold U.gL U.jqe U.jDj;rw[<-o,E,Bool.true_and]
  rw[this];rfl
theorem jbC:zc PR 83 jbp:=kK jkh jkV Tryz.func83 (kcC je3 (kcC jgg (kcC qj kcN))) koN
theorem jit (on:List (List Int)) (b:Int) (n:Nat):U.ql on b (n+1)=if(nth on n).any (fun x=>decide (x=b))=true then bor (U.ql on b n) (1*2^n) else U.ql on b n:=by
 unfold U.ql;rw[jF5,jFX];rfl
theorem vK (n:Nat):(1:Int)*2^n=2^n:=Int.one_mul _
theorem jjD:jhh:=by
 unfold jhh q89_1 q89_0;rintro⟨(_|r),b,⟨⟩⟩ g d
 .cases g
 have d:(U.wy r).length<=60:=d;have c:U.ro (some r)=r:=rfl;refine⟨rfl,fun _=>⟨⟨0,⟨⟨rfl,rfl,trivial⟩,trivial⟩,jFM _⟩,fun x f=>⟨fun h=> ?_,fun h=> ?_⟩⟩⟩
 .have h:(x:Int)<((U.wy r).length:Int):=of_decide_eq_true h;have e:=jit (U.wy r) b x;have i:BT.Set' ((2:Int)^x):=BT.two_set (by omega);unfold BT.Set' at i;simp only[jFJ,c];refine⟨by omega,h,fun a=>⟨by omega,by omega,by rw[vK];exact L.in64 (by omega) (by omega),L.in64 (by omega) (by omega),x+1,⟨⟨by simp,?_,trivial⟩,trivial⟩,by omega,by omega⟩,fun a=>⟨L.in64 (by omega) (by omega),x+1,⟨⟨?_,by simp,trivial⟩,trivial⟩,by omega,by omega⟩⟩
  .rw[e];have a:((nth (U.wy r) x).any fun y=>decide (y=b))=true:=a;rw[if_pos a]
  .rw[e];have a:((nth (U.wy r) x).any fun y=>decide (y=b))=false:=a;rw[if_neg (by rw[a];simp)]
 .have h:¬(x:Int)<((U.wy r).length:Int):=of_decide_eq_false h;have f:x<=(U.wy r).length:=f;rw[show x=(U.wy r).length by omega];rfl
theorem jhD:zc PR 53 jhp:=kK jhU jjD Tryz.func53 (kcC yn kcN) koN
theorem jjE:jhi:=by
 unfold jhi q90_0;rintro⟨(_|r),b,t,⟨⟩⟩ c a
 .cases c
 have a:U.qb (U.rd r) b:=a;exact⟨rfl,rfl,a.1,a.2,rfl⟩
theorem jhE:zc PR 40 jhq:=jR jjE Tryz.func40 (kcC jrG kcN) koN
theorem jlS (l:List PeD) (t:Int) (n:Nat):U.vi l t (n+1)=U.vi l t n+qz (t/2^n) 1*U.fe (nth l n):=by
 unfold U.vi;rw[jF5,jFX];rfl
theorem jfw {c:CrD} (h:U.jl c=true) {i:Nat} (hi:i<(U.je c).length):0<=U.fe (nth (U.je c) i)/\U.fe (nth (U.je c) i)<=1000:=by
 have:=(jx h).2.2.2.2.1 _ (L.mem_nth hi);unfold U.yI at this;simp only[jFD,decide_eq_true_eq] at this;obtain⟨⟨_,_,_,_,_,_,a,b⟩,_⟩:=this;exact⟨a,b⟩
theorem jzk {z f:Int} (a:0<=f/\f<=1000):0<=qz z 1*f/\qz z 1*f<=1000:=by
 rcases jtX z with h|h
 .rw[h,Int.zero_mul];omega
 .rw[h,Int.one_mul];omega
theorem jnw {c:CrD} (h:U.jl c=true) (t:Int):∀i,i<=(U.je c).length->0<=U.vi (U.je c) t i/\U.vi (U.je c) t i<=1000*(i:Int)
 |0,_=>⟨jGy _,jGy _⟩
 |i+1,hi=>by
  have a:=jnw h t i (by omega)
  have:=jzk (z:=t/2^i) (jfw h (i:=i) (by omega))
  rw[jlS]
  omega
theorem jkU:jim:=by
 unfold jim q91_1 q91_0;rintro⟨(_|r),t,⟨⟩⟩ d a f g
 .cases d
 have a:U.jl (U.jd (U.rd r))=true:=a;have l:=(jx a).2.2.1;have b:U.ro (some r)=r:=rfl;refine⟨rfl,fun _=>⟨⟨0,⟨⟨rfl,rfl,trivial⟩,trivial⟩,jFM _⟩,fun x c=>⟨fun h=> ?_,fun h=> ?_⟩⟩⟩
 .have h:(x:Int)<((U.je (U.jd (U.rd r))).length:Int):=of_decide_eq_true h;have e:=jlS (U.je (U.jd (U.rd r))) t x;have j:=jnw a t x (by omega);have k:=jzk (z:=t/2^x) (jfw a (i:=x) (by omega));simp only[jFJ,b];refine⟨by omega,h,by omega,by omega,L.in64 (by show _<=qz (t/2^x) 1*U.fe (nth (U.je (U.jd (U.rd r))) x);omega) (by show qz (t/2^x) 1*U.fe (nth (U.je (U.jd (U.rd r))) x)<=_;omega),L.in64 (by show _<=U.vi _ t x+qz (t/2^x) 1*U.fe (nth (U.je (U.jd (U.rd r))) x);omega) (by show U.vi _ t x+qz (t/2^x) 1*U.fe (nth (U.je (U.jd (U.rd r))) x)<=_;omega),L.in64 (by omega) (by omega),x+1,⟨⟨by simp,e.symm,trivial⟩,trivial⟩,by omega,by omega⟩
 .have h:¬(x:Int)<((U.je (U.jd (U.rd r))).length:Int):=of_decide_eq_false h;have c:x<=(U.je (U.jd (U.rd r))).length:=c;rw[show x=(U.je (U.jd (U.rd r))).length by omega];rfl
theorem ji2:zc PR 68 jbo:=kK jkg jkU Tryz.func68 kcN koN
end Go.X
namespace Go.X
theorem jd3 {l:List ShD} {s:ShD}:s∈U.jU l↔s∈l:=by
 have e:U.jU l=U.q9 (fun a b=>decide (a=b)) (U.jc (U.jg tSh fun x=>(U.yt x.1 x.2.1,())) l):=by
  unfold U.jU;congr 1
 rw[e,L.comp_mem];exact(zg l).mem_iff
theorem jp2 (l:List ShD):(U.jU l).Nodup:=by
 have e:U.jU l=U.q9 (fun a b=>decide (a=b)) (U.jc (U.jg tSh fun x=>(U.yt x.1 x.2.1,())) l):=by
  unfold U.jU;congr 1
 rw[e];refine L.asc_nodup (lt:=U.jg tSh fun x=>(U.yt x.1 x.2.1,())) (fun x=> ?_) (L.comp_asc (jAe _) (yX (jAe l)));exact(jAe [x]).irrefl x (List.mem_singleton.2 rfl)
theorem jBT (l:List ShD):∀i,i<=l.length->∀k,kJ 0 (zA .int k (U.kP [] l i))=(((l.take i).countP (fun s=>decide (U.wO s=k)):Nat):Int)
 |0,_,k=>rfl
 |i+1,hi,k=>by
  have a:=jBT l i (by omega)
  rw[gI (by omega),L.take_succ (by omega),jG3]
  unfold U.jcy
  by_cases e:k=U.wO (nth l i)
  .rw[e]
   rw[M.mfind_mput (kt:= .int) (U.wO (nth l i)) (kJ 0 (zA .int (U.wO (nth l i)) (U.kP [] l i))+1) (U.kP [] l i)]
   show kJ 0 (zA .int (U.wO (nth l i)) (U.kP [] l i))+1=_
   rw[a]
   simp
  .rw[M.mfind_mput_ne (kt:= .int) (k:=U.wO (nth l i)) (k':=k) e (kJ 0 (zA .int (U.wO (nth l i)) (U.kP [] l i))+1) (U.kP [] l i),a]
   have:decide (U.wO (nth l i)=k)=false:=decide_eq_false fun h=>e h.symm
   simp[this]
theorem jt3 {l:List ShD} {i:Nat} (h:i<l.length):U.jfL [] l i=(l.take i).any (fun s=>decide (U.wO s=U.wO (nth l i))):=by
 unfold U.jfL U.jt4;rw[<-gI h,jBT l (i+1) (by omega),L.take_succ h,jG3];rw[jF6,decide_eq_true_eq,jGk];have b:List.countP (fun s=>decide (U.wO s=U.wO (nth l i))) [nth l i]=1:=(by simp);rw[b];constructor
 .intro a;have:0<(l.take i).countP (fun s=>decide (U.wO s=U.wO (nth l i))):=(by omega);rw[List.countP_pos_iff] at this;exact this
 .intro a;have:0<(l.take i).countP (fun s=>decide (U.wO s=U.wO (nth l i))):=List.countP_pos_iff.2 a;omega
theorem jC7 (l:List ShD):U.jwj l=false↔(l.map U.wO).Nodup:=by
 have g:U.jwj l=false↔∀i,i<l.length->U.jfL [] l i=false:=by
  unfold U.jwj;constructor
  .intro h i hi;cases k:U.jfL [] l i with
   |false=>rfl
   |true=>
    exfalso;have b:(List.range l.length).findIdx? (U.jfL [] l)≠none:=by
     intro f;rw[List.findIdx?_eq_none_iff] at f;have:=f i (jFP.2 hi);rw[k] at this;cases this
    unfold U.jb8 U.gQ at h;cases d:(List.range l.length).findIdx? (U.jfL [] l) with
    |none=>exact b d
    |some j=>
     rw[d] at h;have h:=of_decide_eq_false h;exact h (jF8 j)
  .intro h;rw[(jl7 h).1];rfl
 rw[g,List.nodup_iff_pairwise_ne,List.pairwise_map,jGE];constructor
 .intro h i j hi a m e;have:=h j a;rw[jt3 a,jGo] at this;have c:=this (l[i]) (by rw[jGh];exact⟨i,by omega,rfl⟩);rw[L.nth_lt a] at c;simp[e] at c
 .intro h i hi;rw[jt3 hi,jGo];intro s b;rw[jGh] at b;obtain⟨j,a,rfl⟩:=b;have:=h j i (by omega) hi (by omega);rw[L.nth_lt hi];simpa using this
theorem jyT (l:List ShD):U.jwj (U.jU l)=false↔∀a∈l,∀b∈l,U.wO a=U.wO b->a=b:=by
 rw[jC7];constructor
 .intro h a c b d e;exact L.nodup_inj h (jd3.2 c) (jd3.2 d) e
 .intro h;rw[List.nodup_iff_pairwise_ne,List.pairwise_map];exact(List.Pairwise.imp_of_mem (fun{a b} c d f e=>f (h a (jd3.1 c) b (jd3.1 d) e)) (jp2 l))
theorem jzb (l:List ShD):U.vj l=false↔∀a∈l,∀b∈l,U.wO a=U.wO b->a=b:=by
 have k:U.vj l=false↔∀i,i<l.length->∀j,j<i->U.jj1 (nth l i) (nth l j)=false:=by
  unfold U.vj U.w4 U.jia;rw[jGo];constructor
  .intro h i hi j d;have:=h i (jFP.2 hi);rw[Bool.not_eq_true,jGo] at this;have:=this (nth l j) (by rw[jGh];exact⟨j,by omega,(L.nth_lt (by omega)).symm⟩);simpa using this
  .intro h i hi;have hi:=jFP.1 hi;rw[Bool.not_eq_true,jGo];intro s g;rw[jGh] at g;obtain⟨j,d,rfl⟩:=g;have:=h i hi j (by omega);rw[L.nth_lt (l:=l) (i:=j) (by omega)] at this;simpa using this
 rw[k];have f:∀a b:ShD,U.jj1 a b=false↔(U.wO a=U.wO b->a=b):=by
  intro a b;unfold U.jj1;rw[Bool.and_eq_false_iff];simp only[decide_eq_false_iff_not,jGl,decide_eq_true_eq];constructor
  .rintro(h|h) e
   .exact absurd e h
   .exact h
  .intro h;by_cases e:U.wO a=U.wO b
   .exact .inr (h e)
   .exact .inl e
 constructor
 .intro h a m b n e;obtain⟨i,hi,rfl⟩:=L.mem_iff.1 m;obtain⟨j,d,rfl⟩:=L.mem_iff.1 n;rcases Nat.lt_trichotomy i j with c|rfl|c
  .exact((f _ _).1 (h j d i c) e.symm).symm
  .rfl
  .exact(f _ _).1 (h i hi j c) e
 .intro h i hi j d;exact(f _ _).2 (h _ (L.mem_nth hi) _ (L.mem_nth (by omega)))
theorem jyU (l:List ShD):U.jwj (U.jU l)=U.vj l:=by
 have:=(jyT l).trans (jzb l).symm;cases a:U.jwj (U.jU l) with
 |false=>exact(this.1 a).symm
 |true=>
  cases b:U.vj l with
  |false=>rw[this.2 b] at a;cases a
  |true=>rfl
theorem jc8 (d:DyD):U.jJ d=U.yu d:=by
 unfold U.jJ U.jj3 U.yu;rw[jyU]
 split
 .rfl
 .split
  .rfl
  .rw[if_neg (by simp)]
end Go.X
namespace Go.X
open Go.Proofs
abbrev tSt:Ty:= .st [.int,.int]
abbrev jEL:Sh:= .box 72 [.dat .int,.dat (.slice tPe),.dat (.slice tLw),.dat (.slice (.slice tSp)),.dat (.slice tBk),.dat .int,.dat .int,.dat (.slice tSh),.row 3 .int .yes,.row 33 (.slice .int) .no,.row 3 .int .unk]
namespace U
def qX:List Int:=[]
def kF (b:jEL.D):RoD:=(((b.1,b.2.1,b.2.2.1,()),b.2.2.2.1,b.2.2.2.2.1,b.2.2.2.2.2.1,b.2.2.2.2.2.2.1,b.2.2.2.2.2.2.2.1,()),b.2.2.2.2.2.2.2.2.1,b.2.2.2.2.2.2.2.2.2.1,b.2.2.2.2.2.2.2.2.2.2.1,())
def jhR (b:jEL.D) (x:List (List Int)×List Int):jEL.D:=(b.1,b.2.1,b.2.2.1,b.2.2.2.1,b.2.2.2.2.1,b.2.2.2.2.2.1,b.2.2.2.2.2.2.1,b.2.2.2.2.2.2.2.1,b.2.2.2.2.2.2.2.2.1,x.1,x.2,())
def y7 (s:ShD):Int×Int×Unit:=(joH s,jcY s,())
def zB (l:List ShD) (n:Nat):List ((Int×Int×Unit)×ShD):=(l.take n).foldl (fun m s=>jdM tSt (y7 s) s m) []
def kx (m:List ((Int×Int×Unit)×ShD)) (s:ShD):Bool:= !(!decide (kJ (Ty.dflt tSh) (zA tSt (y7 s) m)=s)|| !decide (jz0 s=1))
def joi (d:DyD) (v6:List Int) (m:List ((Int×Int×Unit)×ShD)) (x:List (List Int)×List Int) (s:ShD):List (List Int)×List Int:=
 if kx m s=true then(if jqe d v6 (jcY s) (nth x.1 (jcY s).toNat++[joH s])=true then(x.1.set (jcY s).toNat (nth x.1 (jcY s).toNat++[joH s]),x.2) else(x.1,x.2++[wO s])) else x
def jFy (l:List ShD):List ShD:=jc (jg tSh fun x=>(js x.1 x.2.1,())) l
def zL (d:DyD):List ShD:=jFy (jU (kR d))
def kA (r:RoD) (l:List ShD) (n:Nat):List (List Int)×List Int:=(l.take n).foldl (joi (rd r) (q6 r) (zB l l.length)) (wy r,jEM r)
def qY (r:RoD):List (List Int)×List Int:=((kA r (zL (rd r)) (zL (rd r)).length).1,jeL (kA r (zL (rd r)) (zL (rd r)).length).2)
def jCI (l:List (List Int)):Prop:=∀x∈l,x=qX
def jAj (r:RoD):Prop:=(jJ (rd r)=0/\(q6 r).length=(jq (rd r)).length)/\((wy r).length=(je (jd (rd r))).length/\jCI (wy r))/\jEM r=qX
def yi (r:RoD) (l:List ShD) (n:Nat) (x:List (List Int)×List Int):Prop:=x.1.length=(je (jd (rd r))).length/\x.2.length<=n/\∀p:Nat,(nth x.1 p).Nodup/\∀b∈nth x.1 p,qb (rd r) b/\∃i:Nat,i<n/\y7 (nth l i)=(b,(p:Int),())/\kJ (Ty.dflt tSh) (zA tSt (y7 (nth l i)) (zB l l.length))=nth l i
end U
def bx (σ:St) (o:Nat):List SV:=match σ.obj o with|some (.box _ _ cs)=>cs|_=>[]
def gb (t:Ty) (σ:St) (o:Nat):t.Data:=match kZ σ t (bx σ o) with|some (x,_)=>x|none=>t.dflt
abbrev jkD:zK:=jwY 3
def jf4:zK:=⟨[.own jEL true],[],fun d=>[U.jAj (U.kF d.1)],fun d=>((),(U.jhR d.1 (U.qY (U.kF d.1)),()))⟩
def jgI:Ann:=fun r=>match r with
 |4=>some fun σ=>{X:=Nat,sl:=fun i=>[(20,.dat .int (i:Int))],ob:=fun i=>[(9,some (.map false tSt tSh (U.zB (gr tSh σ 3) i)))],inv:=fun i=>i<=(gr tSh σ 3).length,mu:=fun i=>(gr tSh σ 3).length-i}
 |9=>some fun σ=>{X:=Nat,sl:=fun i=>[(34,.dat .int (i:Int))],ob:=fun i=>[(400009,some (.row 33 (.slice .int) false .no (U.kA (gb tRo σ 1000000) (gr tSh σ 3) i).1)),(400010,some (.row 3 .int false .unk (U.kA (gb tRo σ 1000000) (gr tSh σ 3) i).2))],inv:=fun i=>i<=(gr tSh σ 3).length/\U.yi (gb tRo σ 1000000) (gr tSh σ 3) i (U.kA (gb tRo σ 1000000) (gr tSh σ 3) i),mu:=fun i=>(gr tSh σ 3).length-i}
 |_=>none
abbrev q92_2 (d:(Int×List PeD×List LwD×List (List (Int×Int×Unit))×List BkD×Int×Int×List ShD×List Int×List (List Int)×List Int×Unit)×Unit):=(U.jU d.1.2.2.2.2.2.2.2.1)
abbrev q92_3 (d:(Int×List PeD×List LwD×List (List (Int×Int×Unit))×List BkD×Int×Int×List ShD×List Int×List (List Int)×List Int×Unit)×Unit):=((d.1.1,d.1.2.1,d.1.2.2.1,()),d.1.2.2.2.1,d.1.2.2.2.2.1,d.1.2.2.2.2.2.1,d.1.2.2.2.2.2.2.1,d.1.2.2.2.2.2.2.2.1,())
abbrev q92_1 (d:(Int×List PeD×List LwD×List (List (Int×Int×Unit))×List BkD×Int×Int×List ShD×List Int×List (List Int)×List Int×Unit)×Unit):=((q92_3 d),d.1.2.2.2.2.2.2.2.2)
abbrev q92_4:=(Ty.int.pair (Ty.int.pair Ty.unit))
abbrev q92_0:=(Ty.int.pair (Ty.int.pair (Ty.int.pair q92_4)))
abbrev q92_5:=((0:Int),(0:Int),(0:Int),(0:Int),(0:Int),())
def jfS:Prop:=∀(d:(Int×List PeD×List LwD×List (List (Int×Int×Unit))×List BkD×Int×Int×List ShD×List Int×List (List Int)×List Int×Unit)×Unit),U.jAj (U.kF d.1)->d.1.2.2.2.2.2.2.2.1.length<=100000/\(∀(u0:ShD),u0∈U.jU d.1.2.2.2.2.2.2.2.1->∀(y:ShD),y∈U.jU d.1.2.2.2.2.2.2.2.1->U.jB [])/\kD (U.jg q92_0 fun(z0:ShD×ShD×Unit)=>(U.js z0.1 z0.2.1,())) (q92_2 d)/\((U.jc (U.jg q92_0 fun(z1:ShD×ShD×Unit)=>(U.js z1.1 z1.2.1,())) (q92_2 d)).length<4611686018427387904->(∃(x:Nat),((0=(x:Int)/\True)/\[]=U.zB (U.jc (U.jg q92_0 fun(z2:ShD×ShD×Unit)=>(U.js z2.1 z2.2.1,())) (q92_2 d)) x/\True)/\x<=(U.jc (U.jg q92_0 fun(z3:ShD×ShD×Unit)=>(U.js z3.1 z3.2.1,())) (q92_2 d)).length)/\∀(x:Nat),x<=(U.jc (U.jg q92_0 fun(z4:ShD×ShD×Unit)=>(U.js z4.1 z4.2.1,())) (q92_2 d)).length->(decide ((x:Int)<(↑(U.jc (U.jg q92_0 fun(z5:ShD×ShD×Unit)=>(U.js z5.1 z5.2.1,())) (q92_2 d)).length:Int))=true->0<=(x:Int)/\(x:Int)<(↑(U.jc (U.jg q92_0 fun(z6:ShD×ShD×Unit)=>(U.js z6.1 z6.2.1,())) (q92_2 d)).length:Int)/\jz ((x:Int)+1)/\∃(b:Nat),(((x:Int)+1=(b:Int)/\True)/\jdM q92_4 (nth (U.jc (U.jg q92_0 fun(z7:ShD×ShD×Unit)=>(U.js z7.1 z7.2.1,())) (q92_2 d)) (x:Int).toNat).2.2.2 (nth (U.jc (U.jg q92_0 fun(z8:ShD×ShD×Unit)=>(U.js z8.1 z8.2.1,())) (q92_2 d)) (x:Int).toNat) (U.zB (U.jc (U.jg q92_0 fun(z9:ShD×ShD×Unit)=>(U.js z9.1 z9.2.1,())) (q92_2 d)) x)=U.zB (U.jc (U.jg q92_0 fun(v:ShD×ShD×Unit)=>(U.js v.1 v.2.1,())) (q92_2 d)) b/\True)/\b<=(U.jc (U.jg q92_0 fun(w:ShD×ShD×Unit)=>(U.js w.1 w.2.1,())) (q92_2 d)).length/\(U.jc (U.jg q92_0 fun(z:ShD×ShD×Unit)=>(U.js z.1 z.2.1,())) (q92_2 d)).length-b<(U.jc (U.jg q92_0 fun(A:ShD×ShD×Unit)=>(U.js A.1 A.2.1,())) (q92_2 d)).length-x)/\(decide ((x:Int)<(↑(U.jc (U.jg q92_0 fun(B:ShD×ShD×Unit)=>(U.js B.1 B.2.1,())) (q92_2 d)).length:Int))=false->(U.jc (U.jg q92_0 fun(C:ShD×ShD×Unit)=>(U.js C.1 C.2.1,())) (q92_2 d)).length<4611686018427387904->(∃(x:Nat),((0=(x:Int)/\True)/\d.1.2.2.2.2.2.2.2.2.2.1=(U.kA (q92_1 d) (U.jc (U.jg q92_0 fun(D:ShD×ShD×Unit)=>(U.js D.1 D.2.1,())) (q92_2 d)) x).1/\d.1.2.2.2.2.2.2.2.2.2.2.1=(U.kA (q92_1 d) (U.jc (U.jg q92_0 fun(E:ShD×ShD×Unit)=>(U.js E.1 E.2.1,())) (q92_2 d)) x).2/\True)/\x<=(U.jc (U.jg q92_0 fun(F:ShD×ShD×Unit)=>(U.js F.1 F.2.1,())) (q92_2 d)).length/\U.yi (q92_1 d) (U.jc (U.jg q92_0 fun(G:ShD×ShD×Unit)=>(U.js G.1 G.2.1,())) (q92_2 d)) x (U.kA (q92_1 d) (U.jc (U.jg q92_0 fun(H:ShD×ShD×Unit)=>(U.js H.1 H.2.1,())) (q92_2 d)) x))/\∀(a:Nat),a<=(U.jc (U.jg q92_0 fun(I:ShD×ShD×Unit)=>(U.js I.1 I.2.1,())) (q92_2 d)).length/\U.yi (q92_1 d) (U.jc (U.jg q92_0 fun(J:ShD×ShD×Unit)=>(U.js J.1 J.2.1,())) (q92_2 d)) a (U.kA (q92_1 d) (U.jc (U.jg q92_0 fun(K:ShD×ShD×Unit)=>(U.js K.1 K.2.1,())) (q92_2 d)) a)->(decide ((a:Int)<(↑(U.jc (U.jg q92_0 fun(L:ShD×ShD×Unit)=>(U.js L.1 L.2.1,())) (q92_2 d)).length:Int))=true->0<=(a:Int)/\(a:Int)<(↑(U.jc (U.jg q92_0 fun(M:ShD×ShD×Unit)=>(U.js M.1 M.2.1,())) (q92_2 d)).length:Int)/\((!decide (kJ q92_5 (zA q92_4 (nth (U.jc (U.jg q92_0 fun(N:ShD×ShD×Unit)=>(U.js N.1 N.2.1,())) (q92_2 d)) (a:Int).toNat).2.2.2 (U.zB (U.jc (U.jg q92_0 fun(O:ShD×ShD×Unit)=>(U.js O.1 O.2.1,())) (q92_2 d)) x))=nth (U.jc (U.jg q92_0 fun(P:ShD×ShD×Unit)=>(U.js P.1 P.2.1,())) (q92_2 d)) (a:Int).toNat)||decide ((nth (U.jc (U.jg q92_0 fun(Q:ShD×ShD×Unit)=>(U.js Q.1 Q.2.1,())) (q92_2 d)) (a:Int).toNat).2.2.1≠1))=true->jz ((a:Int)+1)/\∃(b:Nat),(((a:Int)+1=(b:Int)/\True)/\(U.kA (q92_1 d) (U.jc (U.jg q92_0 fun(R:ShD×ShD×Unit)=>(U.js R.1 R.2.1,())) (q92_2 d)) a).2=(U.kA (q92_1 d) (U.jc (U.jg q92_0 fun(S:ShD×ShD×Unit)=>(U.js S.1 S.2.1,())) (q92_2 d)) b).2/\(U.kA (q92_1 d) (U.jc (U.jg q92_0 fun(T:ShD×ShD×Unit)=>(U.js T.1 T.2.1,())) (q92_2 d)) a).1=(U.kA (q92_1 d) (U.jc (U.jg q92_0 fun(V:ShD×ShD×Unit)=>(U.js V.1 V.2.1,())) (q92_2 d)) b).1/\True)/\(b<=(U.jc (U.jg q92_0 fun(W:ShD×ShD×Unit)=>(U.js W.1 W.2.1,())) (q92_2 d)).length/\U.yi (q92_1 d) (U.jc (U.jg q92_0 fun(X:ShD×ShD×Unit)=>(U.js X.1 X.2.1,())) (q92_2 d)) b (U.kA (q92_1 d) (U.jc (U.jg q92_0 fun(Y:ShD×ShD×Unit)=>(U.js Y.1 Y.2.1,())) (q92_2 d)) b))/\(U.jc (U.jg q92_0 fun(Z:ShD×ShD×Unit)=>(U.js Z.1 Z.2.1,())) (q92_2 d)).length-b<(U.jc (U.jg q92_0 fun(z38:ShD×ShD×Unit)=>(U.js z38.1 z38.2.1,())) (q92_2 d)).length-a)/\((!decide (kJ q92_5 (zA q92_4 (nth (U.jc (U.jg q92_0 fun(z39:ShD×ShD×Unit)=>(U.js z39.1 z39.2.1,())) (q92_2 d)) (a:Int).toNat).2.2.2 (U.zB (U.jc (U.jg q92_0 fun(z40:ShD×ShD×Unit)=>(U.js z40.1 z40.2.1,())) (q92_2 d)) x))=nth (U.jc (U.jg q92_0 fun(z41:ShD×ShD×Unit)=>(U.js z41.1 z41.2.1,())) (q92_2 d)) (a:Int).toNat)||decide ((nth (U.jc (U.jg q92_0 fun(z42:ShD×ShD×Unit)=>(U.js z42.1 z42.2.1,())) (q92_2 d)) (a:Int).toNat).2.2.1≠1))=false->(0:Int)<=(nth (U.jc (U.jg q92_0 fun(z43:ShD×ShD×Unit)=>(U.js z43.1 z43.2.1,())) (q92_2 d)) (a:Int).toNat).2.2.2.2.1/\(nth (U.jc (U.jg q92_0 fun(z44:ShD×ShD×Unit)=>(U.js z44.1 z44.2.1,())) (q92_2 d)) (a:Int).toNat).2.2.2.2.1<(↑(U.kA (q92_1 d) (U.jc (U.jg q92_0 fun(z45:ShD×ShD×Unit)=>(U.js z45.1 z45.2.1,())) (q92_2 d)) a).1.length:Int)/\(0:Int)<=(nth (U.jc (U.jg q92_0 fun(z46:ShD×ShD×Unit)=>(U.js z46.1 z46.2.1,())) (q92_2 d)) (a:Int).toNat).2.2.2.2.1/\(nth (U.jc (U.jg q92_0 fun(z47:ShD×ShD×Unit)=>(U.js z47.1 z47.2.1,())) (q92_2 d)) (a:Int).toNat).2.2.2.2.1<(↑(U.kA (q92_1 d) (U.jc (U.jg q92_0 fun(z48:ShD×ShD×Unit)=>(U.js z48.1 z48.2.1,())) (q92_2 d)) a).1.length:Int)/\(0:Int)<=(nth (U.jc (U.jg q92_0 fun(z49:ShD×ShD×Unit)=>(U.js z49.1 z49.2.1,())) (q92_2 d)) (a:Int).toNat).2.2.2.2.1/\(nth (U.jc (U.jg q92_0 fun(z50:ShD×ShD×Unit)=>(U.js z50.1 z50.2.1,())) (q92_2 d)) (a:Int).toNat).2.2.2.2.1<(↑(U.kA (q92_1 d) (U.jc (U.jg q92_0 fun(z51:ShD×ShD×Unit)=>(U.js z51.1 z51.2.1,())) (q92_2 d)) a).1.length:Int)/\(↑(nth (U.kA (q92_1 d) (U.jc (U.jg q92_0 fun(z52:ShD×ShD×Unit)=>(U.js z52.1 z52.2.1,())) (q92_2 d)) a).1 (nth (U.jc (U.jg q92_0 fun(z53:ShD×ShD×Unit)=>(U.js z53.1 z53.2.1,())) (q92_2 d)) (a:Int).toNat).2.2.2.2.1.toNat).length:Int)=(↑(nth (U.kA (q92_1 d) (U.jc (U.jg q92_0 fun(z54:ShD×ShD×Unit)=>(U.js z54.1 z54.2.1,())) (q92_2 d)) a).1 (nth (U.jc (U.jg q92_0 fun(z55:ShD×ShD×Unit)=>(U.js z55.1 z55.2.1,())) (q92_2 d)) (a:Int).toNat).2.2.2.2.1.toNat).length:Int)/\(↑(nth (U.kA (q92_1 d) (U.jc (U.jg q92_0 fun(z56:ShD×ShD×Unit)=>(U.js z56.1 z56.2.1,())) (q92_2 d)) a).1 (nth (U.jc (U.jg q92_0 fun(z57:ShD×ShD×Unit)=>(U.js z57.1 z57.2.1,())) (q92_2 d)) (a:Int).toNat).2.2.2.2.1.toNat).length:Int)=(↑(nth (U.kA (q92_1 d) (U.jc (U.jg q92_0 fun(z58:ShD×ShD×Unit)=>(U.js z58.1 z58.2.1,())) (q92_2 d)) a).1 (nth (U.jc (U.jg q92_0 fun(z59:ShD×ShD×Unit)=>(U.js z59.1 z59.2.1,())) (q92_2 d)) (a:Int).toNat).2.2.2.2.1.toNat).length:Int)/\((nth (U.kA (q92_1 d) (U.jc (U.jg q92_0 fun(z60:ShD×ShD×Unit)=>(U.js z60.1 z60.2.1,())) (q92_2 d)) a).1 (nth (U.jc (U.jg q92_0 fun(z61:ShD×ShD×Unit)=>(U.js z61.1 z61.2.1,())) (q92_2 d)) (a:Int).toNat).2.2.2.2.1.toNat).length+[(nth (U.jc (U.jg q92_0 fun(z62:ShD×ShD×Unit)=>(U.js z62.1 z62.2.1,())) (q92_2 d)) (a:Int).toNat).2.2.2.1].length)*8<=140737488355328/\(some ((q92_3 d),d.1.2.2.2.2.2.2.2.2.1,(U.kA (q92_1 d) (U.jc (U.jg q92_0 fun(z63:ShD×ShD×Unit)=>(U.js z63.1 z63.2.1,())) (q92_2 d)) a).1,(U.kA (q92_1 d) (U.jc (U.jg q92_0 fun(z64:ShD×ShD×Unit)=>(U.js z64.1 z64.2.1,())) (q92_2 d)) a).2,())).isSome=true/\U.jpk (U.ro (some ((q92_3 d),d.1.2.2.2.2.2.2.2.2.1,(U.kA (q92_1 d) (U.jc (U.jg q92_0 fun(z65:ShD×ShD×Unit)=>(U.js z65.1 z65.2.1,())) (q92_2 d)) a).1,(U.kA (q92_1 d) (U.jc (U.jg q92_0 fun(z66:ShD×ShD×Unit)=>(U.js z66.1 z66.2.1,())) (q92_2 d)) a).2,())))/\U.jnU (U.rd (U.ro (some ((q92_3 d),d.1.2.2.2.2.2.2.2.2.1,(U.kA (q92_1 d) (U.jc (U.jg q92_0 fun(z67:ShD×ShD×Unit)=>(U.js z67.1 z67.2.1,())) (q92_2 d)) a).1,(U.kA (q92_1 d) (U.jc (U.jg q92_0 fun(z68:ShD×ShD×Unit)=>(U.js z68.1 z68.2.1,())) (q92_2 d)) a).2,())))) (nth (U.jc (U.jg q92_0 fun(z69:ShD×ShD×Unit)=>(U.js z69.1 z69.2.1,())) (q92_2 d)) (a:Int).toNat).2.2.2.2.1/\U.jhI (U.rd (U.ro (some ((q92_3 d),d.1.2.2.2.2.2.2.2.2.1,(U.kA (q92_1 d) (U.jc (U.jg q92_0 fun(z70:ShD×ShD×Unit)=>(U.js z70.1 z70.2.1,())) (q92_2 d)) a).1,(U.kA (q92_1 d) (U.jc (U.jg q92_0 fun(z71:ShD×ShD×Unit)=>(U.js z71.1 z71.2.1,())) (q92_2 d)) a).2,())))) (nth (U.kA (q92_1 d) (U.jc (U.jg q92_0 fun(z72:ShD×ShD×Unit)=>(U.js z72.1 z72.2.1,())) (q92_2 d)) a).1 (nth (U.jc (U.jg q92_0 fun(z73:ShD×ShD×Unit)=>(U.js z73.1 z73.2.1,())) (q92_2 d)) (a:Int).toNat).2.2.2.2.1.toNat++[(nth (U.jc (U.jg q92_0 fun(z74:ShD×ShD×Unit)=>(U.js z74.1 z74.2.1,())) (q92_2 d)) (a:Int).toNat).2.2.2.1])/\(U.gL (U.ro (some ((q92_3 d),d.1.2.2.2.2.2.2.2.2.1,(U.kA (q92_1 d) (U.jc (U.jg q92_0 fun(z75:ShD×ShD×Unit)=>(U.js z75.1 z75.2.1,())) (q92_2 d)) a).1,(U.kA (q92_1 d) (U.jc (U.jg q92_0 fun(z76:ShD×ShD×Unit)=>(U.js z76.1 z76.2.1,())) (q92_2 d)) a).2,()))) (nth (U.jc (U.jg q92_0 fun(z77:ShD×ShD×Unit)=>(U.js z77.1 z77.2.1,())) (q92_2 d)) (a:Int).toNat).2.2.2.2.1 (nth (U.kA (q92_1 d) (U.jc (U.jg q92_0 fun(z78:ShD×ShD×Unit)=>(U.js z78.1 z78.2.1,())) (q92_2 d)) a).1 (nth (U.jc (U.jg q92_0 fun(z79:ShD×ShD×Unit)=>(U.js z79.1 z79.2.1,())) (q92_2 d)) (a:Int).toNat).2.2.2.2.1.toNat++[(nth (U.jc (U.jg q92_0 fun(z80:ShD×ShD×Unit)=>(U.js z80.1 z80.2.1,())) (q92_2 d)) (a:Int).toNat).2.2.2.1])=true->(0:Int)<=(nth (U.jc (U.jg q92_0 fun(z81:ShD×ShD×Unit)=>(U.js z81.1 z81.2.1,())) (q92_2 d)) (a:Int).toNat).2.2.2.2.1/\(nth (U.jc (U.jg q92_0 fun(z82:ShD×ShD×Unit)=>(U.js z82.1 z82.2.1,())) (q92_2 d)) (a:Int).toNat).2.2.2.2.1<(↑(U.kA (q92_1 d) (U.jc (U.jg q92_0 fun(z83:ShD×ShD×Unit)=>(U.js z83.1 z83.2.1,())) (q92_2 d)) a).1.length:Int)/\jz ((a:Int)+1)/\∃(b:Nat),(((a:Int)+1=(b:Int)/\True)/\(U.kA (q92_1 d) (U.jc (U.jg q92_0 fun(z84:ShD×ShD×Unit)=>(U.js z84.1 z84.2.1,())) (q92_2 d)) a).2=(U.kA (q92_1 d) (U.jc (U.jg q92_0 fun(z85:ShD×ShD×Unit)=>(U.js z85.1 z85.2.1,())) (q92_2 d)) b).2/\(U.kA (q92_1 d) (U.jc (U.jg q92_0 fun(z86:ShD×ShD×Unit)=>(U.js z86.1 z86.2.1,())) (q92_2 d)) a).1.set (nth (U.jc (U.jg q92_0 fun(z87:ShD×ShD×Unit)=>(U.js z87.1 z87.2.1,())) (q92_2 d)) (a:Int).toNat).2.2.2.2.1.toNat (nth (U.kA (q92_1 d) (U.jc (U.jg q92_0 fun(z88:ShD×ShD×Unit)=>(U.js z88.1 z88.2.1,())) (q92_2 d)) a).1 (nth (U.jc (U.jg q92_0 fun(z89:ShD×ShD×Unit)=>(U.js z89.1 z89.2.1,())) (q92_2 d)) (a:Int).toNat).2.2.2.2.1.toNat++[(nth (U.jc (U.jg q92_0 fun(z90:ShD×ShD×Unit)=>(U.js z90.1 z90.2.1,())) (q92_2 d)) (a:Int).toNat).2.2.2.1])=(U.kA (q92_1 d) (U.jc (U.jg q92_0 fun(z91:ShD×ShD×Unit)=>(U.js z91.1 z91.2.1,())) (q92_2 d)) b).1/\True)/\(b<=(U.jc (U.jg q92_0 fun(z92:ShD×ShD×Unit)=>(U.js z92.1 z92.2.1,())) (q92_2 d)).length/\U.yi (q92_1 d) (U.jc (U.jg q92_0 fun(z93:ShD×ShD×Unit)=>(U.js z93.1 z93.2.1,())) (q92_2 d)) b (U.kA (q92_1 d) (U.jc (U.jg q92_0 fun(z94:ShD×ShD×Unit)=>(U.js z94.1 z94.2.1,())) (q92_2 d)) b))/\(U.jc (U.jg q92_0 fun(z95:ShD×ShD×Unit)=>(U.js z95.1 z95.2.1,())) (q92_2 d)).length-b<(U.jc (U.jg q92_0 fun(z96:ShD×ShD×Unit)=>(U.js z96.1 z96.2.1,())) (q92_2 d)).length-a)/\(U.gL (U.ro (some ((q92_3 d),d.1.2.2.2.2.2.2.2.2.1,(U.kA (q92_1 d) (U.jc (U.jg q92_0 fun(z97:ShD×ShD×Unit)=>(U.js z97.1 z97.2.1,())) (q92_2 d)) a).1,(U.kA (q92_1 d) (U.jc (U.jg q92_0 fun(z98:ShD×ShD×Unit)=>(U.js z98.1 z98.2.1,())) (q92_2 d)) a).2,()))) (nth (U.jc (U.jg q92_0 fun(z99:ShD×ShD×Unit)=>(U.js z99.1 z99.2.1,())) (q92_2 d)) (a:Int).toNat).2.2.2.2.1 (nth (U.kA (q92_1 d) (U.jc (U.jg q92_0 fun(c:ShD×ShD×Unit)=>(U.js c.1 c.2.1,())) (q92_2 d)) a).1 (nth (U.jc (U.jg q92_0 fun(e:ShD×ShD×Unit)=>(U.js e.1 e.2.1,())) (q92_2 d)) (a:Int).toNat).2.2.2.2.1.toNat++[(nth (U.jc (U.jg q92_0 fun(f:ShD×ShD×Unit)=>(U.js f.1 f.2.1,())) (q92_2 d)) (a:Int).toNat).2.2.2.1])=false->((U.kA (q92_1 d) (U.jc (U.jg q92_0 fun(g:ShD×ShD×Unit)=>(U.js g.1 g.2.1,())) (q92_2 d)) a).2.length+[(nth (U.jc (U.jg q92_0 fun(h:ShD×ShD×Unit)=>(U.js h.1 h.2.1,())) (q92_2 d)) (a:Int).toNat).1].length)*8<=140737488355328/\jz ((a:Int)+1)/\∃(b:Nat),(((a:Int)+1=(b:Int)/\True)/\(U.kA (q92_1 d) (U.jc (U.jg q92_0 fun(i:ShD×ShD×Unit)=>(U.js i.1 i.2.1,())) (q92_2 d)) a).1=(U.kA (q92_1 d) (U.jc (U.jg q92_0 fun(j:ShD×ShD×Unit)=>(U.js j.1 j.2.1,())) (q92_2 d)) b).1/\(d.1.1=d.1.1/\d.1.2.1=d.1.2.1/\d.1.2.2.1=d.1.2.2.1/\d.1.2.2.2.1=d.1.2.2.2.1/\d.1.2.2.2.2.1=d.1.2.2.2.2.1/\d.1.2.2.2.2.2.1=d.1.2.2.2.2.2.1/\d.1.2.2.2.2.2.2.1=d.1.2.2.2.2.2.2.1/\d.1.2.2.2.2.2.2.2.1=d.1.2.2.2.2.2.2.2.1/\True/\True/\True/\True)/\(U.kA (q92_1 d) (U.jc (U.jg q92_0 fun(k:ShD×ShD×Unit)=>(U.js k.1 k.2.1,())) (q92_2 d)) a).2++[(nth (U.jc (U.jg q92_0 fun(l:ShD×ShD×Unit)=>(U.js l.1 l.2.1,())) (q92_2 d)) (a:Int).toNat).1]=(U.kA (q92_1 d) (U.jc (U.jg q92_0 fun(m:ShD×ShD×Unit)=>(U.js m.1 m.2.1,())) (q92_2 d)) b).2/\True)/\(b<=(U.jc (U.jg q92_0 fun(n:ShD×ShD×Unit)=>(U.js n.1 n.2.1,())) (q92_2 d)).length/\U.yi (q92_1 d) (U.jc (U.jg q92_0 fun(o:ShD×ShD×Unit)=>(U.js o.1 o.2.1,())) (q92_2 d)) b (U.kA (q92_1 d) (U.jc (U.jg q92_0 fun(p:ShD×ShD×Unit)=>(U.js p.1 p.2.1,())) (q92_2 d)) b))/\(U.jc (U.jg q92_0 fun(q:ShD×ShD×Unit)=>(U.js q.1 q.2.1,())) (q92_2 d)).length-b<(U.jc (U.jg q92_0 fun(r:ShD×ShD×Unit)=>(U.js r.1 r.2.1,())) (q92_2 d)).length-a)))/\(decide ((a:Int)<(↑(U.jc (U.jg q92_0 fun(s:ShD×ShD×Unit)=>(U.js s.1 s.2.1,())) (q92_2 d)).length:Int))=false->()=()/\((d.1.1,d.1.2.1,d.1.2.2.1,d.1.2.2.2.1,d.1.2.2.2.2.1,d.1.2.2.2.2.2.1,d.1.2.2.2.2.2.2.1,d.1.2.2.2.2.2.2.2.1,d.1.2.2.2.2.2.2.2.2.1,(U.kA (q92_1 d) (U.jc (U.jg q92_0 fun(t:ShD×ShD×Unit)=>(U.js t.1 t.2.1,())) (q92_2 d)) a).1,U.jeL (U.kA (q92_1 d) (U.jc (U.jg q92_0 fun(u:ShD×ShD×Unit)=>(U.js u.1 u.2.1,())) (q92_2 d)) a).2,()),())=(U.jhR d.1 (U.qY (U.kF d.1)),()))))
end Go.X
