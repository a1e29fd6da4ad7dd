/-
  Part 5 of the road: a checked reading of bodies, and what the functions on it do (T L BT BS NL DF RC FX A1 P1 A2 P2 A4 P4 A5 P5 A3 P6 CM MP O1 B1 P7 IS B2 P8 B3).
-/
import Derived.Test.YtnkahkkofmoipaaGreatDoorK04
import Derived.Test.YtnkahkkofmoipaaGreatDoorProg
import Derived.KernelRfl
import Derived.Shelf.SlSortCmp.WholeK
import Derived.Shelf.Sort.Plain
namespace Go.X
open Go.Proofs
abbrev bT:=true
abbrev bF:=false
abbrev vO:Value:=.int .i64 0
abbrev qy0:Ty:=.st [.int,.int]
abbrev qy1:Ty:=.ptr (.uint .u8)
abbrev qy2:Ty:=.ptr (.uint .u64)
abbrev qy3:Ty:=.slice (.slice .int)
abbrev qy4:Ty:=.st [.int,.int,.bool]
abbrev qy5:Ty:=.slice qy0
abbrev qy6:Ty:=.slice qy4
abbrev qy7:Ty:=.st [.int,.int,.bool,.uint .u8]
abbrev qy8:Ty:=.slice qy5
abbrev qy9:Ty:=.st [.int,.int,.int,.int,.int]
abbrev qy10:Ty:=.st [.int,.int,.int,.int,.int,.int]
abbrev qy11:Ty:=.slice qy9
abbrev qy12:Ty:=.slice qy10
abbrev qy13:Ty:=.slice qy11
abbrev qy14:Ty:=.st [.slice .int,.int,.int,.slice .int,.bool,.int]
abbrev qy15:Ty:=.map qy0 qy9
abbrev qy16:Ty:=.st [qy10,.int,.int,.int]
abbrev qy17:Ty:=.slice qy14
abbrev qy18:Ty:=.slice qy16
abbrev qy19:Ty:=.st [.int,qy17,qy6]
abbrev qy20:Ty:=.st [qy19,qy10,qy4]
abbrev qy21:Ty:=.ptr qy20
abbrev qy22:Ty:=.st [qy19,qy8,qy18,.int,.int,qy11]
abbrev qy23:Ty:=.slice qy22
abbrev qy24:Ty:=.st [qy22,.slice .int,qy3,.slice .int]
abbrev qy25:Ty:=.ptr qy24
abbrev qy26:Ty:=.st [qy25,qy3,.slice .int,.slice .int,.int,.bool]
abbrev qy27:Ty:=.ptr qy26
def rr (i:Nat)(t:Ty)(n:Nat)(a:Bool)(f:List (Nat×Nat))(s:Bool)(e b:Nat)(z:List Value)(c m:Bool)(k:Nat)(q:Bool):TI:=⟨i,t,n,a,f,s,e,b,z,c,m,k,q,false,false,false⟩
def rf (i:Nat):TI:=⟨i,.unit,1,false,[],false,0,8,[.nilFunc],false,false,0,false,false,false,true⟩
def rq (i:Nat):TI:=⟨i,.unit,1,false,[],false,0,8,[.pointer none],false,false,0,false,false,true,false⟩
def ti:List TI:=[
 rf 1,
 rr 2 .int 1 bF [] bF 0 8 [vO] bF bF 0 bT,
 rr 3 .int 1 bF [] bF 0 8 [vO] bF bF 0 bT,
 rr 4 .bool 1 bF [] bF 0 1 [.bool false] bT bF 0 bF,
 rr 5 (.uint .u8) 1 bF [] bF 0 1 [.int .u8 0] bF bF 0 bF,
 rr 6 (.uint .u8) 1 bF [] bF 0 1 [.int .u8 0] bF bF 0 bF,
 rr 7 qy7 4 bT [(0,2),(1,3),(2,4),(3,6)] bF 0 24 [vO,vO,.bool false,.int .u8 0] bT bF 0 bT,
 rr 8 qy7 4 bT [(0,2),(1,3),(2,4),(3,6)] bF 0 24 [vO,vO,.bool false,.int .u8 0] bT bF 0 bT,
 rr 12 (.uint .u64) 1 bF [] bF 0 8 [.int .u64 0] bF bF 0 bF,
 rq 15,
 rq 16,
 rq 17,
 rr 18 .unit 1 bT [(0,17)] bF 0 8 [.pointer none] bF bF 0 bF,
 rr 19 .unit 1 bT [(0,17)] bF 0 8 [.pointer none] bF bF 0 bF,
 rr 21 (.uint .i32) 1 bF [] bF 0 4 [.int .i32 0] bF bF 0 bF,
 rr 22 qy17 1 bF [] bT 102 24 [.slice none 0 0] bF bF 0 bF,
 rr 23 qy6 1 bF [] bT 104 24 [.slice none 0 0] bF bF 0 bF,
 rr 24 qy19 3 bT [(0,3),(1,22),(2,23)] bF 0 56 [vO,.slice none 0 0,.slice none 0 0] bF bF 0 bF,
 rr 25 qy19 3 bT [(0,3),(1,22),(2,23)] bF 0 56 [vO,.slice none 0 0,.slice none 0 0] bF bF 0 bF,
 rr 26 qy8 1 bF [] bT 75 24 [.slice none 0 0] bF bF 0 bF,
 rr 27 qy18 1 bF [] bT 62 24 [.slice none 0 0] bF bF 0 bF,
 rr 28 qy11 1 bF [] bT 54 24 [.slice none 0 0] bF bF 0 bF,
 rr 29 qy22 8 bT [(0,25),(3,26),(4,27),(5,3),(6,3),(7,28)] bF 0 144 [vO,.slice none 0 0,.slice none 0 0,.slice none 0 0,.slice none 0 0,vO,vO,.slice none 0 0] bF bF 0 bF,
 rr 30 qy22 8 bT [(0,25),(3,26),(4,27),(5,3),(6,3),(7,28)] bF 0 144 [vO,.slice none 0 0,.slice none 0 0,.slice none 0 0,.slice none 0 0,vO,vO,.slice none 0 0] bF bF 0 bF,
 rf 31,
 rf 32,
 rr 33 (.slice .int) 1 bF [] bT 3 24 [.slice none 0 0] bF bF 0 bF,
 rr 34 .int 1 bF [] bF 0 8 [vO] bF bF 0 bT,
 rf 36,
 rf 37,
 rf 38,
 rf 39,
 rf 41,
 rr 42 qy0 2 bT [(0,3),(1,3)] bF 0 16 [vO,vO] bT bF 0 bT,
 rr 43 qy0 2 bT [(0,3),(1,3)] bF 0 16 [vO,vO] bT bF 0 bT,
 rf 44,
 rf 45,
 rf 47,
 rf 48,
 rf 50,
 rf 51,
 rf 52,
 rr 53 qy9 5 bT [(0,3),(1,3),(2,3),(3,3),(4,3)] bF 0 40 [vO,vO,vO,vO,vO] bT bF 0 bT,
 rr 54 qy9 5 bT [(0,3),(1,3),(2,3),(3,3),(4,3)] bF 0 40 [vO,vO,vO,vO,vO] bT bF 0 bT,
 rf 55,
 rf 56,
 rf 57,
 rf 58,
 rr 59 qy10 6 bT [(0,3),(1,3),(2,3),(3,3),(4,3),(5,3)] bF 0 48 [vO,vO,vO,vO,vO,vO] bT bF 0 bT,
 rr 60 qy10 6 bT [(0,3),(1,3),(2,3),(3,3),(4,3),(5,3)] bF 0 48 [vO,vO,vO,vO,vO,vO] bT bF 0 bT,
 rr 61 qy16 9 bT [(0,60),(6,3),(7,3),(8,3)] bF 0 72 [vO,vO,vO,vO,vO,vO,vO,vO,vO] bT bF 0 bT,
 rr 62 qy16 9 bT [(0,60),(6,3),(7,3),(8,3)] bF 0 72 [vO,vO,vO,vO,vO,vO,vO,vO,vO] bT bF 0 bT,
 rf 63,
 {rr 64 qy25 1 bF [] bF 0 8 [.pointer none] bF bF 0 bF with pt:=true},
 rf 66,
 {rr 67 qy27 1 bF [] bF 0 8 [.pointer none] bF bF 0 bF with pt:=true},
 rr 68 qy3 1 bF [] bT 33 24 [.slice none 0 0] bF bF 0 bF,
 rr 69 qy26 6 bT [(0,64),(1,68),(2,33),(3,33),(4,3),(5,4)] bF 0 96 [.pointer none,.slice none 0 0,.slice none 0 0,.slice none 0 0,vO,.bool false] bF bF 0 bF,
 rr 70 qy26 6 bT [(0,64),(1,68),(2,33),(3,33),(4,3),(5,4)] bF 0 96 [.pointer none,.slice none 0 0,.slice none 0 0,.slice none 0 0,vO,.bool false] bF bF 0 bF,
 rr 71 qy24 11 bT [(0,30),(8,33),(9,68),(10,33)] bF 0 216 [vO,.slice none 0 0,.slice none 0 0,.slice none 0 0,.slice none 0 0,vO,vO,.slice none 0 0,.slice none 0 0,.slice none 0 0,.slice none 0 0] bF bF 0 bF,
 rr 72 qy24 11 bT [(0,30),(8,33),(9,68),(10,33)] bF 0 216 [vO,.slice none 0 0,.slice none 0 0,.slice none 0 0,.slice none 0 0,vO,vO,.slice none 0 0,.slice none 0 0,.slice none 0 0,.slice none 0 0] bF bF 0 bF,
 rf 73,
 rf 74,
 rr 75 qy5 1 bF [] bT 92 24 [.slice none 0 0] bF bF 0 bF,
 rf 76,
 rf 77,
 rf 78,
 rf 79,
 rf 80,
 rf 81,
 rf 82,
 rf 84,
 rf 85,
 rf 86,
 rf 87,
 rf 88,
 rf 89,
 rf 90,
 rr 91 qy0 2 bT [(0,3),(1,3)] bF 0 16 [vO,vO] bT bF 0 bT,
 rr 92 qy0 2 bT [(0,3),(1,3)] bF 0 16 [vO,vO] bT bF 0 bT,
 rf 93,
 rf 94,
 rr 95 (.uint .u64) 1 bF [] bF 0 8 [.int .u64 0] bF bF 0 bF,
 rf 96,
 rr 97 qy23 1 bF [] bT 30 24 [.slice none 0 0] bF bF 0 bF,
 rf 98,
 rf 99,
 rf 100,
 rr 101 qy14 6 bT [(0,33),(1,3),(2,3),(3,33),(4,4),(5,3)] bF 0 80 [.slice none 0 0,vO,vO,.slice none 0 0,.bool false,vO] bF bF 0 bF,
 rr 102 qy14 6 bT [(0,33),(1,3),(2,3),(3,33),(4,4),(5,3)] bF 0 80 [.slice none 0 0,vO,vO,.slice none 0 0,.bool false,vO] bF bF 0 bF,
 rr 103 qy4 3 bT [(0,3),(1,3),(2,4)] bF 0 24 [vO,vO,.bool false] bT bF 0 bT,
 rr 104 qy4 3 bT [(0,3),(1,3),(2,4)] bF 0 24 [vO,vO,.bool false] bT bF 0 bT,
 rf 105,
 rf 106,
 rr 107 qy12 1 bF [] bT 60 24 [.slice none 0 0] bF bF 0 bF,
 rf 109,
 rf 110,
 rf 111,
 rf 113,
 rf 114,
 rf 115,
 rf 116,
 rf 117,
 rf 118,
 rf 119,
 rf 120,
 rf 121,
 rf 122,
 rf 123,
 rf 124,
 rr 125 (.map .int .int) 1 bF [] bF 3 8 [.map none] bF bT 3 bF,
 rf 126,
 rf 127,
 rf 128,
 rf 129,
 rf 130,
 rf 131,
 rf 132,
 rf 133,
 rf 134,
 rf 135,
 rf 136,
 rr 137 qy13 1 bF [] bT 28 24 [.slice none 0 0] bF bF 0 bF,
 rf 138,
 rf 139,
 rf 140,
 rf 141,
 rf 142,
 {rr 143 qy21 1 bF [] bF 0 8 [.pointer none] bF bF 0 bF with pt:=true},
 rf 145,
 rr 146 (.uint .u64) 1 bF [] bF 0 8 [.int .u64 0] bF bF 0 bF,
 rf 147,
 rr 148 qy15 1 bF [] bF 54 8 [.map none] bF bT 150 bF,
 rr 149 qy0 2 bT [(0,3),(1,3)] bF 0 16 [vO,vO] bT bF 0 bT,
 rr 150 qy0 2 bT [(0,3),(1,3)] bF 0 16 [vO,vO] bT bF 0 bT,
 rf 151,
 rf 152,
 rf 153,
 rf 154,
 rf 155,
 rf 156,
 rf 157,
 rf 158,
 rf 159,
 rf 160,
 rf 161,
 rf 162,
 rf 163,
 rf 164,
 rf 165,
 rf 166,
 rr 167 qy20 12 bT [(0,25),(3,60),(9,104)] bF 0 128 [vO,.slice none 0 0,.slice none 0 0,vO,vO,vO,vO,vO,vO,vO,vO,.bool false] bF bF 0 bF,
 rr 168 qy20 12 bT [(0,25),(3,60),(9,104)] bF 0 128 [vO,.slice none 0 0,.slice none 0 0,vO,vO,vO,vO,vO,vO,vO,vO,.bool false] bF bF 0 bF,
 rf 169,
 rf 170,
 rf 171,
 rf 172,
 rf 173,
 rf 174,
 rf 175,
 rf 176,
 rf 177,
 rf 178,
 rf 179,
 rr 180 .int 1 bF [] bF 0 8 [vO] bF bF 0 bT,
 rf 182,
 rf 183,
 rf 184,
 rf 186,
 rf 187,
 rr 188 (.uint .u32) 1 bF [] bF 0 4 [.int .u32 0] bF bF 0 bF,
 rf 189,
 rr 190 (.uint .u64) 1 bF [] bF 0 8 [.int .u64 0] bF bF 0 bF,
 rf 191,
 rf 192,
 rf 193,
 rf 194,
 rf 195,
 rf 196,
 rf 197,
 rf 198,
 rf 199,
 rf 200,
 rf 201,
 rf 202,
 rr 203 (.uint .u64) 1 bF [] bF 0 8 [.int .u64 0] bF bF 0 bF,
 rf 204,
 rf 205,
 rf 206,
 {rr 207 (.ptr .int) 1 bF [] bF 0 8 [.pointer none] bF bF 0 bF with pt:=true},
 rf 208,
 rf 209,
 rf 210,
 rf 211,
 rf 212,
 rf 213,
 rf 214,
 rf 215,
 rf 217,
 {rr 218 qy2 1 bF [] bF 0 8 [.pointer none] bF bF 0 bF with pt:=true},
 rf 220,
 rf 221,
 rf 222,
 rf 223,
 rf 225,
 rf 227,
 rf 228,
 rf 229,
 rr 233 .unit 0 bT [(0,232)] bF 0 0 [] bF bF 0 bF,
 rr 234 .unit 0 bT [(0,232)] bF 0 0 [] bF bF 0 bF,
 rr 235 (.uint .u8) 1 bF [] bF 0 1 [.int .u8 0] bF bF 0 bF,
 rr 236 (.uint .u8) 1 bF [] bF 0 1 [.int .u8 0] bF bF 0 bF,
 rf 237,
 {rr 238 qy1 1 bF [] bF 0 8 [.pointer none] bF bF 0 bF with pt:=true},
 rr 239 (.uint .i32) 1 bF [] bF 0 4 [.int .i32 0] bF bF 0 bF,
 rr 240 (.uint .i32) 1 bF [] bF 0 4 [.int .i32 0] bF bF 0 bF,
 rr 241 .unit 11 bT [(0,12),(1,12),(2,188),(3,235),(4,5),(5,5),(6,236),(7,237),(8,238),(9,239),(10,240)] bF 0 48 [.int .u64 0,.int .u64 0,.int .u32 0,.int .u8 0,.int .u8 0,.int .u8 0,.int .u8 0,.nilFunc,.pointer none,.int .i32 0,.int .i32 0] bF bF 0 bF,
 rr 242 .unit 11 bT [(0,12),(1,12),(2,188),(3,235),(4,5),(5,5),(6,236),(7,237),(8,238),(9,239),(10,240)] bF 0 48 [.int .u64 0,.int .u64 0,.int .u32 0,.int .u8 0,.int .u8 0,.int .u8 0,.int .u8 0,.nilFunc,.pointer none,.int .i32 0,.int .i32 0] bF bF 0 bF,
 rf 243,
 rf 245]
def strs:List Nat:=[9,10,11]
noncomputable abbrev PR:Program:=Tryz.prog
theorem jDF:ti.all (jF1 PR)=true:=by kernel_rfl
def jEg (P:Program) (k:Nat):Bool:=match P.underlying k with|some .string=>true|_=>false
theorem jz1 {P:Program} {l:List Nat} (h0:l.all (jEg P)=true) (T:Nat) (h:jaH l T=true):P.underlying T=some .string:=by
  have:=jHo.1 h0 T ((kA _ _).1 h);unfold jEg at this
  split at this
  · assumption
  · cases this
theorem jDI:strs.all (jEg PR)=true:=by kernel_rfl
theorem jyC:∀T,jaH strs T=true→PR.underlying T=some .string:=jz1 jDI
theorem mixed:PR.follows .mixedOrders=true:=by kernel_rfl
def jGp (n:Nat) (fs:List (Nat×jW)):Ctx:=⟨n,ti,fs,fun _ _ _ _=>none,strs,false⟩
def ctx (n:Nat) (fs:List (Nat×jW)) (os:List (Nat×kx)):Ctx:=⟨n,ti,fs,jGj (jGp n fs) os,strs,false⟩
def jtn:List (Nat×jW)→Prop
  |[]=>True
  |p::r=>(p.2.own=false→ze PR p.1 p.2)∧jtn r
def jnu:List (Nat×kx)→Prop
  |[]=>True
  |p::r=>yf PR p.1 p.2∧jnu r
theorem jez:∀{l:List (Nat×jW)},jtn l→∀f s,jF l f=some s→s.own=false→ze PR f s
  |[],_,f,s,h,_=>by simp[jF] at h
  | (j,x)::r,hk,f,s,h,ho=>by
    simp only[jF] at h
    cases hb:Nat.beq j f with
    |true=>rw[hb] at h;simp at h;subst h;have:=jGP hb;subst this;exact hk.1 ho
    |false=>rw[hb] at h;exact jez hk.2 f s h ho
theorem jgn:∀{l:List (Nat×kx)},jnu l→∀f s,jF l f=some s→yf PR f s
  |[],_,f,s,h=>by simp[jF] at h
  | (j,x)::r,hk,f,s,h=>by
    simp only[jF] at h
    cases hb:Nat.beq j f with
    |true=>rw[hb] at h;simp at h;subst h;have:=jGP hb;subst this;exact hk.1
    |false=>rw[hb] at h;exact jgn hk.2 f s h
theorem jAN {n:Nat} {fs:List (Nat×jW)} (h:jtn fs):(jGp n fs).ok PR:=
  ⟨jyt jDF,jez h,jyC,rfl,fun _ _ _ _ _ he=>by cases he⟩
theorem jna {n:Nat} {fs:List (Nat×jW)} {os:List (Nat×kx)} (h:jtn fs) (ho:jnu os):(ctx n fs os).ok PR:=
  ⟨jyt jDF,jez h,jyC,rfl,fun f dst σ svs out he=>jxa (jAN h) (jgn ho) he⟩
def gd (t:Ty) (σ:St) (s:Nat):t.Data:=match σ.get s with
  | .dat t' d=>(match zg t' t d with|some x=>x|none=>t.dflt)
  |_=>t.dflt
def gr (t:Ty) (σ:St) (o:Nat):List t.Data:=match σ.obj o with
  |some (.row _ t' _ _ l)=>(match zg (.slice t') (.slice t) l with|some l'=>l'|none=>[])
  |_=>[]
def gfn (ps rs:List Ty) (σ:St) (s:Nat):(Ty.st ps).Data→(Ty.st rs).Data:=match σ.get s with
  | .fn ps' rs' _ F=>if h:ps'=ps∧rs'=rs then h.1▸h.2▸F else fun _=>(Ty.st rs).dflt
  |_=>fun _=>(Ty.st rs).dflt
def jd (fn:Func):Code:=match fn.body with|some c=>c|none=> .skip
theorem zv {f:Nat} {fn:Func} {n:Nat} {fs:List (Nat×jW)} {os:List (Nat×kx)} {s:jW} {A:Ann} (h:zq (ctx n fs os) A fn (jd fn) s) (hf:PR.funcs[f]? =some fn) (hb:fn.body=some (jd fn)) (hname:(fn.name== "runtime.NumGoroutine")=false)
    (hn:fn.ntmps=n) (hps:Nat.ble s.ps.length n=true) (hk:jtn fs) (ho:jnu os):ze PR f s:=
  jGn (jna hk ho) mixed hf hb hname hn (jG6 hps) A h
theorem jgj {f:Nat} {fn:Func} {n:Nat} {fs:List (Nat×jW)} {os:List (Nat×kx)} {s:kx} {A:Ann} (h:jcR (ctx n fs os) A fn (jd fn) s) (hf:PR.funcs[f]? =some fn) (hb:fn.body=some (jd fn)) (hname:(fn.name== "runtime.NumGoroutine")=false)
    (hn:fn.ntmps=n) (hps:Nat.ble s.ps.length n=true) (hnm:vf (jw9 s.ps 0)=true) (hk:jtn fs) (ho:jnu os):yf PR f s:=
  jFp (jna hk ho) mixed hf hb hname hn (jG6 hps) hnm A h
def jtx (n:Nat) (fs:List (Nat×jW)) (os:List (Nat×kx)) (cs:List (Nat×jgQ)) (vs:List (Nat×jq6)):Ctx:=⟨n,ti,fs,jGd (jGp n fs) os cs vs,strs,false⟩
def jBg:List (Nat×jgQ)→Prop
  |[]=>True
  |p::r=>jtp PR p.1 p.2∧jBg r
def jBf:List (Nat×jq6)→Prop
  |[]=>True
  |p::r=>VOK PR p.1 p.2∧jBf r
theorem jmC:∀{l:List (Nat×jgQ)},jBg l→∀f s,jF l f=some s→jtp PR f s
  |[],_,f,s,h=>by simp[jF] at h
  | (j,x)::r,hk,f,s,h=>by
    simp only[jF] at h
    cases hb:Nat.beq j f with
    |true=>rw[hb] at h;simp at h;subst h;have:=jGP hb;subst this;exact hk.1
    |false=>rw[hb] at h;exact jmC hk.2 f s h
theorem jmB:∀{l:List (Nat×jq6)},jBf l→∀f s,jF l f=some s→VOK PR f s
  |[],_,f,s,h=>by simp[jF] at h
  | (j,x)::r,hk,f,s,h=>by
    simp only[jF] at h
    cases hb:Nat.beq j f with
    |true=>rw[hb] at h;simp at h;subst h;have:=jGP hb;subst this;exact hk.1
    |false=>rw[hb] at h;exact jmB hk.2 f s h
theorem ju8 {n:Nat} {fs:List (Nat×jW)} {os:List (Nat×kx)} {cs:List (Nat×jgQ)} {vs:List (Nat×jq6)} (h:jtn fs) (ho:jnu os) (hc:jBg cs) (hv:jBf vs):(jtx n fs os cs vs).ok PR:=
  ⟨jyt jDF,jez h,jyC,rfl,fun f dst σ svs out he=>jwE (jAN h) (jgn ho) (jmC hc) (jmB hv) he⟩
theorem jFr {f:Nat} {fn:Func} {n:Nat} {fs:List (Nat×jW)} {os:List (Nat×kx)} {s:jgQ} {A:Ann} (h:jAX (ctx n fs os) A fn (jd fn) s) (hf:PR.funcs[f]? =some fn) (hb:fn.body=some (jd fn)) (hname:(fn.name== "runtime.NumGoroutine")=false)
    (hn:fn.ntmps=n) (hps:Nat.ble s.ps.length n=true) (hk:jtn fs) (ho:jnu os):jtp PR f s:=
  jFP (jna hk ho) mixed hf hb hname hn (jG6 hps) A h
end Go.X
namespace Go.X
namespace L
theorem nth_lt {α:Type} [Inhabited α] {l:List α} {i:Nat} (h:i<l.length):nth l i=l[i]:=by
  unfold nth;simp[h]
theorem take_succ {α:Type} [Inhabited α] {l:List α} {i:Nat} (h:i<l.length):l.take (i+1)=l.take i++[nth l i]:=by
  rw[nth_lt h];exact List.take_succ_eq_append_getElem h
theorem mem_nth {α:Type} [Inhabited α] {l:List α} {i:Nat} (h:i<l.length):nth l i∈l:=by
  rw[nth_lt h];exact List.getElem_mem h
theorem mem_iff {α:Type} [Inhabited α] {l:List α} {x:α}:x∈l↔∃i,i<l.length∧nth l i=x:=by
  constructor
  · intro h;obtain⟨i,hi,e⟩:=List.getElem_of_mem h;exact⟨i,hi,by rw[nth_lt hi,e]⟩
  · rintro⟨i,hi,rfl⟩;exact mem_nth hi
theorem all_false {α:Type} [Inhabited α] {l:List α} {i:Nat} {p:α→Bool} (h:i<l.length) (h2:p (nth l i)=false):l.all p=false:=by
  rw[jH0];exact⟨nth l i,mem_nth h,by simp[h2]⟩
theorem in64 {x:Int} (h1: -9223372036854775808≤x) (h2:x≤9223372036854775807):jx x:=⟨h1,h2⟩
end L
end Go.X
namespace Go.X
namespace BT
theorem two_nat (k:Nat):(2:Int)^k=((2^k:Nat):Int):=by simp
theorem div_nat (n k:Nat):(n:Int)/2^k=((n/2^k:Nat):Int):=by simp
theorem pow63 {k:Nat} (h:k≤62):2^k<2^63:=Nat.pow_lt_pow_right (by decide) (by omega)
theorem ofInt_nat {n:Nat} (hn:n<2^63):(BitVec.ofInt 64 (n:Int)).toNat=n:=by
  simp only[BitVec.toNat_ofInt];omega
theorem wrap_nat {n:Nat} (h:n<2^63):IntKind.i64.wrap (n:Int)=(n:Int):=by
  unfold IntKind.wrap;simp[IntKind.signed,IntKind.bits];omega
theorem wrapU_nat {n:Nat} (h:n<2^63):IntKind.u64.wrap (n:Int)=(n:Int):=by
  unfold IntKind.wrap;simp[IntKind.signed,IntKind.bits];omega
theorem band_nat {a b:Nat} (ha:a<2^63) (hb:b<2^63):ya (a:Int) (b:Int)=((a&&&b:Nat):Int):=by
  unfold ya;rw[BitVec.toNat_and,ofInt_nat ha,ofInt_nat hb];exact wrap_nat (Nat.lt_of_le_of_lt Nat.and_le_left ha)
theorem uand_nat {a b:Nat} (ha:a<2^63) (hb:b<2^63):wX (a:Int) (b:Int)=((a&&&b:Nat):Int):=by
  unfold wX;rw[BitVec.toNat_and,ofInt_nat ha,ofInt_nat hb];exact wrapU_nat (Nat.lt_of_le_of_lt Nat.and_le_left ha)
theorem bor_nat {a b:Nat} (ha:a<2^63) (hb:b<2^63):bor (a:Int) (b:Int)=((a|||b:Nat):Int):=by
  unfold bor;rw[BitVec.toNat_or,ofInt_nat ha,ofInt_nat hb,wrap_nat (Nat.or_lt_two_pow ha hb)]
def Set' (s:Int):Prop:=0≤s∧s<2^62
def has (s:Int) (p:Nat):Bool:=s.toNat.testBit p
theorem nat_of {s:Int} (h:Set' s):∃n:Nat,s=(n:Int)∧n<2^62:=⟨s.toNat,by unfold Set' at h;omega,by unfold Set' at h;omega⟩
theorem lt63 {n:Nat} (h:n<2^62):n<2^63:=by omega
theorem has_shr {s:Int} (h:Set' s) (p:Nat):decide (ya (s/2^p) 1=1)=has s p:=by
  obtain⟨n,rfl,hn⟩:=nat_of h;unfold has;rw[jGX,div_nat];have h1:n/2^p<2^63:=Nat.lt_of_le_of_lt (Nat.div_le_self _ _) (lt63 hn);rw[show(1:Int)=((1:Nat):Int) from rfl,band_nat h1 (by decide),Nat.and_one_is_mod,Nat.testBit_eq_decide_div_mod_eq];exact decide_eq_decide.2 ⟨fun h=>by omega,fun h=>by omega⟩
theorem has_ushr {s:Int} (h:Set' s) (p:Nat):decide (wX (s/2^p) 1=1)=has s p:=by
  obtain⟨n,rfl,hn⟩:=nat_of h;unfold has;rw[jGX,div_nat];have h1:n/2^p<2^63:=Nat.lt_of_le_of_lt (Nat.div_le_self _ _) (lt63 hn);rw[show(1:Int)=((1:Nat):Int) from rfl,uand_nat h1 (by decide),Nat.and_one_is_mod,Nat.testBit_eq_decide_div_mod_eq];exact decide_eq_decide.2 ⟨fun h=>by omega,fun h=>by omega⟩
theorem bit_num {s:Int} (h:Set' s) (p:Nat):ya (s/2^p) 1=if has s p=true then 1 else 0:=by
  obtain⟨n,rfl,hn⟩:=nat_of h;unfold has;rw[jGX,div_nat];have h1:n/2^p<2^63:=Nat.lt_of_le_of_lt (Nat.div_le_self _ _) (lt63 hn);rw[show(1:Int)=((1:Nat):Int) from rfl,band_nat h1 (by decide),Nat.and_one_is_mod,Nat.testBit_eq_decide_div_mod_eq]
  split
  · rename_i h;have:=of_decide_eq_true h;omega
  · rename_i h;have:¬(n/2^p%2=1):=fun e=>h (decide_eq_true e);omega
theorem has_zero (p:Nat):has 0 p=false:=by unfold has;simp
theorem has_two (k p:Nat):has ((2:Int)^k) p=decide (k=p):=by
  unfold has;rw[two_nat,jGX,Nat.testBit_two_pow]
theorem has_bor {a b:Int} (ha:Set' a) (hb:Set' b) (p:Nat):has (bor a b) p=(has a p||has b p):=by
  obtain⟨n,rfl,hn⟩:=nat_of ha;obtain⟨m,rfl,hm⟩:=nat_of hb;unfold has;rw[bor_nat (lt63 hn) (lt63 hm)];simp only[jGX,Nat.testBit_or]
theorem bor_set {a b:Int} (ha:Set' a) (hb:Set' b):Set' (bor a b):=by
  obtain⟨n,rfl,hn⟩:=nat_of ha;obtain⟨m,rfl,hm⟩:=nat_of hb;rw[bor_nat (lt63 hn) (lt63 hm)];have:n|||m<2^62:=Nat.or_lt_two_pow hn hm;unfold Set';omega
theorem zero_set:Set' 0:=by unfold Set';omega
theorem two_set {k:Nat} (h:k≤61):Set' ((2:Int)^k):=by
  rw[two_nat];have:2^k<2^62:=Nat.pow_lt_pow_right (by decide) (by omega);obtain⟨q,hq⟩:∃q,q=2^k:=⟨_,rfl⟩;rw[←hq] at this⊢;unfold Set';omega
theorem ext {a b:Int} (ha:Set' a) (hb:Set' b) (h:∀p,has a p=has b p):a=b:=by
  obtain⟨n,rfl,hn⟩:=nat_of ha;obtain⟨m,rfl,hm⟩:=nat_of hb;have:n=m:=jId (fun i=>by have:=h i;unfold has at this;simpa using this);rw[this]
theorem has_lt {s:Int} {k:Nat} (h0:0≤s) (h:s<2^k) {p:Nat} (hp:has s p=true):p<k:=by
  obtain⟨n,rfl⟩:∃n:Nat,s=(n:Int):=⟨s.toNat,by omega⟩;rw[two_nat] at h;unfold has at hp;rw[jGX] at hp;have h1:=Nat.ge_two_pow_of_testBit hp;rcases Nat.lt_or_ge p k with h2|h2
  · exact h2
  · have:=Nat.pow_le_pow_right (n:=2) (by decide) h2;omega
theorem lt_of_has {s:Int} {k:Nat} (hs:Set' s) (h:∀p,has s p=true→p<k):s<2^k:=by
  obtain⟨n,rfl,hn⟩:=nat_of hs;rw[two_nat];have:n<2^k:=Nat.lt_pow_two_of_testBit n (fun i hi=>by
    cases e:n.testBit i with
    |false=>rfl
    |true=>have:=h i (by unfold has;simpa using e);omega)
  omega
theorem or_two {n p:Nat} (h:n.testBit p=false):n+2^p=n|||2^p:=by
  have h1:n=2^(p+1)*(n/2^(p+1))+n%2^(p+1):=(Nat.div_add_mod _ _).symm;have hm:n%2^(p+1)<2^p:=by
    have hlt:n%2^(p+1)<2^(p+1):=Nat.mod_lt _ (Nat.pow_pos (by decide));rcases Nat.lt_or_ge (n%2^(p+1)) (2^p) with h2|h2
    · exact h2
    · exfalso;have:(n%2^(p+1)).testBit p=true:=Nat.testBit_of_two_pow_le_and_two_pow_add_one_gt h2 hlt;rw[Nat.testBit_mod_two_pow,h] at this;simp at this
  apply jId;intro i;rw[Nat.testBit_or,Nat.testBit_two_pow];have e:n+2^p=2^(p+1)*(n/2^(p+1))+(2^p+n%2^(p+1)):=(by omega);have hb:2^p+n%2^(p+1)<2^(p+1):=jHQ (Nat.add_lt_add_left hm _) (by rw[Nat.pow_succ];omega);rw[e,Nat.testBit_two_pow_mul_add _ hb]
  conv=>rhs;rw[h1,Nat.testBit_two_pow_mul_add _ (Nat.mod_lt _ (Nat.pow_pos (by decide)))]
  have e2:2^p+n%2^(p+1)=2^p*1+n%2^(p+1):=(by omega);by_cases hi:i<p+1
  · rw[if_pos hi,if_pos hi,e2,Nat.testBit_two_pow_mul_add _ hm];by_cases hp:i<p
    · rw[if_pos hp,decide_eq_false (by omega),Bool.or_false]
    · have:i=p:=(by omega);subst this;rw[if_neg hp,Nat.sub_self,decide_eq_true rfl,Bool.or_true];simp
  · rw[if_neg hi,if_neg hi,decide_eq_false (by omega),Bool.or_false]
theorem add_two {s:Int} (hs:Set' s) {p:Nat} (hp:p≤61) (h:has s p=false):s+2^p=bor s (2^p):=by
  obtain⟨n,rfl,hn⟩:=nat_of hs;rw[two_nat,bor_nat (lt63 hn) (pow63 (by omega))];unfold has at h;rw[jGX] at h;rw[←or_two h];omega
def size (s:Int):Int:=(((List.range 62).countP (fun p=>has s p):Nat):Int)
theorem size_zero:size 0=0:=by
  unfold size;have:(List.range 62).countP (fun p=>has 0 p)=0:=jIf.2 (fun p _=>by rw[has_zero];simp);rw[this];rfl
theorem size_le (s:Int):0≤size s∧size s≤62:=by
  have:=List.countP_le_length (l:=List.range 62) (p:=fun p=>has s p);rw[List.length_range] at this;unfold size;omega
theorem has_half {s:Int} (hs:Set' s) (p:Nat):has (s/2) p=has s (p+1):=by
  obtain⟨n,rfl,hn⟩:=nat_of hs;unfold has;have:((n:Int)/2).toNat=n/2:=(by omega);rw[this,jGX,Nat.testBit_succ]
theorem size_half {s:Int} (hs:Set' s):size s=s%2+size (s/2):=by
  obtain⟨n,e,hn⟩:=nat_of hs;have h61:has (s/2) 61=false:=by
    rw[has_half hs];subst e;unfold has;rw[jGX];exact Nat.testBit_lt_two_pow hn
  have hr:(List.range 62)=0::(List.range 61).map (·+1):=by
    rw[show(62:Nat)=61+1 from rfl,List.range_succ_eq_map]
  have hr2:(List.range 62)=List.range 61++[61]:=(by rw[show(62:Nat)=61+1 from rfl,jHu]);have h0:(has s 0=true)↔s%2=1:=by
    subst e;unfold has;rw[jGX,Nat.testBit_zero];simp only[decide_eq_true_eq];omega
  have hc:(List.range 62).countP (fun p=>has (s/2) p)=(List.range 61).countP (fun p=>has s (p+1)):=by
    rw[hr2,jIj];simp only[jIg,List.countP_nil,h61];simp only[has_half hs];simp
  unfold size;rw[hc]
  conv=>lhs;rw[hr]
  rw[jIg,List.countP_map];have hf:((fun p=>has s p)∘fun(x:Nat)=>x+1)=fun p=>has s (p+1):=rfl
  rw[hf];by_cases h1:has s 0=true
  · rw[if_pos h1];have:=h0.1 h1;omega
  · rw[if_neg h1];have:¬s%2=1:=fun e=>h1 (h0.2 e);omega
end BT
end Go.X
namespace Go.X
namespace BT
theorem uor_nat {a b:Nat} (ha:a<2^63) (hb:b<2^63):uor (a:Int) (b:Int)=((a|||b:Nat):Int):=by
  unfold uor;rw[BitVec.toNat_or,ofInt_nat ha,ofInt_nat hb,wrapU_nat (Nat.or_lt_two_pow ha hb)]
theorem has_uor {a b:Int} (ha:Set' a) (hb:Set' b) (p:Nat):has (uor a b) p=(has a p||has b p):=by
  obtain⟨n,rfl,hn⟩:=nat_of ha;obtain⟨m,rfl,hm⟩:=nat_of hb;unfold has;rw[uor_nat (lt63 hn) (lt63 hm)];simp only[jGX,Nat.testBit_or]
theorem uor_set {a b:Int} (ha:Set' a) (hb:Set' b):Set' (uor a b):=by
  obtain⟨n,rfl,hn⟩:=nat_of ha;obtain⟨m,rfl,hm⟩:=nat_of hb;rw[uor_nat (lt63 hn) (lt63 hm)];have:n|||m<2^62:=Nat.or_lt_two_pow hn hm;unfold Set';omega
theorem pred_odd (k:Nat):(2*k+1)&&&(2*k+1-1)=2*k:=by
  apply jId;intro i;rw[Nat.testBit_and,Nat.add_sub_cancel];cases i with
  |zero=>simp
  |succ i=>
    rw[Nat.testBit_succ,Nat.testBit_succ];have:(2*k+1)/2=k:=(by omega);have h2:(2*k)/2=k:=(by omega);rw[this,h2,Bool.and_self]
theorem pred_even (k:Nat) (h:k≠0):(2*k)&&&(2*k-1)=2*(k&&&(k-1)):=by
  apply jId;intro i;rw[Nat.testBit_and];cases i with
  |zero=>simp
  |succ i=>
    rw[Nat.testBit_succ,Nat.testBit_succ,Nat.testBit_succ];have:(2*k)/2=k:=(by omega);have h2:(2*k-1)/2=k-1:=(by omega);have h3:(2*(k&&&(k-1)))/2=k&&&(k-1):=(by omega);rw[this,h2,h3,Nat.testBit_and]
theorem size_dbl {k:Nat} (h:k<2^61):size ((2*k:Nat):Int)=size (k:Int):=by
  rw[size_half (s:=((2*k:Nat):Int)) (by unfold Set';omega)];have h1:((2*k:Nat):Int)%2=0:=(by omega);have h2:((2*k:Nat):Int)/2=(k:Int):=(by omega);rw[h1,h2];omega
theorem size_odd {k:Nat} (h:k<2^61):size ((2*k+1:Nat):Int)=1+size (k:Int):=by
  rw[size_half (s:=((2*k+1:Nat):Int)) (by unfold Set';omega)];have h1:((2*k+1:Nat):Int)%2=1:=(by omega);have h2:((2*k+1:Nat):Int)/2=(k:Int):=(by omega);rw[h1,h2]
theorem pred_nat:∀(n:Nat),n≠0→n<2^62→(n&&&(n-1))<n∧size ((n&&&(n-1):Nat):Int)+1=size (n:Int)
  |n,h0,hn=>by
    rcases Nat.mod_two_eq_zero_or_one n with e|e
    · obtain⟨k,rfl⟩:∃k,n=2*k:=⟨n/2,by omega⟩
      have hk:k≠0:=by omega
      obtain⟨h1,h2⟩:=pred_nat k hk (by omega)
      rw[pred_even k hk]
      exact⟨by omega,by rw[size_dbl (by omega),size_dbl (by omega)];exact h2⟩
    · obtain⟨k,rfl⟩:∃k,n=2*k+1:=⟨n/2,by omega⟩
      rw[pred_odd]
      exact⟨by omega,by rw[size_dbl (by omega),size_odd (by omega)];omega⟩
termination_by n=>n
theorem pred {s:Int} (hs:Set' s) (h:s≠0):Set' (wX s (s-1))∧wX s (s-1)<s∧size (wX s (s-1))+1=size s:=by
  obtain⟨n,rfl,hn⟩:=nat_of hs;have h0:n≠0:=(by omega);have e:(n:Int)-1=((n-1:Nat):Int):=(by omega);rw[e,uand_nat (lt63 hn) (by omega)];obtain⟨h1,h2⟩:=pred_nat n h0 hn;exact⟨by unfold Set';omega,by omega,h2⟩
end BT
end Go.X
namespace Go.X
namespace U
def jbn {α:Type} (eq:α→α→Bool) (p:α):List α→List α
  |[]=>[]
  |y::r=>if eq y p=true then jbn eq y r else y::jbn eq y r
def yt {α:Type} (eq:α→α→Bool):List α→List α
  |[]=>[]
  |x::r=>x::jbn eq x r
def jEh {α:Type} (eq:α→α→Bool) (l:List α) (i:Nat):Prop:=1≤i∧i≤l.length∧yt eq (l.take i)=l.take i
def jfj {α:Type} (eq:α→α→Bool) (l:List α) (n:Nat):Int:=((yt eq (l.take n)).length:Int)
def juv {α:Type} (eq:α→α→Bool) (l:List α) (i k:Nat) (r:List α):Prop:=1≤k∧i+k≤l.length∧r.length=l.length∧yt eq (l.take (i+k))=r.take (yt eq (l.take (i+k))).length∧r.drop (i+k-1)=l.drop (i+k-1)∧(yt eq (l.take (i+k))).length<i+k
end U
namespace L
theorem nodup_len {α:Type}:∀(a b:List α),a.Nodup→(∀x∈a,x∈b)→a.length≤b.length
  |[],_,_,_=>by simp
  |x::a,b,hn,h=>by
    obtain⟨b1,b2,rfl⟩:=List.append_of_mem (h x (by simp))
    rw[jHJ] at hn
    have:=nodup_len a (b1++b2) hn.2 (fun y hy=>by
      have:=h y (by simp[hy])
      rw[jG1,jGS] at this
      rw[jG1]
      rcases this with h1|h1|h1
      · exact .inl h1
      · subst h1;exact absurd hy hn.1
      · exact .inr h1)
    simp at this⊢
    omega
theorem perm_of_nodup {α:Type} [DecidableEq α]:∀{a b:List α},a.Nodup→b.Nodup→(∀n,n∈a↔n∈b)→a.Perm b
  |[],b,_,_,h=>by
    have:b=[]:=by
      cases b with
      |nil=>rfl
      |cons x r=>exact absurd ((h x).2 (by simp)) (by simp)
    rw[this]
  |x::r,b,ha,hb,h=>by
    have hx:x∈b:=(h x).1 (by simp);have hp:=List.perm_cons_erase hx;refine(List.Perm.cons x (perm_of_nodup (jHJ.1 ha).2 (hb.erase x) (fun n=> ?_))).trans hp.symm;rw[hb.mem_erase_iff];constructor
    · intro hn;exact⟨fun e=>by subst e;exact(jHJ.1 ha).1 hn,(h n).1 (jGV _ hn)⟩
    · rintro⟨hne,hn⟩;rcases jGS.1 ((h n).2 hn) with e|hr
      · exact absurd e hne
      · exact hr
theorem nodup_inj {α β:Type} {f:α→β}:∀{l:List α},(l.map f).Nodup→∀{x y:α},x∈l→y∈l→f x=f y→x=y
  |[],_,_,_,h,_,_=>by simp at h
  |a::r,hn,x,y,hx,hy,e=>by
    simp only[jHU,jHJ] at hn
    rcases jGS.1 hx with rfl|hx'
    · rcases jGS.1 hy with rfl|hy'
      · rfl
      · exact absurd (jHs.2 ⟨y,hy',e.symm⟩) hn.1
    · rcases jGS.1 hy with rfl|hy'
      · exact absurd (jHs.2 ⟨x,hx',e⟩) hn.1
      · exact nodup_inj hn.2 hx' hy' e
theorem nth_take {α:Type} [Inhabited α] {l:List α} {i n:Nat} (h:i<n):nth (l.take n) i=nth l i:=by
  unfold nth;rw[jHq,jHq,jHd h]
theorem nth_drop {α:Type} [Inhabited α] {l r:List α} {a n:Nat} (h:l.drop a=r.drop a) (hn:a≤n):nth l n=nth r n:=by
  have e:=congrArg (fun x=>x[n-a]?) h;simp only[jHw] at e;rw[show a+(n-a)=n by omega] at e;unfold nth;rw[jHq,jHq,e]
theorem nth_map {α β:Type} [Inhabited α] [Inhabited β] {f:α→β} {l:List α} {i:Nat} (h:i<l.length):nth (l.map f) i=f (nth l i):=by
  rw[nth_lt (by simpa using h),nth_lt h];simp
theorem nth_set {α:Type} [Inhabited α] {l:List α} {i j:Nat} {x:α} (h:i<l.length):nth (l.set i x) j=if i=j then x else nth l j:=by
  unfold nth;rw[jHq,jHq,List.getElem?_set]
  split
  · rename_i e;subst e;simp[h]
  · rfl
theorem nth_rep {α:Type} [Inhabited α] {n i:Nat} {x:α} (h:i<n):nth (List.replicate n x) i=x:=by
  unfold nth;rw[jHq,List.getElem?_replicate,if_pos h];rfl
theorem ext_nth {α:Type} [Inhabited α] {a b:List α} (h:a.length=b.length) (h2:∀i,i<a.length→nth a i=nth b i):a=b:=by
  apply List.ext_getElem h;intro i h3 h4;rw[←nth_lt h3,←nth_lt h4];exact h2 i h3
theorem range_map_nth {α:Type} [Inhabited α] (l:List α):(List.range l.length).map (nth l)=l:=by
  apply ext_nth
  · simp
  · intro i hi;rw[nth_map (by simpa using hi)];congr 1;rw[nth_lt (by simpa using hi)];simp
section
variable {α:Type} [Inhabited α] {eq:α→α→Bool}
theorem compT_snoc (y:α):∀(r:List α) (p:α),U.jbn eq p (r++[y])=U.jbn eq p r++(if eq y (nth (p::r) r.length)=true then[] else[y])
  |[],p=>rfl
  |z::r,p=>by
    have e:nth (p::z::r) (z::r).length=nth (z::r) r.length:=rfl
    rw[e]
    simp only[jHi,U.jbn]
    split
    · exact compT_snoc y r z
    · rw[compT_snoc y r z];rfl
theorem comp_snoc (y:α) {l:List α} (h:l≠[]):U.yt eq (l++[y])=U.yt eq l++(if eq y (nth l (l.length-1))=true then[] else[y]):=by
  cases l with
  |nil=>exact absurd rfl h
  |cons x r=>
    show x::U.jbn eq x (r++[y])=_;rw[compT_snoc];have:(x::r).length-1=r.length:=(by simp);rw[this];rfl
theorem comp_take {l:List α} {n:Nat} (h1:1≤n) (h2:n<l.length):U.yt eq (l.take (n+1))=U.yt eq (l.take n)++(if eq (nth l n) (nth l (n-1))=true then[] else[nth l n]):=by
  rw[L.take_succ h2,comp_snoc]
  · have e:(l.take n).length-1=n-1:=(by rw[jHj];omega);rw[e,nth_take (by omega)]
  · intro e;have:=congrArg List.length e;rw[jHj,jHI] at this;omega
end
theorem comp_short {α:Type} {eq:α→α→Bool} {l:List α} (h:l.length<2):U.yt eq l=l:=by
  match l,h with
  |[],_=>rfl
  |[x],_=>rfl
theorem comp_len {α:Type} {eq:α→α→Bool} (l:List α):(U.yt eq l).length≤l.length:=by
  have:∀(r:List α) (p:α),(U.jbn eq p r).length≤r.length:=by
    intro r
    induction r with
    |nil=>intro p;simp[U.jbn]
    |cons y r ih=>
      intro p;unfold U.jbn
      split
      · have:=ih y;simp;omega
      · have:=ih y;simp;omega
  cases l with
  |nil=>simp[U.yt]
  |cons x r=>have:=this r x;simp[U.yt];omega
theorem inv9_next {α:Type} [Inhabited α] {eq:α→α→Bool} {l r:List α} {i k:Nat} (hi:1≤i) (h:U.juv eq l i k r) (hlt:i+k<l.length):
    (eq (nth r (i+k)) (nth r (i+k-1))=false→U.jfj eq l (i+(k+1))=U.jfj eq l (i+k)+1∧U.juv eq l i (k+1) (r.set (U.jfj eq l (i+k)).toNat (nth r (i+k))))∧
    (eq (nth r (i+k)) (nth r (i+k-1))=true→U.jfj eq l (i+(k+1))=U.jfj eq l (i+k)∧U.juv eq l i (k+1) r):=by
  obtain⟨h1,h2,h3,h4,h5,h6⟩:=h;have e1:nth r (i+k)=nth l (i+k):=nth_drop h5 (by omega);have e2:nth r (i+k-1)=nth l (i+k-1):=nth_drop h5 (by omega);have hc:=comp_take (eq:=eq) (l:=l) (n:=i+k) (by omega) hlt;rw[show i+k+1=i+(k+1) by omega] at hc;have hd:r.drop (i+k)=l.drop (i+k):=by
    have:=congrArg (List.drop 1) h5;rw[List.drop_drop,List.drop_drop,show i+k-1+1=i+k by omega] at this;exact this
  rw[e1,e2];obtain⟨c,hcc⟩:∃c,c=U.yt eq (l.take (i+k)):=⟨_,rfl⟩;rw[←hcc] at hc h4 h6;have hn:(U.jfj eq l (i+k))=(c.length:Int):=(by unfold U.jfj;rw[←hcc]);rw[hn];refine⟨fun he=> ?_,fun he=> ?_⟩
  · rw[if_neg (by rw[he];simp)] at hc;refine⟨by unfold U.jfj;rw[hc];simp,by omega,by omega,by simpa using h3,?_,?_,?_⟩
    · rw[hc];simp only[jGX,jHa,jHr,jHI];rw[List.take_add_one,List.getElem?_set_self (by omega)];rw[List.take_set_of_le (by omega),←h4];rfl
    · rw[show i+(k+1)-1=i+k by omega];simp only[jGX];rw[List.drop_set_of_lt (by omega)];exact hd
    · rw[hc];simp;omega
  · rw[if_pos he,jHf] at hc;refine⟨by unfold U.jfj;rw[hc],by omega,by omega,h3,?_,?_,?_⟩
    · rw[hc];exact h4
    · rw[show i+(k+1)-1=i+k by omega];exact hd
    · rw[hc];omega
theorem compT_sub {α:Type} {eq:α→α→Bool}:∀(r:List α) (p x:α),x∈U.jbn eq p r→x∈r
  |[],_,_,h=>by simp[U.jbn] at h
  |y::r,p,x,h=>by
    unfold U.jbn at h
    split at h
    · exact jGV _ (compT_sub r y x h)
    · rcases jGS.1 h with rfl|h
      · simp
      · exact jGV _ (compT_sub r y x h)
theorem comp_sub {α:Type} {eq:α→α→Bool} {l:List α} {x:α} (h:x∈U.yt eq l):x∈l:=by
  cases l with
  |nil=>simp[U.yt] at h
  |cons y r=>
    unfold U.yt at h;rcases jGS.1 h with rfl|h
    · simp
    · exact jGV _ (compT_sub r y x h)
theorem compT_mem {α:Type} [DecidableEq α]:∀(r:List α) (p x:α),x∈r→x=p∨x∈U.jbn (fun a b=>decide (a=b)) p r
  |y::r,p,x,h=>by
    unfold U.jbn
    rcases jGS.1 h with rfl|h
    · by_cases e:x=p
      · exact .inl e
      · rw[if_neg (by simpa using e)];right;simp
    · rcases compT_mem r y x h with rfl|h1
      · by_cases e:x=p
        · exact .inl e
        · rw[if_neg (by simpa using e)];right;simp
      · right
        split
        · exact h1
        · exact jGV _ h1
theorem comp_mem {α:Type} [DecidableEq α] {l:List α} {x:α}:x∈U.yt (fun a b=>decide (a=b)) l↔x∈l:=by
  refine⟨comp_sub,fun h=> ?_⟩;cases l with
  |nil=>simp at h
  |cons y r=>
    unfold U.yt;rcases jGS.1 h with rfl|h
    · simp
    · rcases compT_mem r y x h with rfl|h1
      · simp
      · exact jGV _ h1
theorem comp_asc {α:Type} [DecidableEq α] {lt:α→α→Bool}:∀{l:List α},kQ lt l→jye lt l→(U.yt (fun a b=>decide (a=b)) l).Pairwise (fun a b=>lt a b=true):=by
  have main:∀(r:List α) (p:α),kQ lt (p::r)→jye lt (p::r)→(p::U.jbn (fun a b=>decide (a=b)) p r).Pairwise (fun a b=>lt a b=true):=by
    intro r
    induction r with
    |nil=>intro p _ _;exact List.pairwise_singleton _ _
    |cons y r ih=>
      intro p ho ha;have ha':=jHG.1 ha;have ho':kQ lt (y::r):=ho.sub (fun z hz=>jGV _ hz);have hi:=ih y ho' ha'.2;unfold U.jbn;by_cases e:y=p
      · rw[if_pos (by simpa using e)];subst e;exact hi
      · rw[if_neg (by simpa using e)];refine jHG.2 ⟨fun z hz=> ?_,hi⟩;have hpy:lt p y=true:=by
          cases h:lt p y with
          |true=>rfl
          |false=>exact absurd (ho.total p y (by simp) (by simp) h (ha'.1 y (by simp))).symm e
        rcases jGS.1 hz with rfl|hz
        · exact hpy
        · have hz':=compT_sub r y z hz;exact ho.trans p y z (by simp) (by simp) (by simp[hz']) hpy ((jHG.1 hi).1 z hz)
  intro l ho ha;cases l with
  |nil=>exact List.Pairwise.nil
  |cons p r=>exact main r p ho ha
theorem asc_nodup {α:Type} {lt:α→α→Bool} {l:List α} (hi:∀x,lt x x=false) (h:l.Pairwise (fun a b=>lt a b=true)):l.Nodup:=
  h.imp (fun{a b} h e=>by subst e;rw[hi] at h;cases h)
theorem filter_take {α:Type} [Inhabited α] {p:α→Bool} {l:List α} {i:Nat} (h:i<l.length):(l.take (i+1)).filter p=(l.take i).filter p++(if p (nth l i)=true then[nth l i] else[]):=by
  rw[take_succ h,List.filter_append];congr 1;by_cases e:p (nth l i)=true<;>simp[e]
theorem range_filter_succ {p:Nat→Bool} {n:Nat}:(List.range (n+1)).filter p=(List.range n).filter p++(if p n=true then[n] else[]):=by
  rw[jHu,List.filter_append];congr 1;by_cases e:p n=true<;>simp[e]
end L
end Go.X
namespace Go.X
abbrev tSp:Ty:= .st [.int,.int]
abbrev tPe:Ty:= .st [.slice .int,.int,.int,.slice .int,.bool,.int]
abbrev tLw:Ty:= .st [.int,.int,.bool]
abbrev tCr:Ty:= .st [.int,.slice tPe,.slice tLw]
abbrev tJb:Ty:= .st [.int,.int,.int,.int,.int,.int]
abbrev tBk:Ty:= .st [tJb,.int,.int,.int]
abbrev tSh:Ty:= .st [.int,.int,.int,.int,.int]
abbrev tDy:Ty:= .st [tCr,.slice (.slice tSp),.slice tBk,.int,.int,.slice tSh]
abbrev SpD:Type:=Int×Int×Unit
abbrev PeD:Type:=List Int×Int×Int×List Int×Bool×Int×Unit
abbrev LwD:Type:=Int×Int×Bool×Unit
abbrev CrD:Type:=Int×List PeD×List LwD×Unit
abbrev JbD:Type:=Int×Int×Int×Int×Int×Int×Unit
abbrev BkD:Type:=JbD×Int×Int×Int×Unit
abbrev ShD:Type:=Int×Int×Int×Int×Int×Unit
abbrev DyD:Type:=CrD×List (List SpD)×List BkD×Int×Int×List ShD×Unit
namespace U
def lo (s:SpD):Int:=s.1
def hi (s:SpD):Int:=s.2.1
def jc (n a b:Int):Bool:=decide (a≤n)&&decide (n≤b)
def lv (p:PeD):List Int:=p.1
def fd (p:PeD):Int:=p.2.1
def cl (p:PeD):Int:=p.2.2.1
def zy (p:PeD):List Int:=p.2.2.2.1
def jEw (p:PeD):Bool:=p.2.2.2.2.1
def fe (p:PeD):Int:=p.2.2.2.2.2.1
def jyg (l:LwD):Int:=l.1
def jEc (l:LwD):Int:=l.2.1
def jF6 (l:LwD):Bool:=l.2.2.1
def la (c:CrD):Int:=c.1
def ji (c:CrD):List PeD:=c.2.1
def wi (c:CrD):List LwD:=c.2.2.1
def jtw (j:JbD):Int:=j.1
def jo9 (j:JbD):Int:=j.2.1
def jBl (j:JbD):Int:=j.2.2.1
def jut (j:JbD):Int:=j.2.2.2.1
def jtv (j:JbD):Int:=j.2.2.2.2.1
def jB5 (j:JbD):Int:=j.2.2.2.2.2.1
def jaL (b:BkD):JbD:=b.1
def jx1 (b:BkD):Int:=b.2.1
def jcf (b:BkD):Int:=b.2.2.1
def jtd (b:BkD):Int:=b.2.2.2.1
def wG (s:ShD):Int:=s.1
def jnv (s:ShD):Int:=s.2.1
def jyN (s:ShD):Int:=s.2.2.1
def jcZ (s:ShD):Int:=s.2.2.2.1
def qD (s:ShD):Int:=s.2.2.2.2.1
def jo (d:DyD):CrD:=d.1
def jO (d:DyD):List (List SpD):=d.2.1
def jv (d:DyD):List BkD:=d.2.2.1
def jki (d:DyD):Int:=d.2.2.2.1
def jB2 (d:DyD):Int:=d.2.2.2.2.1
def jT (d:DyD):List ShD:=d.2.2.2.2.2.1
def jaG (L:Int) (p:PeD):Bool:=decide (((lv p).length:Int)=L∧0≤fd p∧fd p≤255∧0≤cl p∧cl p≤255∧(zy p).length≤10∧0≤fe p∧fe p≤1000)&&((lv p).all (fun n=>jc n 0 5)&&(zy p).all (fun n=>jc n 0 99))
def ja8 (l:LwD):Bool:=jc (jyg l) 1 5&&jc (jEc l) 1 8
def jq (c:CrD):Bool:=decide (2≤la c∧la c≤5∧(ji c).length≤8∧(wi c).length=4)&&((ji c).all (jaG (la c))&&(wi c).all ja8)
def jU (c:CrD) (j:JbD):Bool:=decide (0≤jtw j∧jtw j≤la c-1∧0≤jo9 j∧jo9 j≤la c-1∧jtw j≠jo9 j∧0≤jBl j∧jBl j≤99∧0≤jut j∧jut j≤7∧0≤jtv j∧jtv j≤3∧1≤jB5 j∧jB5 j≤8)
def zS (c:CrD) (j:JbD):Int:=if jq c=false then 30 else if jU c j=false then 31 else 0
def jhE (s:SpD):Bool:=decide (0≤lo s∧lo s≤hi s∧hi s≤300)
def gx (n:Nat) (r:List SpD):Bool:=decide (r.length=n)&&r.all jhE
def je2 (n:Nat) (b:BkD):Bool:=decide (0≤jx1 b∧jx1 b≤(n:Int)-1∧0≤jcf b∧jcf b<jtd b∧jtd b≤1440)
def jdN (nb np:Nat) (s:ShD):Bool:=decide (0≤wG s∧wG s≤99∧0≤jnv s∧jnv s≤9999∧1≤jyN s∧jyN s≤2∧0≤jcZ s∧jcZ s≤(nb:Int)-1∧0≤qD s∧qD s≤(np:Int)-1)
def kg (d:DyD):Bool:=decide ((jv d).length≤4∧1≤(jO d).length∧(jO d).length≤5∧0≤jki d∧jki d≤300∧0≤jB2 d∧jB2 d≤1440∧(jT d).length≤30)&&
  ((jO d).all (gx (jO d).length)&&((jv d).all (je2 (jO d).length)&&(jT d).all (jdN (jv d).length (ji (jo d)).length)))
def jnd (a b:ShD):Bool:=decide (wG a=wG b)&& !decide (a=b)
def jkX (l:List ShD) (i:Nat):Bool:=(l.take i).any (jnd (nth l i))
def qT (l:List ShD) (n:Nat):Bool:=(List.range n).any (jkX l)
def yC (l:List ShD):Bool:=qT l l.length
def jxi (d:DyD):Bool:=(jv d).all (fun b=>jU (jo d) (jaL b))
def kM (d:DyD):Int:=if jq (jo d)=false then 30 else if jxi d=false then 31 else if kg d=false then 50 else if yC (jT d)=true then 51 else 0
def jd6 (l:List ShD) (i:Nat):Bool:= !((l.take i).any (fun x=>decide (x=nth l i)))
def gE (l:List ShD) (n m:Nat):List ShD:=((List.range n).filter (fun i=>decide (wG (nth l i)=(m:Int))&&jd6 l i)).map (nth l)
def z6 (l:List ShD) (n:Nat):List ShD:=(List.range n).flatMap (gE l l.length)
def je (l:List ShD):List ShD:=z6 l 100
def jbH (p:PeD) (client:Int):Bool:=(zy p).any (fun t=>decide (t=client))
def kf (s n:Int):Bool:=decide (ya (s/2^n.toNat) 1=1)
def kd (c:CrD) (j:JbD) (p:Int):Bool:= !(jbH (nth (ji c) p.toNat) (jBl j))&&kf (fd (nth (ji c) p.toNat)) (jut j)&&kf (cl (nth (ji c) p.toNat)) (jtv j)
def bk (d:DyD) (b:Int):BkD:=nth (jv d) b.toNat
def juT (d:DyD) (a b:Int):Int:=hi (nth (nth (jO d) (jx1 (bk d a)).toNat) (jx1 (bk d b)).toNat)
def qC (d:DyD) (a b:Int):Bool:=decide (jcf (bk d a)<jcf (bk d b)∨(jcf (bk d a)=jcf (bk d b)∧a<b))
def vR (d:DyD) (a b:Int):Int:=jcf (bk d b)-jtd (bk d a)-jki d-juT d a b
def jR (d:DyD) (a b:Int):Bool:=if qC d b a=true then decide (0≤vR d b a) else decide (0≤vR d a b)
def jqp (d:DyD) (l:List Int):Int:=(l.map (fun b=>jtd (bk d b)-jcf (bk d b))).foldl (·+·) 0
def jC4 (d:DyD) (l:List Int):Bool:=(List.range l.length).all (fun i=>(l.take i).all (fun b=>jR d (nth l i) b))
def wN (d:DyD) (p:Int) (l:List Int):Bool:=l.all (fun b=>kd (jo d) (jaL (bk d b)) p)&&(jC4 d l&&decide (jqp d l≤jB2 d))
def zx (a b:ShD):Bool:=decide (jnv b<jnv a∨(jnv a=jnv b∧wG b<wG a))
def jkV (l:List ShD) (s:ShD):Bool:=decide (jyN s=1)&& !(l.any (fun t=>decide (jcZ t=jcZ s)&&decide (qD t=qD s)&&zx t s))
def jEO (a b:ShD):Bool:=zx b a
def jeY (t:List Int) (p:Int) (n:Nat):List Int:=((List.range n).filter (fun b=>kf (nth t b) p)).map (fun(b:Nat)=>(b:Int))
def on (t:List Int) (p:Int):List Int:=jeY t p t.length
def vl (d:DyD) (x:List Int×List Int) (s:ShD):List Int×List Int:=
  if wN d (qD s) (on x.1 (qD s)++[jcZ s])=true then(x.1.set (jcZ s).toNat (nth x.1 (jcZ s).toNat+2^(qD s).toNat),x.2) else(x.1,x.2++[wG s])
def jcE (c:CrD) (t:Int) (level a b:Int):Bool:=(List.range (ji c).length).any (fun i=>kf t (i:Int)&&decide (level≤nth (lv (nth (ji c) i)) a.toNat)&&decide (level≤nth (lv (nth (ji c) i)) b.toNat))
def gK (c:CrD) (j:JbD):LwD:=nth (wi c) (jtv j).toNat
end U
end Go.X
namespace Go.X
inductive Rch (J:Nat→Nat→Bool) (n s:Nat):Nat→Prop where
  |base:Rch J n s s
  |step {a b:Nat}:Rch J n s a→b<n→J a b=true→Rch J n s b
theorem Rch.lt {J:Nat→Nat→Bool} {n s t:Nat} (hs:s<n) (h:Rch J n s t):t<n:=by
  cases h with
  |base=>exact hs
  |step _ h _=>exact h
theorem Rch.trans {J:Nat→Nat→Bool} {n s t u:Nat} (h1:Rch J n s t) (h2:Rch J n t u):Rch J n s u:=by
  induction h2 with
  |base=>exact h1
  |step _ hb hj ih=>exact .step ih hb hj
theorem Rch.symm {J:Nat→Nat→Bool} {n s t:Nat} (hJ:∀a b,J a b=J b a) (hs:s<n) (h:Rch J n s t):Rch J n t s:=by
  induction h with
  |base=>exact .base
  |step ha hb hj ih=>
    rename_i a b;have:Rch J n b a:= .step .base (ha.lt hs) (by rw[hJ];exact hj);exact this.trans ih
theorem Rch.closed {J:Nat→Nat→Bool} {n s t:Nat} {S:Nat→Prop} (hs:s<n) (h0:S s) (hc:∀a b,a<n→S a→b<n→J a b=true→S b) (h:Rch J n s t):S t:=by
  induction h with
  |base=>exact h0
  |step ha hb hj ih=>exact hc _ _ (ha.lt hs) ih hb hj
namespace U
def jeD (J:Nat→Nat→Bool) (r a:Nat) (out:List Int) (b:Nat):List Int:=if nth out a=(r:Int)∧nth out b<0∧J a b=true then out.set b ((r:Int)+1) else out
def kP (J:Nat→Nat→Bool) (r a:Nat) (out:List Int) (k:Nat):List Int:=(List.range k).foldl (jeD J r a) out
def kj (J:Nat→Nat→Bool) (n r:Nat) (out:List Int) (k:Nat):List Int:=(List.range k).foldl (fun o a=>kP J r a o n) out
def wA (n s:Nat):List Int:=(List.replicate n (-1:Int)).set s 0
def zf (J:Nat→Nat→Bool) (n s k:Nat):List Int:=(List.range k).foldl (fun o r=>kj J n r o n) (wA n s)
def jh9 (J:Nat→Nat→Bool) (q:Nat) (x:List Int×List Int) (b:Nat):List Int×List Int:=if nth x.1 b<0∧J q b=true then(x.1.set b (nth x.1 q+1),x.2++[(b:Int)]) else x
def jia (J:Nat→Nat→Bool) (q:Nat) (x:List Int×List Int) (k:Nat):List Int×List Int:=(List.range k).foldl (jh9 J q) x
def qV (J:Nat→Nat→Bool) (n:Nat) (x:List Int×List Int):List Int×List Int:=match x.2 with
  |[]=>x
  |q::_=>((jia J q.toNat x n).1,(jia J q.toNat x n).2.drop 1)
def vg (J:Nat→Nat→Bool) (n s:Nat):Nat→List Int×List Int
  |0=>(wA n s,[(s:Int)])
  |k+1=>qV J n (vg J n s k)
def jFV (J:Nat→Nat→Bool) (n s:Nat):List Int:=(vg J n s (n+1)).1
end U
theorem jgx (n s:Nat):(U.wA n s).length=n:=by unfold U.wA;simp
theorem jm2 {n s x:Nat} (hs:s<n) (hx:x<n):nth (U.wA n s) x=if s=x then 0 else-1:=by
  unfold U.wA;rw[L.nth_set (by simpa using hs),L.nth_rep hx]
structure jyj (J:Nat→Nat→Bool) (n s r a b:Nat) (out:List Int):Prop where
  len:out.length=n
  val:∀x,x<n→nth out x= -1∨(0≤nth out x∧nth out x≤(r:Int)+1)
  top:(a=0∧b=0)→∀x,x<n→nth out x≤(r:Int)
  zero:0≤nth out s
  rch:∀x,x<n→0≤nth out x→Rch J n s x
  lev:∀x,x<n→0<nth out x→∃y,y<n∧nth out y=nth out x-1
  cls:∀x y,x<n→y<n→0≤nth out x→(nth out x<(r:Int)∨(nth out x=(r:Int)∧(x<a∨(x=a∧y<b))))→J x y=true→0≤nth out y
theorem jAu {J:Nat→Nat→Bool} {n s r a b:Nat} {out:List Int} (hs:s<n) (ha:a<n) (hb:b<n) (h:jyj J n s r a b out):jyj J n s r a (b+1) (U.jeD J r a out b):=by
  unfold U.jeD
  split
  · rename_i hc;obtain⟨c1,c2,c3⟩:=hc;have hbl:b<out.length:=(by rw[h.len];exact hb);have hset:∀j,nth (out.set b ((r:Int)+1)) j=if b=j then(r:Int)+1 else nth out j:=fun j=>L.nth_set hbl
    have hab:b≠a:=fun e=>by subst e;omega
    refine⟨by simpa using h.len,fun x hx=> ?_,fun e=>by omega,?_,fun x hx h0=> ?_,fun x hx h0=> ?_,fun x y hx hy h0 hl hj=> ?_⟩
    · rw[hset];split
      · right;omega
      · exact h.val x hx
    · rw[hset];split
      · omega
      · exact h.zero
    · rw[hset] at h0
      split at h0
      · rename_i e;subst e;exact .step (h.rch a ha (by omega)) hb c3
      · exact h.rch x hx h0
    · rw[hset] at h0⊢
      split at h0
      · rename_i e;subst e;rw[if_pos rfl];exact⟨a,ha,by rw[hset,if_neg hab];omega⟩
      · rename_i e;rw[if_neg e];obtain⟨y,hy,e2⟩:=h.lev x hx h0;refine⟨y,hy,?_⟩;rw[hset,if_neg (fun e=>by subst e;omega)];exact e2
    · rw[hset] at h0 hl⊢
      split
      · omega
      · rename_i hby
        split at h0
        · rename_i e;rw[if_pos e] at hl;omega
        · rename_i e;rw[if_neg e] at hl;refine h.cls x y hx hy h0 ?_ hj;rcases hl with hl|⟨hl,h3|⟨h3,h4⟩⟩
          · exact .inl hl
          · exact .inr ⟨hl,.inl h3⟩
          · exact .inr ⟨hl,.inr ⟨h3,by omega⟩⟩
  · rename_i hc;refine⟨h.len,h.val,fun e=>by omega,h.zero,h.rch,h.lev,fun x y hx hy h0 hl hj=> ?_⟩;rcases hl with hl|⟨hl,h3|⟨h3,h4⟩⟩
    · exact h.cls x y hx hy h0 (.inl hl) hj
    · exact h.cls x y hx hy h0 (.inr ⟨hl,.inl h3⟩) hj
    · by_cases e:y=b
      · subst e;subst h3;rcases Int.lt_or_le (nth out y) 0 with h5|h5
        · exact absurd ⟨hl,h5,hj⟩ hc
        · exact h5
      · exact h.cls x y hx hy h0 (.inr ⟨hl,.inr ⟨h3,by omega⟩⟩) hj
theorem jDf {J:Nat→Nat→Bool} {n s r a:Nat} {out:List Int} (hs:s<n) (ha:a<n) (h:jyj J n s r a 0 out):∀k,k≤n→jyj J n s r a k (U.kP J r a out k)
  |0,_=>h
  |k+1,hk=>by
    have:=jAu hs ha (show k<n by omega) (jDf hs ha h k (by omega))
    unfold U.kP at this⊢
    rw[jHu,jHp];exact this
theorem jEr {J:Nat→Nat→Bool} {n s r a:Nat} {out:List Int} (hn:0<n) (h:jyj J n s r a n out):jyj J n s r (a+1) 0 out:=by
  refine⟨h.len,h.val,fun e=>by omega,h.zero,h.rch,h.lev,fun x y hx hy h0 hl hj=>h.cls x y hx hy h0 ?_ hj⟩;rcases hl with hl|⟨hl,h3|⟨h3,h4⟩⟩
  · exact .inl hl
  · by_cases e:x=a
    · exact .inr ⟨hl,.inr ⟨e,hy⟩⟩
    · exact .inr ⟨hl,.inl (by omega)⟩
  · omega
theorem jDg {J:Nat→Nat→Bool} {n s r:Nat} {out:List Int} (hs:s<n) (h:jyj J n s r 0 0 out):∀k,k≤n→jyj J n s r k 0 (U.kj J n r out k)
  |0,_=>h
  |k+1,hk=>by
    have:=jEr (by omega) (jDf hs (show k<n by omega) (jDg hs h k (by omega)) n (jGU _))
    unfold U.kj at this⊢
    rw[jHu,jHp];exact this
theorem jEq {J:Nat→Nat→Bool} {n s r:Nat} {out:List Int} (h:jyj J n s r n 0 out):jyj J n s (r+1) 0 0 out:=by
  refine⟨h.len,fun x hx=> ?_,fun _ x hx=> ?_,h.zero,h.rch,h.lev,fun x y hx hy h0 hl hj=>h.cls x y hx hy h0 ?_ hj⟩
  · rcases h.val x hx with e|⟨e1,e2⟩
    · exact .inl e
    · exact .inr ⟨e1,by omega⟩
  · rcases h.val x hx with e|⟨e1,e2⟩<;>omega
  · rcases hl with hl|⟨hl,h3|⟨h3,h4⟩⟩
    · by_cases e:nth out x=(r:Int)
      · exact .inr ⟨e,.inl hx⟩
      · exact .inl (by omega)
    · omega
    · omega
theorem jDe {J:Nat→Nat→Bool} {n s:Nat} (hs:s<n):∀k,jyj J n s k 0 0 (U.zf J n s k)
  |0=>by
    have hi:∀x,x<n→nth (U.zf J n s 0) x=if s=x then 0 else-1:=fun x hx=>jm2 hs hx
    refine⟨jgx n s,fun x hx=> ?_,fun _ x hx=> ?_,by rw[hi s hs,if_pos rfl];omega,fun x hx h0=> ?_,fun x hx h0=> ?_,fun x y hx hy h0 hl hj=> ?_⟩
    · rw[hi x hx];split<;>simp
    · rw[hi x hx];split<;>simp
    · rw[hi x hx] at h0
      split at h0
      · rename_i e;subst e;exact .base
      · omega
    · rw[hi x hx] at h0;split at h0<;>omega
    · omega
  |k+1=>by
    have:=jEq (jDg hs (jDe (J:=J) hs k) n (jGU _))
    unfold U.zf at this⊢
    rw[jHu,jHp];exact this
theorem jzV {J:Nat→Nat→Bool} {n s r a b:Nat} {out:List Int} (h:jyj J n s r a b out):∀(k:Nat) x,x<n→nth out x=(k:Int)→∀j,j≤k→∃y,y<n∧nth out y=(j:Int)
  |0,x,hx,e,j,hj=>⟨x,hx,by rw[e];omega⟩
  |k+1,x,hx,e,j,hj=>by
    by_cases hjk:j=k+1
    · exact⟨x,hx,by rw[e];omega⟩
    · obtain⟨y,hy,e2⟩:=h.lev x hx (by omega)
      exact jzV h k y hy (by rw[e2];omega) j (by omega)
theorem jFH {J:Nat→Nat→Bool} {n s x:Nat} (hs:s<n) (hx:x<n):nth (U.zf J n s n) x<0↔¬Rch J n s x:=by
  have h:=jDe (J:=J) hs n;have hlt:∀y,y<n→nth (U.zf J n s n) y<(n:Int):=by
    intro y hy;have h1:=h.top ⟨rfl,rfl⟩ y hy;rcases Int.lt_or_le (nth (U.zf J n s n) y) (n:Int) with h2|h2
    · exact h2
    · exfalso;have e:nth (U.zf J n s n) y=(n:Int):=(by omega);have hall:=jzV h n y hy e;have:=L.nodup_len ((List.range (n+1)).map (fun(j:Nat)=>(j:Int))) (U.zf J n s n) (List.Pairwise.map _ (fun a b hab=>by intro e2;exact hab (by omega)) List.nodup_range) (fun z hz=>by
        obtain⟨j,hj,rfl⟩:=jHs.1 hz;obtain⟨w,hw,e3⟩:=hall j (by have:=jG9.1 hj;omega);rw[←e3];exact L.mem_nth (by rw[h.len];exact hw))
      rw[h.len] at this;simp at this;omega
  constructor
  · intro h0 hr;have:=hr.closed (S:=fun y=>0≤nth (U.zf J n s n) y) hs h.zero (fun a b ha h1 hb hj=>h.cls a b ha hb h1 (.inl (hlt a ha)) hj);have this:0≤nth (U.zf J n s n) x:=this;omega
  · intro hr;rcases Int.lt_or_le (nth (U.zf J n s n) x) 0 with h1|h1
    · exact h1
    · exact absurd (h.rch x hx h1) hr
def jsk (out:List Int):Nat:=out.countP (fun z=>decide (z<0))
theorem jqn:∀{out:List Int} {b:Nat} {v:Int},b<out.length→nth out b<0→0≤v→jsk (out.set b v)+1=jsk out
  |[],b,v,h,_,_=>by simp at h
  |z::r,0,v,_,h1,h2=>by
    have h1:z<0:=h1
    unfold jsk
    rw[List.set_cons_zero,jIg,jIg,if_neg (by simpa using h2),if_pos (by simpa using h1)]
  |z::r,b+1,v,h,h1,h2=>by
    have:=jqn (out:=r) (b:=b) (v:=v) (by simpa using h) h1 h2
    unfold jsk at this⊢
    rw[List.set_cons_succ,jIg,jIg]
    omega
structure jGy (J:Nat→Nat→Bool) (n s:Nat) (ex:Nat→Nat→Prop) (x:List Int×List Int):Prop where
  len:x.1.length=n
  low:∀y,y<n→-1≤nth x.1 y∧nth x.1 y≤(n:Int)*2
  zero:0≤nth x.1 s
  rch:∀y,y<n→0≤nth x.1 y→Rch J n s y
  que:∀q,q∈x.2→0≤q∧q<(n:Int)∧0≤nth x.1 q.toNat
  cls:∀y z,y<n→z<n→0≤nth x.1 y→(y:Int)∉x.2∨ex y z→J y z=true→0≤nth x.1 z
def jtH (n:Nat) (x:List Int×List Int):Prop:=∀y,y<n→nth x.1 y+(jsk x.1:Int)≤(n:Int)-1
theorem jpu (J:Nat→Nat→Bool) (q:Nat) (x:List Int×List Int) (k:Nat):U.jia J q x (k+1)=U.jh9 J q (U.jia J q x k) k:=by
  unfold U.jia;rw[jHu,jHp];rfl
structure InI (J:Nat→Nat→Bool) (n s q k:Nat) (x0 x:List Int×List Int):Prop where
  i:jGy J n s (fun y z=>y=q∧z<k) x
  le:jtH n x
  mu:jsk x.1+x.2.length=jsk x0.1+x0.2.length
  pre:∃l,x.2=x0.2++l
  keep:∀y,y<n→0≤nth x0.1 y→nth x.1 y=nth x0.1 y
theorem jEi {J:Nat→Nat→Bool} {n s q k:Nat} {x0 x:List Int×List Int} (hs:s<n) (hq:q<n) (hq0:0≤nth x0.1 q) (hk:k<n) (h:InI J n s q k x0 x):InI J n s q (k+1) x0 (U.jh9 J q x k):=by
  have hxq:nth x.1 q=nth x0.1 q:=h.keep q hq hq0;unfold U.jh9
  split
  · rename_i hc;obtain⟨c1,c2⟩:=hc;have hkl:k<x.1.length:=(by rw[h.i.len];exact hk);have hset:∀j,nth (x.1.set k (nth x.1 q+1)) j=if k=j then nth x.1 q+1 else nth x.1 j:=fun j=>L.nth_set hkl
    have hng:=jqn (v:=nth x.1 q+1) hkl c1 (by omega);have hql:=h.le q hq;have hkq:k≠q:=fun e=>by subst e;omega
    obtain⟨l,hl⟩:=h.pre;refine⟨⟨by simpa using h.i.len,fun y hy=> ?_,?_,fun y hy h0=> ?_,fun z hz=> ?_,fun y z hy hz h0 hor hj=> ?_⟩,fun y hy=> ?_,?_,⟨l++[(k:Int)],by simp only[hl,jHc]⟩,fun y hy h0=> ?_⟩
    · simp only;rw[hset];split
      · have:=h.i.low q hq;omega
      · exact h.i.low y hy
    · simp only;rw[hset];split
      · omega
      · exact h.i.zero
    · simp only at h0⊢;rw[hset] at h0
      split at h0
      · rename_i e;subst e;exact .step (h.i.rch q hq (by omega)) hk c2
      · exact h.i.rch y hy h0
    · simp only at hz⊢;rcases jG1.1 hz with hz|hz
      · obtain⟨z1,z2,z3⟩:=h.i.que z hz;refine⟨z1,z2,?_⟩;rw[hset];split
        · omega
        · exact z3
      · simp at hz;subst hz;refine⟨by omega,by omega,?_⟩;rw[jGX,hset,if_pos rfl];omega
    · simp only at h0 hor⊢;rw[hset] at h0⊢
      split
      · omega
      · rename_i hkz;by_cases e:k=y
        · subst e;rcases hor with hor|⟨hor,_⟩
          · exact absurd (jGQ _ (by simp)) hor
          · exact absurd hor hkq
        · rw[if_neg e] at h0;refine h.i.cls y z hy hz h0 ?_ hj;rcases hor with hor|⟨h1,h2⟩
          · exact .inl (fun hm=>hor (jGR _ hm))
          · exact .inr ⟨h1,by omega⟩
    · simp only;rw[hset];split
      · omega
      · have:=h.le y hy;omega
    · have:=h.mu;simp only[jHa,jHr,jHI];omega
    · have:=h.keep y hy h0;simp only;rw[hset,if_neg (fun e=>by subst e;omega)];exact this
  · rename_i hc;refine⟨⟨h.i.len,h.i.low,h.i.zero,h.i.rch,h.i.que,fun y z hy hz h0 hor hj=> ?_⟩,h.le,h.mu,h.pre,h.keep⟩;rcases hor with hor|⟨h1,h2⟩
    · exact h.i.cls y z hy hz h0 (.inl hor) hj
    · by_cases e:z=k
      · subst e;subst h1;rcases Int.lt_or_le (nth x.1 z) 0 with h5|h5
        · exact absurd ⟨h5,hj⟩ hc
        · exact h5
      · exact h.i.cls y z hy hz h0 (.inr ⟨h1,by omega⟩) hj
theorem jz8 {J:Nat→Nat→Bool} {n s q:Nat} {x:List Int×List Int} (hs:s<n) (hq:q<n) (hq0:0≤nth x.1 q) (hi:jGy J n s (fun _ _=>False) x) (hle:jtH n x):∀k,k≤n→InI J n s q k x (U.jia J q x k)
  |0,_=>⟨⟨hi.len,hi.low,hi.zero,hi.rch,hi.que,fun y z hy hz h0 hor hj=>hi.cls y z hy hz h0 (by rcases hor with h|⟨_,h⟩;exact .inl h;omega) hj⟩,hle,rfl,⟨[],by simp[U.jia]⟩,fun _ _ _=>rfl⟩
  |k+1,hk=>by rw[jpu];exact jEi hs hq hq0 (by omega) (jz8 hs hq hq0 hi hle k (by omega))
structure jFa (J:Nat→Nat→Bool) (n s:Nat) (x:List Int×List Int):Prop where
  i:jGy J n s (fun _ _=>False) x
  le:jtH n x
theorem jBD {J:Nat→Nat→Bool} {n s:Nat} {x:List Int×List Int} (hs:s<n) (h:jFa J n s x):jFa J n s (U.qV J n x)∧(x.2≠[]→jsk (U.qV J n x).1+(U.qV J n x).2.length+1=jsk x.1+x.2.length):=by
  obtain⟨st,qs⟩:=x;cases qs with
  |nil=>exact⟨h,fun h=>absurd rfl h⟩
  |cons q r=>
    obtain⟨q0,q1,q2⟩:=h.i.que q (by simp);have hi:=jz8 hs (q:=q.toNat) (by omega) q2 h.i h.le n (jGU _);obtain⟨l,hl⟩:=hi.pre;have e2:(U.qV J n (st,q::r))=((U.jia J q.toNat (st,q::r) n).1,r++l):=by
      show((U.jia J q.toNat (st,q::r) n).1,(U.jia J q.toNat (st,q::r) n).2.drop 1)=_;rw[hl];rfl
    rw[e2];have hm:=hi.mu;rw[hl] at hm;refine⟨⟨⟨hi.i.len,hi.i.low,hi.i.zero,hi.i.rch,fun z hz=>hi.i.que z (by rw[hl];simp only at hz⊢;exact jGV _ hz),fun y z hy hz h0 hor hj=> ?_⟩,hi.le⟩,fun _=> ?_⟩
    · rcases hor with hor|hor
      · by_cases e:y=q.toNat
        · exact hi.i.cls y z hy hz h0 (.inr ⟨e,hz⟩) hj
        · refine hi.i.cls y z hy hz h0 (.inl ?_) hj;rw[hl];intro hm;rcases jGS.1 hm with e2|hm
          · omega
          · exact hor hm
      · exact hor.elim
    · simp only[jHi,jHr] at hm⊢;omega
theorem jvO {J:Nat→Nat→Bool} {n s:Nat} (hs:s<n):jFa J n s (U.vg J n s 0)∧jsk (U.vg J n s 0).1+(U.vg J n s 0).2.length=n:=by
  have hi:∀x,x<n→nth (U.wA n s) x=if s=x then 0 else-1:=fun x hx=>jm2 hs hx
  have hn:jsk (U.wA n s)+1=n:=by
    have:=jqn (out:=List.replicate n (-1:Int)) (b:=s) (v:=0) (by simpa using hs) (by rw[L.nth_rep hs];decide) (by decide);unfold U.wA;rw[this];unfold jsk;rw[List.countP_replicate];simp
  refine⟨⟨⟨jgx n s,fun y hy=> ?_,?_,fun y hy h0=> ?_,fun q hq=> ?_,fun y z hy hz h0 hor hj=> ?_⟩,fun y hy=> ?_⟩,?_⟩
  · show-1≤nth (U.wA n s) y∧_;rw[show nth (U.vg J n s 0).1 y=_ from hi y hy,hi y hy];split<;>omega
  · show 0≤nth (U.wA n s) s;rw[hi s hs,if_pos rfl];omega
  · have h0:0≤nth (U.wA n s) y:=h0;rw[hi y hy] at h0
    split at h0
    · rename_i e;subst e;exact .base
    · omega
  · have hq:q∈[(s:Int)]:=hq;simp at hq;subst hq;refine⟨by omega,by omega,?_⟩;show 0≤nth (U.wA n s) (s:Int).toNat;rw[jGX,hi s hs,if_pos rfl];omega
  · have h0:0≤nth (U.wA n s) y:=h0;rw[hi y hy] at h0
    split at h0
    · rename_i e;subst e;rcases hor with hor|hor
      · exact absurd (show(s:Int)∈[(s:Int)] by simp) hor
      · exact hor.elim
    · omega
  · show nth (U.wA n s) y+(jsk (U.wA n s):Int)≤(n:Int)-1;rw[hi y hy];split<;>omega
  · show jsk (U.wA n s)+1=n;exact hn
theorem jl0 {J:Nat→Nat→Bool} {n s:Nat} (hs:s<n):∀k,jFa J n s (U.vg J n s k)∧((U.vg J n s k).2=[]∨jsk (U.vg J n s k).1+(U.vg J n s k).2.length+k=n)
  |0=>⟨(jvO hs).1,.inr (jvO hs).2⟩
  |k+1=>by
    obtain⟨h1,h2⟩:=jl0 hs k
    obtain⟨h3,h4⟩:=jBD hs h1
    refine⟨h3,?_⟩
    by_cases e:(U.vg J n s k).2=[]
    · left
      show(U.qV J n (U.vg J n s k)).2=[]
      unfold U.qV
      split
      · exact e
      · rename_i hq;rw[e] at hq;cases hq
    · right
      have:=h4 e
      rcases h2 with h2|h2
      · exact absurd h2 e
      · show jsk (U.qV J n (U.vg J n s k)).1+(U.qV J n (U.vg J n s k)).2.length+(k+1)=n
        omega
theorem jEN {J:Nat→Nat→Bool} {n s:Nat} (hs:s<n):(U.vg J n s (n+1)).2=[]:=by
  rcases(jl0 (J:=J) hs (n+1)).2 with h|h
  · exact h
  · omega
theorem jCL {J:Nat→Nat→Bool} {n s k:Nat} (h:(U.vg J n s k).2=[]):∀m,k≤m→U.vg J n s m=U.vg J n s k:=by
  intro m hm
  induction m with
  |zero=>have:k=0:=by omega
         subst this;rfl
  |succ m ih=>
    by_cases e:k=m+1
    · rw[e]
    · have e2:=ih (by omega);show U.qV J n (U.vg J n s m)=_;rw[e2];unfold U.qV
      split
      · rfl
      · rename_i hq;rw[h] at hq;cases hq
theorem jFU {J:Nat→Nat→Bool} {n s x:Nat} (hs:s<n) (hx:x<n):nth (U.jFV J n s) x<0↔¬Rch J n s x:=by
  have h:=(jl0 (J:=J) hs (n+1)).1;have he:=jEN (J:=J) hs;constructor
  · intro h0 hr;have:=hr.closed (S:=fun y=>0≤nth (U.jFV J n s) y) hs h.i.zero (fun a b ha h1 hb hj=>h.i.cls a b ha hb h1 (.inl (by rw[he];simp)) hj);have this:0≤nth (U.jFV J n s) x:=this;omega
  · intro hr;rcases Int.lt_or_le (nth (U.jFV J n s) x) 0 with h1|h1
    · exact h1
    · exact absurd (h.i.rch x hx h1) hr
theorem jEp {J:Nat→Nat→Bool} {n a b:Nat} (hJ:∀x y,J x y=J y x) (ha:a<n) (hb:b<n):nth (U.zf J n a n) b<0↔nth (U.jFV J n b) a<0:=by
  rw[jFH ha hb,jFU hb ha];exact not_congr ⟨fun h=>h.symm hJ ha,fun h=>h.symm hJ hb⟩
end Go.X
namespace Go.X
namespace U
def jbv {α:Type} (p:α→Bool) (l:List α):Int:=match l.findIdx? p with|some i=>(i:Int)|none=> -1
def jb {α:Type} (F:α×Unit→Bool×Unit) (g:α):Bool:=(F (g,())).1
end U
def gfb (t:Ty) (σ:St) (s:Nat):(Ty.st [t]).Data→(Ty.st [.bool]).Data:=gfn [t] [.bool] σ s
theorem qr:∀(l:List Prop) {k:Prop},U.jE l→k→asks l k
  |[],_,_,hk=>hk
  |_::r,_,h,hk=>⟨h.1,qr r h.2 hk⟩
theorem qA {α:Type} [Inhabited α] {l:List α} {p:α→Bool} {i:Nat} (h:i<l.length) (h1:∀b:Nat,b<i→p (nth l b)=false) (h2:p (nth l i)=true):U.jbv p l=i:=by
  have:l.findIdx? p=some i:=by
    rw[List.findIdx?_eq_some_iff_getElem];refine⟨h,by rw[←L.nth_lt h];exact h2,fun j hj=> ?_⟩;have:=h1 j hj;rw[L.nth_lt (by omega)] at this;simp[this]
  unfold U.jbv;rw[this]
theorem kU {α:Type} [Inhabited α] {l:List α} {p:α→Bool} {i:Nat} (h:l.length≤i) (h1:∀b:Nat,b<i→p (nth l b)=false):U.jbv p l= -1:=by
  have:l.findIdx? p=none:=by
    rw[List.findIdx?_eq_none_iff];intro x hx;obtain⟨k,hk,rfl⟩:=L.mem_iff.1 hx;exact h1 k (by omega)
  unfold U.jbv;rw[this]
theorem jdY {α:Type} (p:α→Bool) (l:List α):decide (0≤U.jbv p l)=l.any p:=by
  rw[jHk];unfold U.jbv;simp only[decide_eq_true_eq]
  split
  · rename_i i e;rw[List.findIdx?_eq_some_iff_getElem] at e;obtain⟨h,h1,_⟩:=e;exact⟨fun _=>jHz.2 ⟨_,List.getElem_mem h,h1⟩,fun _=>by omega⟩
  · rename_i e;rw[List.findIdx?_eq_none_iff] at e;refine⟨fun h=>by omega,fun h=> ?_⟩;obtain⟨x,hx,h1⟩:=jHz.1 h;have:=e x hx;exact absurd (h1.symm.trans this) (by simp)
theorem jmq {α:Type} (F:α×Unit→Bool×Unit) (l:List α):(!l.any (U.jb fun(x:α×Unit)=>(!U.jb F x.fst,())))=l.all (U.jb F):=by
  induction l with
  |nil=>rfl
  |cons a r ih=>
    simp only[List.any_cons,List.all_cons,Bool.not_or,ih];have:(!U.jb (fun(x:α×Unit)=>(!U.jb F x.fst,())) a)=U.jb F a:=by
      show(!(!U.jb F a))=_;rw[Bool.not_not]
    rw[this]
end Go.X
namespace Go.X
open Go.Proofs
namespace U
def jhQ (s n:Int):Bool:=decide (wX (s/2^n.toNat) 1=1)
def jE6 (b:Bool):Int:=if b=true then 1 else 0
def jsg (c:CrD) (f g:Int→Bool) (p:PeD):Bool:=((((((decide (((lv p).length:Int)=la c)&&(lv p).all f)&&jc (fd p) 0 255)&&jc (cl p) 0 255)&&decide (((zy p).length:Int)≤10))&&(zy p).all g)&&jc (fe p) 0 1000)
end U
def kX:jW:=⟨[.val .int,.val .int,.val .int],[.bool],false,fun _=>[],fun d=>(U.jc d.1 d.2.1 d.2.2.1,())⟩
def jk8:Prop:=∀(d:Int×Int×Int×Unit),(decide (d.2.1≤d.1)&&decide (d.1≤d.2.2.1),())=(U.jc d.1 d.2.1 d.2.2.1,())
theorem jnz:zq (ctx 15 [] []) (fun _=>none) Tryz.f126 (jd Tryz.f126) kX=jk8:=by kernel_rfl
def jaa:jW:=⟨[.val (.uint .u64),.val .int],[.bool],false,fun d=>[0≤d.2.1,d.2.1≤64],fun d=>(U.jhQ d.1 d.2.1,())⟩
def jjj:Prop:=∀(d:Int×Int×Unit),(0:Int)≤d.2.1→d.2.1≤(64:Int)→(0:Int)≤d.2.1∧d.2.1≤(64:Int)∧(decide (wX (d.1/(2:Int)^d.2.1.toNat) (1:Int)=(1:Int)),())=(U.jhQ d.1 d.2.1,())
theorem jk9:zq (ctx 10 [] []) (fun _=>none) Tryz.f190 (jd Tryz.f190) jaa=jjj:=by kernel_rfl
def kZ:jW:=⟨[.val (.uint .u64)],[.int],false,fun d=>[BT.Set' d.1],fun d=>(BT.size d.1,())⟩
def jq1:Ann:=fun r=>match r with
  |1=>some fun σ=>{X:=Int×Int,sl:=fun x=>[(0,.dat (.uint .u64) x.1),(2,.dat .int x.2)],ob:=fun _=>[],inv:=fun x=>BT.Set' x.1∧x.2+BT.size x.1=BT.size (gd (.uint .u64) σ 0),mu:=fun x=>x.1.toNat}
  |_=>none
def jgY:Prop:=∀(d:Int×Unit),BT.Set' d.1→(∃(x:Int×Int),((d.1=x.1∧(0:Int)=x.2∧True)∧True)∧BT.Set' x.1∧x.2+BT.size x.1=BT.size d.1)∧∀(x:Int×Int),BT.Set' x.1∧x.2+BT.size x.1=BT.size d.1→(decide (x.1≠(0:Int))=true→jx (x.2+(1:Int))∧(0:Int)≤x.1-(1:Int)∧x.1-(1:Int)≤(18446744073709551615:Int)∧∃(x':Int×Int),((wX x.1 (x.1-(1:Int))=x'.1∧x.2+(1:Int)=x'.2∧True)∧True)∧(BT.Set' x'.1∧x'.2+BT.size x'.1=BT.size d.1)∧x'.1.toNat<x.1.toNat)∧(decide (x.1≠(0:Int))=false→(x.2,())=(BT.size d.1,()))
theorem jj8:zq (ctx 12 [] []) (jq1) Tryz.f156 (jd Tryz.f156) kZ=jgY:=by kernel_rfl
def jiu:jW:=⟨[.val .bool],[.int],false,fun _=>[],fun d=>(U.jE6 d.1,())⟩
def joz:Prop:=∀(d:Bool×Unit),(d.1=true→((1:Int),())=(U.jE6 d.1,()))∧(d.1=false→((0:Int),())=(U.jE6 d.1,()))
theorem jpE:zq (ctx 4 [] []) (fun _=>none) Tryz.f153 (jd Tryz.f153) jiu=joz:=by kernel_rfl
def qj:jW:=⟨[.val (.slice .int),.fn [.int] [.bool]],[.int],false,fun d=>[∀g∈d.1,U.jE (d.2.1.pre (g,()))],fun d=>(U.jbv (U.jb (α:=Int) d.2.1.F) d.1,())⟩
def jgK:Ann:=fun r=>match r with
  |2=>some fun σ=>{X:=Nat,sl:=fun i=>[(8,.dat .int (i:Int))],ob:=fun _=>[],inv:=fun i=>i≤(gd (.slice .int) σ 0).length∧∀b:Nat,b<i→U.jb (gfb .int σ 1) (nth (gd (.slice .int) σ 0) b)=false,mu:=fun i=>(gd (.slice .int) σ 0).length-i}
  |_=>none
def yV:Prop:=∀(d:List Int×FnD [Ty.int] [Ty.bool]×Unit),(∀(g:Int),g∈d.1→U.jE (d.2.1.1 (g,())))→d.1.length<4611686018427387904→(∃(x:Nat),(((0:Int)=(x:Int)∧True)∧True)∧x≤d.1.length∧∀(b:Nat),b<x→U.jb d.2.1.2 (nth d.1 b)=false)∧∀(x:Nat),(x≤d.1.length∧∀(b:Nat),b<x→U.jb d.2.1.2 (nth d.1 b)=false)→(decide ((x:Int)<(d.1.length:Int))=true→(0:Int)≤(x:Int)∧(x:Int)<(d.1.length:Int)∧asks (d.2.1.1 (nth d.1 (x:Int).toNat,())) (((d.2.1.2 (nth d.1 (x:Int).toNat,())).1=true→((x:Int),())=(U.jbv (U.jb d.2.1.2) d.1,()))∧((d.2.1.2 (nth d.1 (x:Int).toNat,())).1=false→jx ((x:Int)+(1:Int))∧∃(x':Nat),(((x:Int)+(1:Int)=(x':Int)∧True)∧True)∧(x'≤d.1.length∧∀(b:Nat),b<x'→U.jb d.2.1.2 (nth d.1 b)=false)∧d.1.length-x'<d.1.length-x)))∧(decide ((x:Int)<(d.1.length:Int))=false→((-1:Int),())=(U.jbv (U.jb d.2.1.2) d.1,()))
theorem jcL:zq (ctx 19 [] []) (jgK) Tryz.f158 (jd Tryz.f158) qj=yV:=by kernel_rfl
def z7:jW:=⟨[.val (.slice .int),.fn [.int] [.bool]],[.bool],false,fun d=>[∀g∈d.1,U.jE (d.2.1.pre (g,()))],fun d=>(d.1.any (U.jb (α:=Int) d.2.1.F),())⟩
def q8:Prop:=∀(d:List Int×FnD [Ty.int] [Ty.bool]×Unit),(∀(g:Int),g∈d.1→U.jE (d.2.1.1 (g,())))→(∀(g:Int),g∈d.1→U.jE (d.2.1.1 (g,())))∧(decide ((0:Int)≤U.jbv (U.jb d.2.1.2) d.1),())=(d.1.any (U.jb d.2.1.2),())
theorem jat:zq (ctx 9 [(158,qj)] []) (fun _=>none) Tryz.f124 (jd Tryz.f124) z7=q8:=by kernel_rfl
def qk:jW:=⟨[.val (.slice tLw),.fn [tLw] [.bool]],[.int],false,fun d=>[∀g∈d.1,U.jE (d.2.1.pre (g,()))],fun d=>(U.jbv (U.jb (α:=LwD) d.2.1.F) d.1,())⟩
def jgL:Ann:=fun r=>match r with
  |2=>some fun σ=>{X:=Nat,sl:=fun i=>[(8,.dat .int (i:Int))],ob:=fun _=>[],inv:=fun i=>i≤(gd (.slice tLw) σ 0).length∧∀b:Nat,b<i→U.jb (gfb tLw σ 1) (nth (gd (.slice tLw) σ 0) b)=false,mu:=fun i=>(gd (.slice tLw) σ 0).length-i}
  |_=>none
def yX:Prop:=∀(d:List LwD×FnD [tLw] [Ty.bool]×Unit),(∀(g:LwD),g∈d.1→U.jE (d.2.1.1 (g,())))→d.1.length<4611686018427387904→(∃(x:Nat),(((0:Int)=(x:Int)∧True)∧True)∧x≤d.1.length∧∀(b:Nat),b<x→U.jb d.2.1.2 (nth d.1 b)=false)∧∀(x:Nat),(x≤d.1.length∧∀(b:Nat),b<x→U.jb d.2.1.2 (nth d.1 b)=false)→(decide ((x:Int)<(d.1.length:Int))=true→(0:Int)≤(x:Int)∧(x:Int)<(d.1.length:Int)∧asks (d.2.1.1 (nth d.1 (x:Int).toNat,())) (((d.2.1.2 (nth d.1 (x:Int).toNat,())).1=true→((x:Int),())=(U.jbv (U.jb d.2.1.2) d.1,()))∧((d.2.1.2 (nth d.1 (x:Int).toNat,())).1=false→jx ((x:Int)+(1:Int))∧∃(x':Nat),(((x:Int)+(1:Int)=(x':Int)∧True)∧True)∧(x'≤d.1.length∧∀(b:Nat),b<x'→U.jb d.2.1.2 (nth d.1 b)=false)∧d.1.length-x'<d.1.length-x)))∧(decide ((x:Int)<(d.1.length:Int))=false→((-1:Int),())=(U.jbv (U.jb d.2.1.2) d.1,()))
theorem jcM:zq (ctx 19 [] []) (jgL) Tryz.f194 (jd Tryz.f194) qk=yX:=by kernel_rfl
def wq:jW:=⟨[.val (.slice tLw),.fn [tLw] [.bool]],[.bool],false,fun d=>[∀g∈d.1,U.jE (d.2.1.pre (g,()))],fun d=>(d.1.any (U.jb (α:=LwD) d.2.1.F),())⟩
def q9:Prop:=∀(d:List LwD×FnD [tLw] [Ty.bool]×Unit),(∀(g:LwD),g∈d.1→U.jE (d.2.1.1 (g,())))→(∀(g:LwD),g∈d.1→U.jE (d.2.1.1 (g,())))∧(decide ((0:Int)≤U.jbv (U.jb d.2.1.2) d.1),())=(d.1.any (U.jb d.2.1.2),())
theorem jau:zq (ctx 9 [(194,qk)] []) (fun _=>none) Tryz.f162 (jd Tryz.f162) wq=q9:=by kernel_rfl
def wo:jW:=⟨[.val (.slice tPe),.fn [tPe] [.bool]],[.int],false,fun d=>[∀g∈d.1,U.jE (d.2.1.pre (g,()))],fun d=>(U.jbv (U.jb (α:=PeD) d.2.1.F) d.1,())⟩
def jcW:Ann:=fun r=>match r with
  |2=>some fun σ=>{X:=Nat,sl:=fun i=>[(8,.dat .int (i:Int))],ob:=fun _=>[],inv:=fun i=>i≤(gd (.slice tPe) σ 0).length∧∀b:Nat,b<i→U.jb (gfb tPe σ 1) (nth (gd (.slice tPe) σ 0) b)=false,mu:=fun i=>(gd (.slice tPe) σ 0).length-i}
  |_=>none
def q7:Prop:=∀(d:List PeD×FnD [tPe] [Ty.bool]×Unit),(∀(g:PeD),g∈d.1→U.jE (d.2.1.1 (g,())))→d.1.length<4611686018427387904→(∃(x:Nat),(((0:Int)=(x:Int)∧True)∧True)∧x≤d.1.length∧∀(b:Nat),b<x→U.jb d.2.1.2 (nth d.1 b)=false)∧∀(x:Nat),(x≤d.1.length∧∀(b:Nat),b<x→U.jb d.2.1.2 (nth d.1 b)=false)→(decide ((x:Int)<(d.1.length:Int))=true→(0:Int)≤(x:Int)∧(x:Int)<(d.1.length:Int)∧asks (d.2.1.1 (nth d.1 (x:Int).toNat,())) (((d.2.1.2 (nth d.1 (x:Int).toNat,())).1=true→((x:Int),())=(U.jbv (U.jb d.2.1.2) d.1,()))∧((d.2.1.2 (nth d.1 (x:Int).toNat,())).1=false→jx ((x:Int)+(1:Int))∧∃(x':Nat),(((x:Int)+(1:Int)=(x':Int)∧True)∧True)∧(x'≤d.1.length∧∀(b:Nat),b<x'→U.jb d.2.1.2 (nth d.1 b)=false)∧d.1.length-x'<d.1.length-x)))∧(decide ((x:Int)<(d.1.length:Int))=false→((-1:Int),())=(U.jbv (U.jb d.2.1.2) d.1,()))
theorem jas:zq (ctx 19 [] []) (jcW) Tryz.f193 (jd Tryz.f193) wo=q7:=by kernel_rfl
def kr:jW:=⟨[.val (.slice tPe),.fn [tPe] [.bool]],[.bool],false,fun d=>[∀g∈d.1,U.jE (d.2.1.pre (g,()))],fun d=>(d.1.any (U.jb (α:=PeD) d.2.1.F),())⟩
def w7:Prop:=∀(d:List PeD×FnD [tPe] [Ty.bool]×Unit),(∀(g:PeD),g∈d.1→U.jE (d.2.1.1 (g,())))→(∀(g:PeD),g∈d.1→U.jE (d.2.1.1 (g,())))∧(decide ((0:Int)≤U.jbv (U.jb d.2.1.2) d.1),())=(d.1.any (U.jb d.2.1.2),())
theorem yE:zq (ctx 9 [(193,wo)] []) (fun _=>none) Tryz.f160 (jd Tryz.f160) kr=w7:=by kernel_rfl
def yk:jW:=⟨[.val .int,.rfn [.int] [.bool]],[.bool],false,fun d=>[U.jE (d.2.1.pre (d.1,()))],fun d=>(!(U.jb (α:=Int) d.2.1.F d.1),())⟩
def jcm:Prop:=∀(d:Int×FnD [Ty.int] [Ty.bool]×Unit),U.jE (d.2.1.1 (d.1,()))→asks (d.2.1.1 (d.1,())) ((!(d.2.1.2 (d.1,())).1,())=(!U.jb d.2.1.2 d.1,()))
theorem jfz:zq (ctx 8 [] []) (fun _=>none) Tryz.f159 (jd Tryz.f159) yk=jcm:=by kernel_rfl
def jax:jW:=⟨[.val (.slice .int),.fn [.int] [.bool]],[.bool],false,fun d=>[∀g∈d.1,U.jE (d.2.1.pre (g,()))],fun d=>(d.1.all (U.jb (α:=Int) d.2.1.F),())⟩
def je8:Prop:=∀(d:List Int×FnD [Ty.int] [Ty.bool]×Unit),(∀(g:Int),g∈d.1→U.jE (d.2.1.1 (g,())))→(∀(g:Int),g∈d.1→U.jE [U.jE (d.2.1.1 (g,()))])∧(!d.1.any (U.jb fun(x:Int×Unit)=>(!U.jb d.2.1.2 x.1,())),())=(d.1.all (U.jb d.2.1.2),())
theorem jil:zq (ctx 9 [(124,z7),(159,yk)] []) (fun _=>none) Tryz.f129 (jd Tryz.f129) jax=je8:=by kernel_rfl
def yl:jW:=⟨[.val tLw,.rfn [tLw] [.bool]],[.bool],false,fun d=>[U.jE (d.2.1.pre (d.1,()))],fun d=>(!(U.jb (α:=LwD) d.2.1.F d.1),())⟩
def jcn:Prop:=∀(d:LwD×FnD [tLw] [Ty.bool]×Unit),U.jE (d.2.1.1 (d.1,()))→asks (d.2.1.1 (d.1,())) ((!(d.2.1.2 (d.1,())).1,())=(!U.jb d.2.1.2 d.1,()))
theorem jfA:zq (ctx 8 [] []) (fun _=>none) Tryz.f163 (jd Tryz.f163) yl=jcn:=by kernel_rfl
def jay:jW:=⟨[.val (.slice tLw),.fn [tLw] [.bool]],[.bool],false,fun d=>[∀g∈d.1,U.jE (d.2.1.pre (g,()))],fun d=>(d.1.all (U.jb (α:=LwD) d.2.1.F),())⟩
def je9:Prop:=∀(d:List LwD×FnD [tLw] [Ty.bool]×Unit),(∀(g:LwD),g∈d.1→U.jE (d.2.1.1 (g,())))→(∀(g:LwD),g∈d.1→U.jE [U.jE (d.2.1.1 (g,()))])∧(!d.1.any (U.jb fun(x:LwD×Unit)=>(!U.jb d.2.1.2 x.1,())),())=(d.1.all (U.jb d.2.1.2),())
theorem jim:zq (ctx 9 [(162,wq),(163,yl)] []) (fun _=>none) Tryz.f133 (jd Tryz.f133) jay=je9:=by kernel_rfl
def qi:jW:=⟨[.val tPe,.rfn [tPe] [.bool]],[.bool],false,fun d=>[U.jE (d.2.1.pre (d.1,()))],fun d=>(!(U.jb (α:=PeD) d.2.1.F d.1),())⟩
def yT:Prop:=∀(d:PeD×FnD [tPe] [Ty.bool]×Unit),U.jE (d.2.1.1 (d.1,()))→asks (d.2.1.1 (d.1,())) ((!(d.2.1.2 (d.1,())).1,())=(!U.jb d.2.1.2 d.1,()))
theorem jcK:zq (ctx 8 [] []) (fun _=>none) Tryz.f161 (jd Tryz.f161) qi=yT:=by kernel_rfl
def vn:jW:=⟨[.val (.slice tPe),.fn [tPe] [.bool]],[.bool],false,fun d=>[∀g∈d.1,U.jE (d.2.1.pre (g,()))],fun d=>(d.1.all (U.jb (α:=PeD) d.2.1.F),())⟩
def jaN:Prop:=∀(d:List PeD×FnD [tPe] [Ty.bool]×Unit),(∀(g:PeD),g∈d.1→U.jE (d.2.1.1 (g,())))→(∀(g:PeD),g∈d.1→U.jE [U.jE (d.2.1.1 (g,()))])∧(!d.1.any (U.jb fun(x:PeD×Unit)=>(!U.jb d.2.1.2 x.1,())),())=(d.1.all (U.jb d.2.1.2),())
theorem jeO:zq (ctx 9 [(160,kr),(161,qi)] []) (fun _=>none) Tryz.f132 (jd Tryz.f132) vn=jaN:=by kernel_rfl
def jdq:jW:=⟨[.val .int],[.bool],false,fun _=>[],fun d=>(U.jc d.1 0 5,())⟩
def jjo:Prop:=∀(d:Int×Unit),(U.jc d.1 (0:Int) (5:Int),())=(U.jc d.1 (0:Int) (5:Int),())
theorem jle:zq (ctx 5 [(126,kX)] []) (fun _=>none) Tryz.f125 (jd Tryz.f125) jdq=jjo:=by kernel_rfl
def jdp:jW:=⟨[.val .int],[.bool],false,fun _=>[],fun d=>(U.jc d.1 0 99,())⟩
def jjn:Prop:=∀(d:Int×Unit),(U.jc d.1 (0:Int) (99:Int),())=(U.jc d.1 (0:Int) (99:Int),())
theorem jld:zq (ctx 5 [(126,kX)] []) (fun _=>none) Tryz.f127 (jd Tryz.f127) jdp=jjn:=by kernel_rfl
def jdo:jW:=⟨[.val tPe,.ref tCr,.rfn [.int] [.bool],.rfn [.int] [.bool]],[.bool],false,fun d=>[∀g∈U.lv d.1,U.jE (d.2.2.1.pre (g,())),∀g∈U.zy d.1,U.jE (d.2.2.2.1.pre (g,()))],fun d=>(U.jsg d.2.1 (U.jb d.2.2.1.F) (U.jb d.2.2.2.1.F) d.1,())⟩
def jjm:Prop:=∀(d:PeD×CrD×FnD [Ty.int] [Ty.bool]×FnD [Ty.int] [Ty.bool]×Unit),(∀(g:Int),g∈U.lv d.1→U.jE (d.2.2.1.1 (g,())))→(∀(g:Int),g∈U.zy d.1→U.jE (d.2.2.2.1.1 (g,())))→d.1.1.length<4611686018427387904→(decide ((d.1.1.length:Int)=d.2.1.1)=true→∀(g:Int),g∈d.1.1→U.jE (d.2.2.1.1 (g,())))∧(((decide ((d.1.1.length:Int)=d.2.1.1)&&d.1.1.all (U.jb d.2.2.1.2)&&U.jc d.1.2.1 (0:Int) (255:Int)&&U.jc d.1.2.2.1 (0:Int) (255:Int))=true→d.1.2.2.2.1.length<4611686018427387904)→((decide ((d.1.1.length:Int)=d.2.1.1)&&d.1.1.all (U.jb d.2.2.1.2)&&U.jc d.1.2.1 (0:Int) (255:Int)&&U.jc d.1.2.2.1 (0:Int) (255:Int)&&decide ((d.1.2.2.2.1.length:Int)≤(10:Int)))=true→∀(g:Int),g∈d.1.2.2.2.1→U.jE (d.2.2.2.1.1 (g,())))∧(decide ((d.1.1.length:Int)=d.2.1.1)&&d.1.1.all (U.jb d.2.2.1.2)&&U.jc d.1.2.1 (0:Int) (255:Int)&&U.jc d.1.2.2.1 (0:Int) (255:Int)&&decide ((d.1.2.2.2.1.length:Int)≤(10:Int))&&d.1.2.2.2.1.all (U.jb d.2.2.2.1.2)&&U.jc d.1.2.2.2.2.2.1 (0:Int) (1000:Int),())=(U.jsg d.2.1 (U.jb d.2.2.1.2) (U.jb d.2.2.2.1.2) d.1,()))
theorem jlc:zq (ctx 45 [(126,kX),(129,jax)] []) (fun _=>none) Tryz.f128 (jd Tryz.f128) jdo=jjm:=by kernel_rfl
def jdn:jW:=⟨[.val tLw],[.bool],false,fun _=>[],fun d=>(U.ja8 d.1,())⟩
def jjl:Prop:=∀(d:LwD×Unit),(U.jc d.1.1 (1:Int) (5:Int)&&U.jc d.1.2.1 (1:Int) (8:Int),())=(U.ja8 d.1,())
theorem jlb:zq (ctx 11 [(126,kX)] []) (fun _=>none) Tryz.f130 (jd Tryz.f130) jdn=jjl:=by kernel_rfl
def jdm:jW:=⟨[.val .int,.ref tCr],[.bool],false,fun d=>[jx (U.la d.2.1-1)],fun d=>(U.jc d.1 0 (U.la d.2.1-1),())⟩
def jjk:Prop:=∀(d:Int×CrD×Unit),jx (U.la d.2.1-(1:Int))→jx (d.2.1.1-(1:Int))∧(U.jc d.1 (0:Int) (d.2.1.1-(1:Int)),())=(U.jc d.1 (0:Int) (U.la d.2.1-(1:Int)),())
theorem jla:zq (ctx 9 [(126,kX)] []) (fun _=>none) Tryz.f131 (jd Tryz.f131) jdm=jjk:=by kernel_rfl
def jek:jW:=⟨[.val tCr,.val tJb],[.int],false,fun _=>[],fun d=>(U.zS d.1 d.2.1,())⟩
abbrev q22_0 (d:CrD×JbD×Unit):=(!U.jc d.2.1.1 (0:Int) (U.la d.1-(1:Int))|| !U.jc d.2.1.2.1 (0:Int) (U.la d.1-(1:Int))||decide (d.2.1.1=d.2.1.2.1)|| !U.jc d.2.1.2.2.1 (0:Int) (99:Int)|| !U.jc d.2.1.2.2.2.1 (0:Int) (7:Int)|| !U.jc d.2.1.2.2.2.2.1 (0:Int) (3:Int)|| !U.jc d.2.1.2.2.2.2.2.1 (1:Int) (8:Int))
abbrev q22_1 (d:CrD×JbD×Unit):=((8:Int)<(d.1.2.1.length:Int))
abbrev q22_2 (d:CrD×JbD×Unit):=((d.1.2.2.1.length:Int)≠(4:Int))
def joA:Prop:=∀(d:CrD×JbD×Unit),((!!U.jc d.1.1 (2:Int) (5:Int))=true→d.1.2.1.length<4611686018427387904)→((!(!U.jc d.1.1 (2:Int) (5:Int)||decide (q22_1 d)))=true→∀(g:PeD),g∈d.1.2.1→U.jE [∀(g_1:Int),g_1∈U.lv g→U.jE [],∀(g_1:Int),g_1∈U.zy g→U.jE []])∧(((!(!U.jc d.1.1 (2:Int) (5:Int)||decide (q22_1 d)|| !d.1.2.1.all (U.jb fun(x:PeD×Unit)=>(U.jsg d.1 (U.jb fun(x:Int×Unit)=>(U.jc x.1 (0:Int) (5:Int),())) (U.jb fun(x:Int×Unit)=>(U.jc x.1 (0:Int) (99:Int),())) x.1,()))))=true→d.1.2.2.1.length<4611686018427387904)→((!(!U.jc d.1.1 (2:Int) (5:Int)||decide (q22_1 d)|| !d.1.2.1.all (U.jb fun(x:PeD×Unit)=>(U.jsg d.1 (U.jb fun(x:Int×Unit)=>(U.jc x.1 (0:Int) (5:Int),())) (U.jb fun(x:Int×Unit)=>(U.jc x.1 (0:Int) (99:Int),())) x.1,()))||decide (q22_2 d)))=true→∀(g:LwD),g∈d.1.2.2.1→U.jE [])∧((!U.jc d.1.1 (2:Int) (5:Int)||decide (q22_1 d)|| !d.1.2.1.all (U.jb fun(x:PeD×Unit)=>(U.jsg d.1 (U.jb fun(x:Int×Unit)=>(U.jc x.1 (0:Int) (5:Int),())) (U.jb fun(x:Int×Unit)=>(U.jc x.1 (0:Int) (99:Int),())) x.1,()))||decide (q22_2 d)|| !d.1.2.2.1.all (U.jb fun(x:LwD×Unit)=>(U.ja8 x.1,())))=true→((30:Int),())=(U.zS d.1 d.2.1,()))∧((!U.jc d.1.1 (2:Int) (5:Int)||decide (q22_1 d)|| !d.1.2.1.all (U.jb fun(x:PeD×Unit)=>(U.jsg d.1 (U.jb fun(x:Int×Unit)=>(U.jc x.1 (0:Int) (5:Int),())) (U.jb fun(x:Int×Unit)=>(U.jc x.1 (0:Int) (99:Int),())) x.1,()))||decide (q22_2 d)|| !d.1.2.2.1.all (U.jb fun(x:LwD×Unit)=>(U.ja8 x.1,())))=false→jx (U.la d.1-(1:Int))∧((!!U.jc d.2.1.1 (0:Int) (U.la d.1-(1:Int)))=true→jx (U.la d.1-(1:Int)))∧((q22_0 d)=true→((31:Int),())=(U.zS d.1 d.2.1,()))∧((q22_0 d)=false→((0:Int),())=(U.zS d.1 d.2.1,()))))
theorem jpF:zq (ctx 88 [(126,kX),(132,vn),(133,jay),(125,jdq),(127,jdp),(128,jdo),(130,jdn),(131,jdm)] []) (fun _=>none) Tryz.f85 (jd Tryz.f85) jek=joA:=by kernel_rfl
end Go.X
namespace Go.X
open Go.Proofs
theorem jxk:jk8:=by
  intro d;rfl
theorem qn:ze PR 126 kX:=zv (jnz.mpr jxk) Tryz.func126 (by kernel_rfl) (by kernel_rfl) (by kernel_rfl) (by kernel_rfl) trivial trivial
theorem juw:jjj:=by
  intro d h1 h2;exact⟨h1,h2,rfl⟩
theorem jr0:ze PR 190 jaa:=zv (jk9.mpr juw) Tryz.func190 (by kernel_rfl) (by kernel_rfl) (by kernel_rfl) (by kernel_rfl) trivial trivial
theorem jsw:jgY:=by
  rintro⟨s,⟨⟩⟩ hs;refine⟨⟨(s,0),⟨⟨rfl,rfl,trivial⟩,trivial⟩,hs,by simp⟩,?_⟩;rintro⟨x,n⟩ ⟨hx,hn⟩;have hx:BT.Set' x:=hx;have hz:=BT.size_le s;have hzx:=BT.size_le x;refine⟨fun h=> ?_,fun h=> ?_⟩
  · have h:x≠0:=of_decide_eq_true h;obtain⟨q1,q2,q3⟩:=BT.pred hx h;have hx2:=hx;unfold BT.Set' at hx2;simp only at hn⊢;exact⟨L.in64 (by omega) (by omega),by omega,by omega,(wX x (x-1),n+1),⟨⟨rfl,rfl,trivial⟩,trivial⟩,⟨q1,(by omega:n+1+BT.size (wX x (x-1))=BT.size s)⟩,(by unfold BT.Set' at q1;omega:(wX x (x-1)).toNat<x.toNat)⟩
  · have h:x=0:=(by simpa using h);subst h;simp only[BT.size_zero] at hn;simp only at hn⊢;rw[show n=BT.size s by omega]
theorem jqe:ze PR 156 kZ:=zv (jj8.mpr jsw) Tryz.func156 (by kernel_rfl) (by kernel_rfl) (by kernel_rfl) (by kernel_rfl) trivial trivial
theorem jAc:joz:=by
  rintro⟨b,⟨⟩⟩;exact⟨fun h=>by simp only at h;subst h;rfl,fun h=>by simp only at h;subst h;rfl⟩
theorem jw1:ze PR 153 jiu:=zv (jpE.mpr jAc) Tryz.func153 (by kernel_rfl) (by kernel_rfl) (by kernel_rfl) (by kernel_rfl) trivial trivial
theorem jhT:yV:=by
  rintro⟨l,f,⟨⟩⟩ hpre hl;refine⟨⟨0,⟨⟨rfl,trivial⟩,trivial⟩,jG2 _,fun b hb=>by omega⟩,fun i hi=>⟨fun h=> ?_,fun h=> ?_⟩⟩
  · have h:i<l.length:=(by simpa using h);simp only[jGX] at*;refine⟨by omega,by omega,qr _ (hpre _ (L.mem_nth h)) ⟨fun hb=> ?_,fun hb=>⟨L.in64 (by omega) (by omega),i+1,⟨⟨by simp,trivial⟩,trivial⟩,⟨by omega,fun b hb'=> ?_⟩,by omega⟩⟩⟩
    · rw[qA (p:=U.jb (α:=Int) f.F) h hi.2 hb]
    · by_cases e:b=i
      · subst e;exact hb
      · exact hi.2 b (by omega)
  · have h:l.length≤i:=(by simpa using h);rw[kU (p:=U.jb (α:=Int) f.F) h hi.2]
theorem jgd:ze PR 158 qj:=zv (jcL.mpr jhT) Tryz.func158 (by kernel_rfl) (by kernel_rfl) (by kernel_rfl) (by kernel_rfl) trivial trivial
theorem jd0:q8:=by
  rintro⟨l,f,⟨⟩⟩ hpre;refine⟨hpre,?_⟩;exact congrArg (·,()) (jdY (U.jb (α:=Int) f.F) l)
theorem ve:ze PR 124 z7:=zv (jat.mpr jd0) Tryz.func124 (by kernel_rfl) (by kernel_rfl) (by kernel_rfl) (by kernel_rfl) ⟨fun _=>jgd,trivial⟩ trivial
theorem jhU:yX:=by
  rintro⟨l,f,⟨⟩⟩ hpre hl;refine⟨⟨0,⟨⟨rfl,trivial⟩,trivial⟩,jG2 _,fun b hb=>by omega⟩,fun i hi=>⟨fun h=> ?_,fun h=> ?_⟩⟩
  · have h:i<l.length:=(by simpa using h);simp only[jGX] at*;refine⟨by omega,by omega,qr _ (hpre _ (L.mem_nth h)) ⟨fun hb=> ?_,fun hb=>⟨L.in64 (by omega) (by omega),i+1,⟨⟨by simp,trivial⟩,trivial⟩,⟨by omega,fun b hb'=> ?_⟩,by omega⟩⟩⟩
    · rw[qA (p:=U.jb (α:=LwD) f.F) h hi.2 hb]
    · by_cases e:b=i
      · subst e;exact hb
      · exact hi.2 b (by omega)
  · have h:l.length≤i:=(by simpa using h);rw[kU (p:=U.jb (α:=LwD) f.F) h hi.2]
theorem jge:ze PR 194 qk:=zv (jcM.mpr jhU) Tryz.func194 (by kernel_rfl) (by kernel_rfl) (by kernel_rfl) (by kernel_rfl) trivial trivial
theorem jd1:q9:=by
  rintro⟨l,f,⟨⟩⟩ hpre;refine⟨hpre,?_⟩;exact congrArg (·,()) (jdY (U.jb (α:=LwD) f.F) l)
theorem jcQ:ze PR 162 wq:=zv (jau.mpr jd1) Tryz.func162 (by kernel_rfl) (by kernel_rfl) (by kernel_rfl) (by kernel_rfl) ⟨fun _=>jge,trivial⟩ trivial
theorem jdZ:q7:=by
  rintro⟨l,f,⟨⟩⟩ hpre hl;refine⟨⟨0,⟨⟨rfl,trivial⟩,trivial⟩,jG2 _,fun b hb=>by omega⟩,fun i hi=>⟨fun h=> ?_,fun h=> ?_⟩⟩
  · have h:i<l.length:=(by simpa using h);simp only[jGX] at*;refine⟨by omega,by omega,qr _ (hpre _ (L.mem_nth h)) ⟨fun hb=> ?_,fun hb=>⟨L.in64 (by omega) (by omega),i+1,⟨⟨by simp,trivial⟩,trivial⟩,⟨by omega,fun b hb'=> ?_⟩,by omega⟩⟩⟩
    · rw[qA (p:=U.jb (α:=PeD) f.F) h hi.2 hb]
    · by_cases e:b=i
      · subst e;exact hb
      · exact hi.2 b (by omega)
  · have h:l.length≤i:=(by simpa using h);rw[kU (p:=U.jb (α:=PeD) f.F) h hi.2]
theorem jcP:ze PR 193 wo:=zv (jas.mpr jdZ) Tryz.func193 (by kernel_rfl) (by kernel_rfl) (by kernel_rfl) (by kernel_rfl) trivial trivial
theorem jbj:w7:=by
  rintro⟨l,f,⟨⟩⟩ hpre;refine⟨hpre,?_⟩;exact congrArg (·,()) (jdY (U.jb (α:=PeD) f.F) l)
theorem jaF:ze PR 160 kr:=zv (yE.mpr jbj) Tryz.func160 (by kernel_rfl) (by kernel_rfl) (by kernel_rfl) (by kernel_rfl) ⟨fun _=>jcP,trivial⟩ trivial
theorem jmK:jcm:=by
  intro d h;exact qr _ h rfl
theorem jko:ze PR 159 yk:=zv (jfz.mpr jmK) Tryz.func159 (by kernel_rfl) (by kernel_rfl) (by kernel_rfl) (by kernel_rfl) trivial trivial
theorem jqA:je8:=by
  intro d h;exact⟨fun g hg=>⟨h g hg,trivial⟩,congrArg (·,()) (jmq d.snd.fst.2 d.fst)⟩
theorem jnY:ze PR 129 jax:=zv (jil.mpr jqA) Tryz.func129 (by kernel_rfl) (by kernel_rfl) (by kernel_rfl) (by kernel_rfl) ⟨fun _=>ve,fun _=>jko,trivial⟩ trivial
theorem jmL:jcn:=by
  intro d h;exact qr _ h rfl
theorem jkp:ze PR 163 yl:=zv (jfA.mpr jmL) Tryz.func163 (by kernel_rfl) (by kernel_rfl) (by kernel_rfl) (by kernel_rfl) trivial trivial
theorem jqB:je9:=by
  intro d h;exact⟨fun g hg=>⟨h g hg,trivial⟩,congrArg (·,()) (jmq d.snd.fst.2 d.fst)⟩
theorem jnZ:ze PR 133 jay:=zv (jim.mpr jqB) Tryz.func133 (by kernel_rfl) (by kernel_rfl) (by kernel_rfl) (by kernel_rfl) ⟨fun _=>jcQ,fun _=>jkp,trivial⟩ trivial
theorem jhS:yT:=by
  intro d h;exact qr _ h rfl
theorem jgc:ze PR 161 qi:=zv (jcK.mpr jhS) Tryz.func161 (by kernel_rfl) (by kernel_rfl) (by kernel_rfl) (by kernel_rfl) trivial trivial
theorem jkx:jaN:=by
  intro d h;exact⟨fun g hg=>⟨h g hg,trivial⟩,congrArg (·,()) (jmq d.snd.fst.2 d.fst)⟩
theorem jiK:ze PR 132 vn:=zv (jeO.mpr jkx) Tryz.func132 (by kernel_rfl) (by kernel_rfl) (by kernel_rfl) (by kernel_rfl) ⟨fun _=>jaF,fun _=>jgc,trivial⟩ trivial
theorem juB:jjo:=fun _=>rfl
theorem jr6:ze PR 125 jdq:=zv (jle.mpr juB) Tryz.func125 (by kernel_rfl) (by kernel_rfl) (by kernel_rfl) (by kernel_rfl) ⟨fun _=>qn,trivial⟩ trivial
theorem juA:jjn:=fun _=>rfl
theorem jr5:ze PR 127 jdp:=zv (jld.mpr juA) Tryz.func127 (by kernel_rfl) (by kernel_rfl) (by kernel_rfl) (by kernel_rfl) ⟨fun _=>qn,trivial⟩ trivial
theorem juz:jjm:=by
  rintro⟨p,c,f,g,⟨⟩⟩ h1 h2 _;exact⟨fun _=>h1,fun _=>⟨fun _=>h2,rfl⟩⟩
theorem jr4:ze PR 128 jdo:=zv (jlc.mpr juz) Tryz.func128 (by kernel_rfl) (by kernel_rfl) (by kernel_rfl) (by kernel_rfl) ⟨fun _=>qn,fun _=>jnY,trivial⟩ trivial
theorem juy:jjl:=fun _=>rfl
theorem jr3:ze PR 130 jdn:=zv (jlb.mpr juy) Tryz.func130 (by kernel_rfl) (by kernel_rfl) (by kernel_rfl) (by kernel_rfl) ⟨fun _=>qn,trivial⟩ trivial
theorem jux:jjk:=fun _ h=>⟨h,rfl⟩
theorem jr2:ze PR 131 jdm:=zv (jla.mpr jux) Tryz.func131 (by kernel_rfl) (by kernel_rfl) (by kernel_rfl) (by kernel_rfl) ⟨fun _=>qn,trivial⟩ trivial
theorem jD3 (c:CrD) (p:PeD):U.jsg c (fun x=>U.jc x 0 5) (fun x=>U.jc x 0 99) p=U.jaG (U.la c) p:=by
  rw[jHk];simp only[U.jsg,U.jaG,U.jc,jGT,decide_eq_true_eq];constructor
  · rintro⟨⟨⟨⟨⟨⟨h1,h2⟩,h3⟩,h4⟩,h5⟩,h6⟩,h7⟩;exact⟨⟨h1,h3.1,h3.2,h4.1,h4.2,by omega,h7.1,h7.2⟩,h2,h6⟩
  · rintro⟨⟨h1,h3,h3',h4,h4',h5,h7,h7'⟩,h2,h6⟩;exact⟨⟨⟨⟨⟨⟨h1,h2⟩,h3,h3'⟩,h4,h4'⟩,by omega⟩,h6⟩,h7,h7'⟩
theorem jEx (c:CrD):(((((!U.jc c.1 2 5||decide (8<((c.2.1.length:Nat):Int)))|| !c.2.1.all (U.jaG (U.la c)))||decide (((c.2.2.1.length:Nat):Int)≠4))|| !c.2.2.1.all U.ja8))= !U.jq c:=by
  unfold U.jq;show _= !(decide (2≤c.1∧c.1≤5∧c.2.1.length≤8∧c.2.2.1.length=4)&&(c.2.1.all (U.jaG (U.la c))&&c.2.2.1.all U.ja8));cases c.2.1.all (U.jaG (U.la c))<;>cases c.2.2.1.all U.ja8<;>simp only[U.jc,Bool.not_true,Bool.not_false,Bool.or_true,Bool.or_false,Bool.and_true,Bool.and_false,Bool.true_or]
  rw[jHk];simp only[jHY,jHt,Bool.and_eq_false_iff,decide_eq_true_eq,decide_eq_false_iff_not];omega
theorem jFx (c:CrD) (j:JbD):((((((!U.jc j.1 0 (U.la c-1)|| !U.jc j.2.1 0 (U.la c-1))||decide (j.1=j.2.1))|| !U.jc j.2.2.1 0 99)|| !U.jc j.2.2.2.1 0 7)|| !U.jc j.2.2.2.2.1 0 3)|| !U.jc j.2.2.2.2.2.1 1 8)= !U.jU c j:=by
  have key:(U.jU c j=false)↔¬(0≤j.1∧j.1≤U.la c-1∧0≤j.2.1∧j.2.1≤U.la c-1∧j.1≠j.2.1∧0≤j.2.2.1∧j.2.2.1≤99∧0≤j.2.2.2.1∧j.2.2.2.1≤7∧0≤j.2.2.2.2.1∧j.2.2.2.2.1≤3∧1≤j.2.2.2.2.2.1∧j.2.2.2.2.2.1≤8):=by
    unfold U.jU;exact decide_eq_false_iff_not
  rw[jHk,jHt,key];simp only[U.jc,jHY,jHt,Bool.and_eq_false_iff,decide_eq_true_eq,decide_eq_false_iff_not];omega
theorem jAd:joA:=by
  unfold joA q22_2 q22_1 q22_0;rintro⟨c,j,⟨⟩⟩;have e1:∀p,U.jb (fun(x:PeD×Unit)=>(U.jsg c (U.jb fun(x:Int×Unit)=>(U.jc x.fst 0 5,())) (U.jb fun(x:Int×Unit)=>(U.jc x.fst 0 99,())) x.fst,())) p=U.jaG (U.la c) p:=fun p=>jD3 c p
  have e2:(U.jb fun(x:LwD×Unit)=>(U.ja8 x.fst,()))=U.ja8:=rfl;have hc:=jEx c;have hj:=jFx c j;intro _;refine⟨fun _ g _=>⟨fun _ _=>trivial,fun _ _=>trivial,trivial⟩,fun _=> ?_⟩;simp only at hc hj⊢;rw[funext e1,e2,hc,hj];refine⟨fun _ _ _=>trivial,fun h=> ?_,fun h=> ?_⟩
  · have h:U.jq c=false:=(by simpa using h);unfold U.zS;rw[if_pos h]
  · have h:U.jq c=true:=(by simpa using h);have hl:2≤U.la c∧U.la c≤5:=by
      unfold U.jq at h;simp only[jGT,decide_eq_true_eq] at h;exact⟨h.1.1,h.1.2.1⟩
    have h64:jx (U.la c-1):=L.in64 (by omega) (by omega);refine⟨h64,fun _=>h64,fun h2=> ?_,fun h2=> ?_⟩
    · have h2:U.jU c j=false:=(by simpa using h2);unfold U.zS;rw[if_neg (by rw[h];simp),if_pos h2]
    · have h2:U.jU c j=true:=(by simpa using h2);unfold U.zS;rw[if_neg (by rw[h];simp),if_neg (by rw[h2];simp)]
theorem joV:ze PR 85 jek:=zv (jpF.mpr jAd) Tryz.func85 (by kernel_rfl) (by kernel_rfl) (by kernel_rfl) (by kernel_rfl) ⟨fun _=>qn,fun _=>jiK,fun _=>jnZ,fun _=>jr6,fun _=>jr5,fun _=>jr4,fun _=>jr3,fun _=>jr2,trivial⟩ trivial
end Go.X
namespace Go.X
open Go.Proofs
abbrev tTk:Ty:= .st [tCr,tJb,tLw]
abbrev TkD:Type:=CrD×JbD×LwD×Unit
namespace U
def tk (o:Option TkD):TkD:=jY (Ty.dflt tTk) o
def tc (t:TkD):CrD:=t.1
def tj (t:TkD):JbD:=t.2.1
def tl (t:TkD):LwD:=t.2.2.1
def joU (c:CrD) (j:JbD):Option TkD:=if zS c j=0 then some (c,j,gK c j,()) else none
def gw (t:TkD):Prop:=jq (tc t)=true∧jU (tc t) (tj t)=true∧tl t=gK (tc t) (tj t)
def jwN (a b c:Bool):Int:=jE6 a+2*jE6 b+4*jE6 c
def kL (t:TkD) (p:PeD):Int:=jwN (jbH p (jBl (tj t))) (!kf (fd p) (jut (tj t))) (!kf (cl p) (jtv (tj t)))
def jhK (t:TkD) (p:PeD):List (Int×Int):=[(0,jE6 (!jbH p (jBl (tj t)))),(1,ya (fd p/2^(jut (tj t)).toNat) 1),(2,ya (cl p/2^(jtv (tj t)).toNat) 1)]
def yc (all left:List (Int×Int)) (out:Int):Prop:=BT.Set' out∧left.Nodup∧(∀e∈left,e∈all)∧∀p:Nat,BT.has out p=true↔∃e∈all,e∉left∧e.2=0∧e.1.toNat=p
def wJ (t:TkD) (s:Int) (n:Nat):List (Int×PeD×Unit):=((List.range n).filter (fun(i:Nat)=>jhQ s (i:Int))).map (fun(i:Nat)=>((i:Int),nth (ji (tc t)) i,()))
def jjR (t:TkD) (s:Int):List (Int×PeD×Unit):=wJ t s (ji (tc t)).length
def jn (t:TkD) (a b:Int) (x:Int×PeD×Unit):Bool:=decide (jyg (tl t)≤min (nth (lv x.2.1) a.toNat) (nth (lv x.2.1) b.toNat))
def jdV (t:TkD) (s a b:Int):Bool:=(jjR t s).any (jn t a b)
def qR (t:TkD) (a b:Int) (q:List (Int×PeD×Unit)):Bool:=match q.getLast? with|some x=>jn t a b x|none=>false
end U
def y8:jW:=⟨[.val (.slice .int),.val .int],[.int],false,fun _=>[],fun d=>(U.jbv (fun x=>decide (x=d.2.1)) d.1,())⟩
def jno:Ann:=fun r=>match r with
  |2=>some fun σ=>{X:=Nat,sl:=fun i=>[(8,.dat .int (i:Int))],ob:=fun _=>[],inv:=fun i=>i≤(gd (.slice .int) σ 0).length∧∀b:Nat,b<i→decide (nth (gd (.slice .int) σ 0) b=gd .int σ 1)=false,mu:=fun i=>(gd (.slice .int) σ 0).length-i}
  |_=>none
def jc6:Prop:=∀(d:List Int×Int×Unit),d.1.length<4611686018427387904→(∃(x:Nat),(((0:Int)=(x:Int)∧True)∧True)∧x≤d.1.length∧∀(b:Nat),b<x→decide (nth d.1 b=d.2.1)=false)∧∀(x:Nat),(x≤d.1.length∧∀(b:Nat),b<x→decide (nth d.1 b=d.2.1)=false)→(decide ((x:Int)<(d.1.length:Int))=true→(0:Int)≤(x:Int)∧(x:Int)<(d.1.length:Int)∧(decide (d.2.1=nth d.1 (x:Int).toNat)=true→((x:Int),())=(U.jbv (fun(x:Int)=>decide (x=d.2.1)) d.1,()))∧(decide (d.2.1=nth d.1 (x:Int).toNat)=false→jx ((x:Int)+(1:Int))∧∃(x':Nat),(((x:Int)+(1:Int)=(x':Int)∧True)∧True)∧(x'≤d.1.length∧∀(b:Nat),b<x'→decide (nth d.1 b=d.2.1)=false)∧d.1.length-x'<d.1.length-x))∧(decide ((x:Int)<(d.1.length:Int))=false→((-1:Int),())=(U.jbv (fun(x:Int)=>decide (x=d.2.1)) d.1,()))
theorem jgZ:zq (ctx 19 [] []) (jno) Tryz.f145 (jd Tryz.f145) y8=jc6:=by kernel_rfl
def ww:jW:=⟨[.val (.slice .int),.val .int],[.bool],false,fun _=>[],fun d=>(d.1.any (fun x=>decide (x=d.2.1)),())⟩
def gQ:Prop:=∀(d:List Int×Int×Unit),(decide ((0:Int)≤U.jbv (fun(x:Int)=>decide (x=d.2.1)) d.1),())=(d.1.any fun(x:Int)=>decide (x=d.2.1),())
theorem jc7:zq (ctx 9 [(145,y8)] []) (fun _=>none) Tryz.f105 (jd Tryz.f105) ww=gQ:=by kernel_rfl
def jhg:jW:=⟨[.val tCr,.val tJb],[.ptr tTk,.int],false,fun _=>[],fun d=>(U.joU d.1 d.2.1,U.zS d.1 d.2.1,())⟩
def jrl:Prop:=∀(d:CrD×JbD×Unit),(decide (U.zS d.1 d.2.1≠(0:Int))=true→(none,U.zS d.1 d.2.1,())=(U.joU d.1 d.2.1,U.zS d.1 d.2.1,()))∧(decide (U.zS d.1 d.2.1≠(0:Int))=false→(0:Int)≤d.2.1.2.2.2.2.1∧d.2.1.2.2.2.2.1<(d.1.2.2.1.length:Int)∧(some (d.1,d.2.1,nth d.1.2.2.1 d.2.1.2.2.2.2.1.toNat,()),(0:Int),())=(U.joU d.1 d.2.1,U.zS d.1 d.2.1,()))
theorem jrk:zq (ctx 23 [(85,jek)] []) (fun _=>none) Tryz.f117 (jd Tryz.f117) jhg=jrl:=by kernel_rfl
def LM (d:PD [.ref (.ptr tTk),.ref (.uint .u64)]) (xs:List (Ty.st [.int,tPe]).Data):Prop:=xs=U.jjR (U.tk d.1) d.2.1
def jx9 (d:PD [.ref (.ptr tTk),.ref (.uint .u64)]):jk0 (YS [.int,tPe]):=fun r=>match r with
  |1=>some fun σ ys=>{X:=Nat,sl:=fun i=>[(12,.dat .int (i:Int))],ob:=fun _=>[],ys:=fun i=>(U.wJ (U.tk d.1) d.2.1 i,true),inv:=fun i=>i≤(U.ji (U.tc (U.tk d.1))).length,mu:=fun i=>(U.ji (U.tc (U.tk d.1))).length-i}
  |_=>none
abbrev q26_0:=((0:Int),(0:Int),(0:Int),(0:Int),(0:Int),(0:Int),())
abbrev q26_1:=((0:Int),(0:Int),false,())
abbrev q26_2 (d:Option (CrD×JbD×LwD×Unit)×Int×Unit):=(U.ji (U.tc (U.tk d.1)))
abbrev q26_3 (x:Nat)(x':Nat):=(((x:Int)+(1:Int)=(x':Int)∧True)∧True)
def yS:Prop:=∀(d:Option (CrD×JbD×LwD×Unit)×Int×Unit) (l:Nat),d.1.isSome=true→(q26_2 d).length≤60→d.1.isSome=true∧((jY (((0:Int),[],[],()),q26_0,q26_1,()) d.1).1.2.1.length<4611686018427387904→(∃(x:Nat),(((0:Int)=(x:Int)∧True)∧True)∧([],true)=(U.wJ (U.tk d.1) d.2.1 x,true)∧x≤(q26_2 d).length)∧∀(x:Nat),x≤(q26_2 d).length→(decide ((x:Int)<(↑(jY (((0:Int),[],[],()),q26_0,q26_1,()) d.1).1.2.1.length:Int))=true→(0:Int)≤(x:Int)∧(x:Int)<(↑(jY (((0:Int),[],[],()),q26_0,q26_1,()) d.1).1.2.1.length:Int)∧(0:Int)≤(x:Int)∧(x:Int)≤(64:Int)∧(U.jhQ d.2.1 (x:Int)=true→l=l∧(∃(rest:List (Int×PeD×Unit)),U.wJ (U.tk d.1) d.2.1 x++[((x:Int),nth (jY (((0:Int),[],[],()),q26_0,q26_1,()) d.1).1.2.1 (x:Int).toNat,())]++rest=U.jjR (U.tk d.1) d.2.1)∧(((U.jhQ d.2.1 (x:Int)&& !true)=true→true=true→U.wJ (U.tk d.1) d.2.1 x++[((x:Int),nth (jY (((0:Int),[],[],()),q26_0,q26_1,()) d.1).1.2.1 (x:Int).toNat,())]=U.jjR (U.tk d.1) d.2.1)∧((U.jhQ d.2.1 (x:Int)&& !true)=false→jx ((x:Int)+(1:Int))∧∃(x':Nat),(q26_3 x x')∧(U.wJ (U.tk d.1) d.2.1 x++[((x:Int),nth (jY (((0:Int),[],[],()),q26_0,q26_1,()) d.1).1.2.1 (x:Int).toNat,())],true)=(U.wJ (U.tk d.1) d.2.1 x',true)∧x'≤(q26_2 d).length∧(q26_2 d).length-x'<(q26_2 d).length-x))∧((U.jhQ d.2.1 (x:Int)&& !false)=true→false=true→U.wJ (U.tk d.1) d.2.1 x++[((x:Int),nth (jY (((0:Int),[],[],()),q26_0,q26_1,()) d.1).1.2.1 (x:Int).toNat,())]=U.jjR (U.tk d.1) d.2.1)∧((U.jhQ d.2.1 (x:Int)&& !false)=false→jx ((x:Int)+(1:Int))∧∃(x':Nat),(q26_3 x x')∧(U.wJ (U.tk d.1) d.2.1 x++[((x:Int),nth (jY (((0:Int),[],[],()),q26_0,q26_1,()) d.1).1.2.1 (x:Int).toNat,())],false)=(U.wJ (U.tk d.1) d.2.1 x',true)∧x'≤(q26_2 d).length∧(q26_2 d).length-x'<(q26_2 d).length-x))∧(U.jhQ d.2.1 (x:Int)=false→((U.jhQ d.2.1 (x:Int)&& !false)=true→true=true→U.wJ (U.tk d.1) d.2.1 x=U.jjR (U.tk d.1) d.2.1)∧((U.jhQ d.2.1 (x:Int)&& !false)=false→jx ((x:Int)+(1:Int))∧∃(x':Nat),(q26_3 x x')∧(U.wJ (U.tk d.1) d.2.1 x,true)=(U.wJ (U.tk d.1) d.2.1 x',true)∧x'≤(q26_2 d).length∧(q26_2 d).length-x'<(q26_2 d).length-x)))∧(decide ((x:Int)<(↑(jY (((0:Int),[],[],()),q26_0,q26_1,()) d.1).1.2.1.length:Int))=false→true=true→U.wJ (U.tk d.1) d.2.1 x=U.jjR (U.tk d.1) d.2.1))
theorem jcJ:(jBy (ctx 28 [(190,jaa)] []) (jd Tryz.f189) [.int,tPe] [.ref (.ptr tTk),.ref (.uint .u64)] LM (fun d=>[d.1.isSome=true,(U.ji (U.tc (U.tk d.1))).length≤60]) (fun d _=>jx9 d) (fun d l=>hkY [.int,tPe] l [24] (fun q=>∃rest,LM d (q++rest)) (fun _=>none)))=yS:=by kernel_rfl
def jJ:jgQ:=⟨[.val (.ptr tTk),.val (.uint .u64)],fun _=>[],189,[.ptr tTk,.uint .u64],fun d=>(d.1,d.2.1,())⟩
def jaM:Prop:=∀(d:Option (CrD×JbD×LwD×Unit)×Int×Unit),d=d
theorem jeN:(jAX (ctx 6 [] []) (fun _=>none) Tryz.f155 (jd Tryz.f155) jJ)=jaM:=by kernel_rfl
def jv6 (sv:SV):Option (Prop×(List (Ty.st [.int,tPe]).Data→Prop)):=match sv with
  | .clo 189 [.ep T1 t,.ep T2 s]=>(match zg T1 (.ptr tTk) t,zg T2 (.uint .u64) s with
    |some t',some s'=>some ((t'.isSome=true∧(U.ji (U.tc (U.tk t'))).length≤60),fun xs=>xs=U.jjR (U.tk t') s')
    |_,_=>none)
  |_=>none
def jy2:jtk [.int,tPe]:={ps:=[.ref (.ptr tTk),.ref .int,.ref .int,.own (.box 4 [.dat .bool]) true],slots:=[4,6,7,8],dst:=34,pre:=fun _=>[],G:=fun d q=>((d.2.2.2.1.1||U.qR (U.tk d.1) d.2.1 d.2.2.1 q,()),()),stop:=fun d q=>U.qR (U.tk d.1) d.2.1 d.2.2.1 q,seq:=jv6}
def jlK:Nat→Option ((ts:List Ty)×jtk ts):=fun r=>match r with
  |3=>some ⟨[.int,tPe],jy2⟩
  |_=>none
def yi:jW:=⟨[.val (.ptr tTk),.val (.uint .u64),.val .int,.val .int],[.bool],false,
  fun d=>[d.1.isSome=true,U.gw (U.tk d.1),0≤d.2.2.1,d.2.2.1<U.la (U.tc (U.tk d.1)),0≤d.2.2.2.1,d.2.2.2.1<U.la (U.tc (U.tk d.1))],fun d=>(U.jdV (U.tk d.1) d.2.1 d.2.2.1 d.2.2.2.1,())⟩
abbrev q28_0:=((0:Int),(0:Int),(0:Int),(0:Int),(0:Int),(0:Int),())
def jcj:Prop:=∀(d:Option (CrD×JbD×LwD×Unit)×Int×Int×Int×Unit),d.1.isSome=true→U.gw (U.tk d.1)→(0:Int)≤d.2.2.1→d.2.2.1<U.la (U.tc (U.tk d.1))→(0:Int)≤d.2.2.2.1→d.2.2.2.1<U.la (U.tc (U.tk d.1))→(d.1.isSome=true∧(U.ji (U.tc (U.tk d.1))).length≤60)∧True∧(d.1,d.2.2.1,d.2.2.2.1,(false||U.qR (U.tk d.1) d.2.2.1 d.2.2.2.1 [],()),())=(d.1,d.2.2.1,d.2.2.2.1,(false,()),())∧(∀(q:List (Int×PeD×Unit)) (x:Int×PeD×Unit) (rest:List (Int×PeD×Unit)),q++x::rest=U.jjR (U.tk d.1) d.2.1→wv (fun(q:List (Int×PeD×Unit))=>U.qR (U.tk d.1) d.2.2.1 d.2.2.2.1 q) q→(0:Int)≤d.2.2.1∧d.2.2.1<(x.2.1.1.length:Int)∧(0:Int)≤d.2.2.2.1∧d.2.2.2.1<(x.2.1.1.length:Int)∧d.1.isSome=true∧(decide ((jY (((0:Int),[],[],()),q28_0,((0:Int),(0:Int),false,()),()) d.1).2.2.1.1≤min (nth x.2.1.1 d.2.2.1.toNat) (nth x.2.1.1 d.2.2.2.1.toNat))=true→U.qR (U.tk d.1) d.2.2.1 d.2.2.2.1 (q++[x])=true∧((true,()),())=((false||U.qR (U.tk d.1) d.2.2.1 d.2.2.2.1 (q++[x]),()),()))∧(decide ((jY (((0:Int),[],[],()),q28_0,((0:Int),(0:Int),false,()),()) d.1).2.2.1.1≤min (nth x.2.1.1 d.2.2.1.toNat) (nth x.2.1.1 d.2.2.2.1.toNat))=false→U.qR (U.tk d.1) d.2.2.1 d.2.2.2.1 (q++[x])=false∧((false||U.qR (U.tk d.1) d.2.2.1 d.2.2.2.1 q,()),())=((false||U.qR (U.tk d.1) d.2.2.1 d.2.2.2.1 (q++[x]),()),())))∧(∀(xs:List (Int×PeD×Unit)),xs=U.jjR (U.tk d.1) d.2.1→wv (fun(q:List (Int×PeD×Unit))=>U.qR (U.tk d.1) d.2.2.1 d.2.2.2.1 q) xs→(false,())=(U.jdV (U.tk d.1) d.2.1 d.2.2.1 d.2.2.2.1,()))∧∀(q:List (Int×PeD×Unit)) (x:Int×PeD×Unit) (rest:List (Int×PeD×Unit)),q++x::rest=U.jjR (U.tk d.1) d.2.1→wv (fun(q:List (Int×PeD×Unit))=>U.qR (U.tk d.1) d.2.2.1 d.2.2.2.1 q) q→U.qR (U.tk d.1) d.2.2.1 d.2.2.2.1 (q++[x])=true→(false||U.qR (U.tk d.1) d.2.2.1 d.2.2.2.1 (q++[x]),())=(U.jdV (U.tk d.1) d.2.1 d.2.2.1 d.2.2.2.1,())
theorem jfx:(jvQ (jtx 33 [] [] [(155,jJ)] []) yi (fun _ _=>none) (hkC (jtx 33 [] [] [(155,jJ)] []) (fun _=>none) jlK [] []) Tryz.f192 (jd Tryz.f192))=jcj:=by kernel_rfl
end Go.X
namespace Go.X
open Go.Proofs
theorem jn9:jc6:=by
  rintro⟨l,x,⟨⟩⟩ hl;refine⟨⟨0,⟨⟨rfl,trivial⟩,trivial⟩,jG2 _,fun b hb=>by omega⟩,fun i hi=>⟨fun h=> ?_,fun h=> ?_⟩⟩
  · have h:i<l.length:=(by simpa using h);simp only[jGX] at*;refine⟨by omega,by omega,fun hb=> ?_,fun hb=>⟨L.in64 (by omega) (by omega),i+1,⟨⟨by simp,trivial⟩,trivial⟩,⟨by omega,fun b hb'=> ?_⟩,by omega⟩⟩
    · rw[qA (p:=fun y=>decide (y=x)) h hi.2 (by have:=of_decide_eq_true hb;rw[←this];exact decide_eq_true rfl)]
    · by_cases e:b=i
      · subst e;exact decide_eq_false (fun e=>of_decide_eq_false hb e.symm)
      · exact hi.2 b (by omega)
  · have h:l.length≤i:=(by simpa using h);rw[kU (p:=fun y=>decide (y=x)) h hi.2]
theorem jmf:ze PR 145 y8:=zv (jgZ.mpr jn9) Tryz.func145 (by kernel_rfl) (by kernel_rfl) (by kernel_rfl) (by kernel_rfl) trivial trivial
theorem ji3:gQ:=by
  rintro⟨l,x,⟨⟩⟩;exact congrArg (·,()) (jdY (fun y=>decide (y=x)) l)
theorem jag:ze PR 105 ww:=zv (jc7.mpr ji3) Tryz.func105 (by kernel_rfl) (by kernel_rfl) (by kernel_rfl) (by kernel_rfl) ⟨fun _=>jmf,trivial⟩ trivial
theorem jgC {c:CrD} {j:JbD} (h:U.zS c j=0):U.jq c=true∧U.jU c j=true:=by
  unfold U.zS at h
  split at h
  · omega
  · split at h
    · omega
    · rename_i h1 h2;exact⟨by simpa using h1,by simpa using h2⟩
theorem jG {c:CrD} (h:U.jq c=true):2≤U.la c∧U.la c≤5∧(U.ji c).length≤8∧(U.wi c).length=4∧(∀p∈U.ji c,U.jaG (U.la c) p=true)∧∀l∈U.wi c,U.ja8 l=true:=by
  unfold U.jq at h;simp only[jGT,decide_eq_true_eq,jHo] at h;exact⟨h.1.1,h.1.2.1,h.1.2.2.1,h.1.2.2.2,h.2.1,h.2.2⟩
theorem jdW {c:CrD} {j:JbD} (h:U.jU c j=true):(0≤U.jtw j∧U.jtw j<U.la c)∧(0≤U.jo9 j∧U.jo9 j<U.la c)∧U.jtw j≠U.jo9 j∧(0≤U.jut j∧U.jut j≤7)∧(0≤U.jtv j∧U.jtv j≤3)∧(1≤U.jB5 j∧U.jB5 j≤8):=by
  unfold U.jU at h;have h:=of_decide_eq_true h;obtain⟨h1,h2,h3,h4,h5,_,_,h6,h7,h8,h9,h10,h11⟩:=h;exact⟨⟨h1,by omega⟩,⟨h3,by omega⟩,h5,⟨h6,h7⟩,⟨h8,h9⟩,h10,h11⟩
theorem jzm {c:CrD} {j:JbD} (h:U.zS c j=0):U.joU c j=some (c,j,U.gK c j,())∧U.gw (c,j,U.gK c j,()):=by
  obtain⟨h1,h2⟩:=jgC h;exact⟨by unfold U.joU;rw[if_pos h],h1,h2,rfl⟩
theorem jCf:jrl:=by
  rintro⟨c,j,⟨⟩⟩;refine⟨fun h=> ?_,fun h=> ?_⟩
  · have h:U.zS c j≠0:=of_decide_eq_true h;simp only;unfold U.joU;rw[if_neg h]
  · have h:U.zS c j=0:=(by simpa using h);obtain⟨h1,h2⟩:=jgC h;obtain⟨_,_,_,hl,_⟩:=jG h1;obtain⟨_,_,_,_,hk,_⟩:=jdW h2;have hk:0≤j.2.2.2.2.1∧j.2.2.2.2.1≤3:=hk;have hl:c.2.2.1.length=4:=hl;refine⟨hk.1,by simp only;omega,?_⟩;simp only;rw[(jzm h).1,h];rfl
theorem jr1:ze PR 117 jhg:=zv (jrk.mpr jCf) Tryz.func117 (by kernel_rfl) (by kernel_rfl) (by kernel_rfl) (by kernel_rfl) ⟨fun _=>joV,trivial⟩ trivial
theorem jiS (t:TkD) (s:Int) (n:Nat):U.wJ t s (n+1)=U.wJ t s n++(if U.jhQ s (n:Int)=true then[((n:Int),nth (U.ji (U.tc t)) n,())] else[]):=by
  unfold U.wJ;rw[L.range_filter_succ,jHF]
  split<;>simp
theorem jzO (t:TkD) (s:Int) {n m:Nat} (h:n≤m):∃rest,U.wJ t s n++rest=U.wJ t s m:=by
  induction m with
  |zero=>
    have:n=0:=(by omega);subst this;exact⟨[],by simp⟩
  |succ m ih=>
    by_cases e:n=m+1
    · subst e;exact⟨[],by simp⟩
    · obtain⟨r,hr⟩:=ih (by omega);rw[jiS,←hr];exact⟨r++_,by rw[jHc]⟩
theorem jhR:yS:=by
  unfold yS q26_3 q26_2 q26_1 q26_0;rintro⟨(_|t),s,⟨⟩⟩ l h1 h2
  · cases h1
  have h2:(U.ji (U.tc t)).length≤60:=h2;refine⟨rfl,fun _=>⟨⟨0,⟨⟨rfl,trivial⟩,trivial⟩,rfl,jG2 _⟩,fun x hx=> ?_⟩⟩;have hx:x≤(U.ji (U.tc t)).length:=hx;have etk:U.tk (some t)=t:=rfl;refine⟨fun h=> ?_,fun h=> ?_⟩
  · have h:x<(U.ji (U.tc t)).length:=by
      have:=of_decide_eq_true h;have this:(x:Int)<((U.ji (U.tc t)).length:Int):=this;omega
    have hb:(x:Int)<((U.ji (U.tc t)).length:Int):=(by omega);refine⟨by omega,hb,by omega,by omega,fun hm=> ?_,fun hm=> ?_⟩
    · have hs:U.wJ t s (x+1)=U.wJ t s x++[((x:Int),nth (U.ji (U.tc t)) x,())]:=(by rw[jiS,if_pos hm]);obtain⟨r,hr⟩:=jzO t s (show x+1≤(U.ji (U.tc t)).length by omega);refine⟨rfl,⟨r,by rw[hs] at hr;exact hr⟩,⟨fun h3=>absurd h3 (by rw[Bool.not_true,Bool.and_false];simp),fun _=>⟨L.in64 (by omega) (by omega),x+1,⟨⟨by omega,trivial⟩,trivial⟩,?_,(show x+1≤(U.ji (U.tc t)).length by omega),(show(U.ji (U.tc t)).length-(x+1)<(U.ji (U.tc t)).length-x by omega)⟩⟩,
        fun _ h3=>(by cases h3),fun h3=> ?_⟩
      · rw[etk,hs];rfl
      · rw[Bool.not_false,Bool.and_true] at h3;exact absurd hm (by simp only at h3⊢;rw[h3];simp)
    · have hs:U.wJ t s (x+1)=U.wJ t s x:=by
        rw[jiS,if_neg (by simp only at hm⊢;rw[hm];simp),jHf]
      refine⟨fun h3=> ?_,fun _=>⟨L.in64 (by omega) (by omega),x+1,⟨⟨by omega,trivial⟩,trivial⟩,?_,(show x+1≤(U.ji (U.tc t)).length by omega),(show(U.ji (U.tc t)).length-(x+1)<(U.ji (U.tc t)).length-x by omega)⟩⟩
      · rw[Bool.not_false,Bool.and_true] at h3;exact absurd h3 (by simp only at hm⊢;rw[hm];simp)
      · rw[etk,hs]
  · have h:(U.ji (U.tc t)).length≤x:=by
      have:=of_decide_eq_false h;have this:¬(x:Int)<((U.ji (U.tc t)).length:Int):=this;omega
    intro _;rw[show x=(U.ji (U.tc t)).length by omega];rfl
theorem jtW {H:Imm} {lb:Array Value} {d:PD [.ref (.ptr tTk),.ref (.uint .u64)]} (hd:pvs PR H [.ref (.ptr tTk),.ref (.uint .u64)] lb.toList d) (h1:d.1.isSome=true) (h2:(U.ji (U.tc (U.tk d.1))).length≤60):jCQ PR H [.int,tPe] (LM d) (.func (.func 189) #[] lb):=
  jC1 (C:=ctx 28 [(190,jaa)] []) (jna ⟨fun _=>jr0,trivial⟩ trivial) mixed Tryz.func189 (by kernel_rfl) (by kernel_rfl) (by kernel_rfl) (by kernel_rfl) (by decide) (jcJ.mpr jhR) (fun d l B0 R Rx hR hRx hY=>jFq hR hY) hd ⟨h1,h2,trivial⟩
theorem jkw:jaM:=by intro d;rfl
theorem ja3:jtp PR 155 jJ:=jFr (jeN.mpr jkw) Tryz.func155 (by kernel_rfl) (by kernel_rfl) (by kernel_rfl) (by kernel_rfl) trivial trivial
theorem jD5:∀(f:Nat) (p:Nat×jgO),jF ([]:List (Nat×Nat×jgO)) f=some p→ROK PR f p.2:=fun _ _ h=>by cases h
theorem jsm {sv:SV} {pr:Prop} {L:List (Ty.st [.int,tPe]).Data→Prop} {v:Value} {ρ:Env} (hs:jv6 sv=some (pr,L)) (hpr:pr) (hd:SV.den PR ρ sv v):jCQ PR ρ.H [.int,tPe] L v:=by
  unfold jv6 at hs
  split at hs
  case h_2=>cases hs
  rename_i T1 t T2 s
  split at hs
  case h_2=>cases hs
  rename_i t' s' ht hs';simp only[Option.some.injEq,Prod.mk.injEq] at hs;obtain⟨rfl,rfl⟩:=hs;obtain⟨e,rfl⟩:=jl ht;subst e;obtain⟨e2,rfl⟩:=jl hs';subst e2;simp only[SV.den,SV.denL] at hd;obtain⟨lb,rfl,x,r,hl,h1,y,r2,hl2,h2,h3⟩:=hd;exact jtW (d:=(t,s,())) (by rw[hl,hl2,h3];exact⟨h1,h2,rfl⟩) hpr.1 hpr.2
theorem jhI (t:TkD) (a b:Int) (q:List (Int×PeD×Unit)) (x:Int×PeD×Unit):U.qR t a b (q++[x])=U.jn t a b x:=by
  unfold U.qR;rw[List.getLast?_append];simp
theorem jtF {t:TkD} {a b:Int} {q:List (Int×PeD×Unit)} (h:wv (fun q=>U.qR t a b q) q):q.any (U.jn t a b)=false:=by
  rw[jHC];intro x hx;obtain⟨u,v,rfl⟩:=List.append_of_mem hx;have:=h u x v rfl;simp only[jhI] at this;rw[this];simp
theorem jxe {t:TkD} {s:Int} {x:Int×PeD×Unit} (h:x∈U.jjR t s):x.2.1∈U.ji (U.tc t):=by
  unfold U.jjR U.wJ at h;obtain⟨i,hi,rfl⟩:=jHs.1 h;have:=jG9.1 (jHg.1 hi).1;exact L.mem_nth this
theorem jD2 {n:Int} {p:PeD} (h:U.jaG n p=true):((U.lv p).length:Int)=n:=by
  unfold U.jaG at h;simp only[jGT,decide_eq_true_eq] at h;exact h.1.1
theorem jmI:jcj:=by
  unfold jcj q28_0;rintro⟨(_|t),s,a,b,⟨⟩⟩ h0 hok ha hal hb hbl
  · cases h0
  obtain⟨c1,c2,c3⟩:=hok;have c1:U.jq (U.tc t)=true:=c1;obtain⟨f1,f2,f3,f4,f5,f6⟩:=jG c1;have f3':(U.ji (U.tc t)).length≤60:=(by omega);have etk:U.tk (some t)=t:=rfl;refine⟨⟨rfl,f3'⟩,trivial,rfl,fun q x rest hq hth=> ?_,fun xs hxs hth=> ?_,fun q x rest hq hth hst=> ?_⟩
  · have hx:x∈U.jjR t s:=(by rw[etk] at hq;rw[←hq];simp);have hp:=jD2 (f5 _ (jxe hx));have hp:((x.2.1.1.length:Nat):Int)=U.la (U.tc t):=hp;have hal:a<U.la (U.tc t):=hal;have hbl:b<U.la (U.tc t):=hbl;have hq0:U.qR t a b q=false:=by
      cases hl:q.getLast? with
      |none=>unfold U.qR;rw[hl]
      |some y=>
        obtain⟨u,rfl⟩:=List.getLast?_eq_some_iff.1 hl;have:=hth u y [] rfl;exact this
    refine⟨ha,by simp only;omega,hb,by simp only;omega,rfl,fun h=> ?_,fun h=> ?_⟩
    · have h:U.jn t a b x=true:=h;have:U.qR t a b (q++[x])=true:=(by rw[jhI];exact h);rw[etk];simp only;exact⟨this,by rw[this];rfl⟩
    · have h:U.jn t a b x=false:=h;have:U.qR t a b (q++[x])=false:=(by rw[jhI];exact h);rw[etk];simp only;exact⟨this,by rw[this,hq0]⟩
  · rw[etk] at hxs hth;subst hxs;have:=jtF hth;simp only;rw[etk];unfold U.jdV;rw[this]
  · rw[etk] at hq hst⊢;simp only at hst⊢;rw[hst];unfold U.jdV;rw[←hq];rw[jhI] at hst;simp[hst]
theorem js2:(jtx 33 [] [] [(155,jJ)] []).ok PR:=ju8 trivial trivial ⟨ja3,trivial⟩ trivial
theorem jkm:ze PR 192 yi:=
  jy4 (body:=jd Tryz.f192) (C:=jtx 33 [] [] [(155,jJ)] []) (hk:=hkC (jtx 33 [] [] [(155,jJ)] []) (fun _=>none) jlK [] []) js2 mixed Tryz.func192 (by kernel_rfl) (by kernel_rfl) (by kernel_rfl) (by decide)
    (fun B=>jpg js2 mixed (fun k ts rs sv pr L v ρ hk hs hpr hd=>by
      unfold jlK at hk
      split at hk
      case h_2=>cases hk
      simp only[Option.some.injEq] at hk
      cases hk
      exact jsm hs hpr hd) jD5 B) (jfx.mpr jmI)
end Go.X
namespace Go.X
open Go.Proofs
namespace U
def qZ (x:Int) (N n:Nat):List Int:=List.replicate n x++List.replicate (N-n) 0
def jtu (t:TkD) (team:Int) (a b:Nat):Bool:=jdV t team (a:Int) (b:Int)
def jcd (t:TkD) (team:Int):List Int:=jFV (jtu t team) (la (tc t)).toNat (jo9 (tj t)).toNat
def jQ (t:TkD) (team:Int) (k:Nat):List Int×List Int:=vg (jtu t team) (la (tc t)).toNat (jo9 (tj t)).toNat k
def qf (t:TkD) (team:Int) (x:List Int×List Int) (i:Nat):List Int×List Int:=jia (jtu t team) (nth x.2 0).toNat x i
def jE7 (t:TkD) (team:Int) (x:List Int×List Int) (lo:Nat):Prop:=jFa (jtu t team) (la (tc t)).toNat (jo9 (tj t)).toNat x∧x.2≠[]∧x.2.length≤10∧lo≤10
end U
def glo (σ:St) (s:Nat):Nat:=match σ.get s with
  | .osl _ _ lo _=>lo
  |_=>0
def jbO:jW:=⟨[.val (.uint .u64),.val (.uint .u64)],[.uint .u64,.uint .u64],false,fun d=>[0≤d.1,d.1≤1000,0≤d.2.1,d.2.1≤1000],fun d=>((0:Int),d.1*d.2.1,())⟩
abbrev q29_0 (d:Int×Int×Unit):=(d.1/(2:Int)^Int.toNat (32:Int)*wX d.2.1 (4294967295:Int)+wX d.1 (4294967295:Int)*wX d.2.1 (4294967295:Int)/(2:Int)^Int.toNat (32:Int))
abbrev q29_1 (d:Int×Int×Unit):=(d.2.1/(2:Int)^Int.toNat (32:Int))
abbrev q29_2 (d:Int×Int×Unit):=(wX (q29_0 d) (4294967295:Int)+wX d.1 (4294967295:Int)*(q29_1 d))
def jg9:Prop:=∀(d:Int×Int×Unit),(0:Int)≤d.1→d.1≤(1000:Int)→(0:Int)≤d.2.1→d.2.1≤(1000:Int)→(0:Int)≤(32:Int)∧(32:Int)≤(64:Int)∧(0:Int)≤(32:Int)∧(32:Int)≤(64:Int)∧(0:Int)≤wX d.1 (4294967295:Int)*wX d.2.1 (4294967295:Int)∧wX d.1 (4294967295:Int)*wX d.2.1 (4294967295:Int)≤(18446744073709551615:Int)∧(0:Int)≤d.1/(2:Int)^Int.toNat (32:Int)*wX d.2.1 (4294967295:Int)∧d.1/(2:Int)^Int.toNat (32:Int)*wX d.2.1 (4294967295:Int)≤(18446744073709551615:Int)∧(0:Int)≤(32:Int)∧(32:Int)≤(64:Int)∧(0:Int)≤d.1/(2:Int)^Int.toNat (32:Int)*wX d.2.1 (4294967295:Int)+wX d.1 (4294967295:Int)*wX d.2.1 (4294967295:Int)/(2:Int)^Int.toNat (32:Int)∧d.1/(2:Int)^Int.toNat (32:Int)*wX d.2.1 (4294967295:Int)+wX d.1 (4294967295:Int)*wX d.2.1 (4294967295:Int)/(2:Int)^Int.toNat (32:Int)≤(18446744073709551615:Int)∧(0:Int)≤(32:Int)∧(32:Int)≤(64:Int)∧(0:Int)≤wX d.1 (4294967295:Int)*(q29_1 d)∧wX d.1 (4294967295:Int)*(q29_1 d)≤(18446744073709551615:Int)∧(0:Int)≤wX (q29_0 d) (4294967295:Int)+wX d.1 (4294967295:Int)*(q29_1 d)∧wX (q29_0 d) (4294967295:Int)+wX d.1 (4294967295:Int)*(q29_1 d)≤(18446744073709551615:Int)∧(0:Int)≤d.1/(2:Int)^Int.toNat (32:Int)*(q29_1 d)∧d.1/(2:Int)^Int.toNat (32:Int)*(q29_1 d)≤(18446744073709551615:Int)∧(0:Int)≤d.1/(2:Int)^Int.toNat (32:Int)*(q29_1 d)+(q29_0 d)/(2:Int)^Int.toNat (32:Int)∧d.1/(2:Int)^Int.toNat (32:Int)*(q29_1 d)+(q29_0 d)/(2:Int)^Int.toNat (32:Int)≤(18446744073709551615:Int)∧(0:Int)≤(32:Int)∧(32:Int)≤(64:Int)∧(0:Int)≤d.1/(2:Int)^Int.toNat (32:Int)*(q29_1 d)+(q29_0 d)/(2:Int)^Int.toNat (32:Int)+(q29_2 d)/(2:Int)^Int.toNat (32:Int)∧d.1/(2:Int)^Int.toNat (32:Int)*(q29_1 d)+(q29_0 d)/(2:Int)^Int.toNat (32:Int)+(q29_2 d)/(2:Int)^Int.toNat (32:Int)≤(18446744073709551615:Int)∧(0:Int)≤d.1*d.2.1∧d.1*d.2.1≤(18446744073709551615:Int)∧(d.1/(2:Int)^Int.toNat (32:Int)*(q29_1 d)+(q29_0 d)/(2:Int)^Int.toNat (32:Int)+(q29_2 d)/(2:Int)^Int.toNat (32:Int),d.1*d.2.1,())=((0:Int),d.1*d.2.1,())
theorem jke:zq (ctx 51 [] []) (fun _=>none) Tryz.f218 (jd Tryz.f218) jbO=jg9:=by kernel_rfl
def jfX:jW:=⟨[.val (.uint .u64),.val (.uint .u64)],[.uint .u64,.uint .u64],false,fun d=>[0≤d.1,d.1≤1000,0≤d.2.1,d.2.1≤1000],fun d=>((0:Int),d.1*d.2.1,())⟩
def jlG:Prop:=∀(d:Int×Int×Unit),(0:Int)≤d.1→d.1≤(1000:Int)→(0:Int)≤d.2.1→d.2.1≤(1000:Int)→(false=true→False)∧(false=false→(0:Int)≤d.1∧d.1≤(1000:Int)∧(0:Int)≤d.2.1∧d.2.1≤(1000:Int)∧((0:Int),d.1*d.2.1,())=((0:Int),d.1*d.2.1,()))
theorem jnP:zq (ctx 30 [(218,jbO)] []) (fun _=>none) Tryz.f211 (jd Tryz.f211) jfX=jlG:=by kernel_rfl
def yp:kx:=⟨[.val (.slice .int),.val .int],[.cl (.row 3 .int .no)],fun d=>[d.1.length=1,0≤d.2.1,d.2.1≤1000],fun d=>((List.replicate d.2.1.toNat (nth d.1 0),()),())⟩
def jkG:Ann:=fun r=>match r with
  |8=>some fun σ=>{X:=Nat,sl:=fun n=>[(8,.dat .int (n:Int))],ob:=fun n=>[(7,some (.row 3 .int false .no (U.qZ (nth (gd (.slice .int) σ 0) 0) (gd .int σ 1).toNat n)))],inv:=fun n=>n≤(gd .int σ 1).toNat∧(1≤n∨(gd .int σ 1).toNat=0),mu:=fun n=>(gd .int σ 1).toNat-n}
  |_=>none
abbrev q31_3 (d:List Int×Int×Unit):=(d.1.length:Int)
abbrev q31_2 (d:List Int×Int×Unit):=(List.replicate ((q31_3 d)*d.2.1).toNat (0:Int))
abbrev q31_4 (d:List Int×Int×Unit):=(decide ((0:Int)<(0:Int))||decide ((9223372036854775807:Int)<(q31_3 d)*d.2.1))
abbrev q31_5 (d:List Int×Int×Unit)(x:Nat):=(U.qZ (nth d.1 0) d.2.1.toNat x)
abbrev q31_0 (d:List Int×Int×Unit)(x:Nat):=(↑(q31_5 d x).length:Int)
abbrev q31_1 (x:Nat)(d:List Int×Int×Unit):=(List.take ((x:Int).toNat-Int.toNat (0:Int)) (List.drop (Int.toNat (0:Int)) (q31_5 d x)))
abbrev q31_6 (d:List Int×Int×Unit)(x:Nat):=((q31_0 d x).toNat-(x:Int).toNat)
def jcp:Prop:=∀(d:List Int×Int×Unit),d.1.length=1→(0:Int)≤d.2.1→d.2.1≤(1000:Int)→(decide (d.2.1<(0:Int))=true→False)∧(decide (d.2.1<(0:Int))=false→d.1.length<4611686018427387904→(0:Int)≤(q31_3 d)∧(q31_3 d)≤(18446744073709551615:Int)∧(0:Int)≤d.2.1∧d.2.1≤(18446744073709551615:Int)∧(0:Int)≤(q31_3 d)∧(q31_3 d)≤(1000:Int)∧(0:Int)≤d.2.1∧d.2.1≤(1000:Int)∧((q31_4 d)=true→False)∧((q31_4 d)=false→jx ((q31_3 d)*d.2.1)∧(0:Int)≤(q31_3 d)*d.2.1∧(q31_3 d)*d.2.1=(q31_3 d)*d.2.1∧((q31_3 d)*d.2.1).toNat*8≤140737488355328∧0+(q31_2 d).length≤(q31_2 d).length∧(∃(x:Nat),(((↑(List.take (q31_2 d).length d.1).length:Int)=(x:Int)∧True)∧jyi (q31_2 d) 0 (q31_2 d).length d.1=U.qZ (nth d.1 0) d.2.1.toNat x∧True)∧x≤d.2.1.toNat∧(1≤x∨d.2.1.toNat=0))∧∀(x:Nat),x≤d.2.1.toNat∧(1≤x∨d.2.1.toNat=0)→(q31_5 d x).length<4611686018427387904→(decide ((x:Int)<(q31_0 d x))=true→(0:Int)≤(x:Int)∧(x:Int)≤(q31_0 d x)∧(q31_0 d x)≤(q31_0 d x)∧(0:Int)≤(0:Int)∧(0:Int)≤(x:Int)∧(x:Int)≤(q31_0 d x)∧(x:Int).toNat+(q31_6 d x)≤(q31_5 d x).length∧jx ((x:Int)+(↑(List.take (q31_6 d x) (q31_1 x d)).length:Int))∧∃(x':Nat),(((x:Int)+(↑(List.take (q31_6 d x) (q31_1 x d)).length:Int)=(x':Int)∧True)∧jyi (q31_5 d x) (x:Int).toNat (q31_6 d x) (q31_1 x d)=U.qZ (nth d.1 0) d.2.1.toNat x'∧True)∧(x'≤d.2.1.toNat∧(1≤x'∨d.2.1.toNat=0))∧d.2.1.toNat-x'<d.2.1.toNat-x)∧(decide ((x:Int)<(q31_0 d x))=false→(U.qZ (nth d.1 0) d.2.1.toNat x,())=(List.replicate d.2.1.toNat (nth d.1 0),())∧()=())))
theorem jfC:jcR (ctx 48 [(211,jfX)] []) (jkG) Tryz.f191 (jd Tryz.f191) yp=jcp:=by kernel_rfl
def kY:jW:=⟨[.val (.ptr tTk),.val (.uint .u64)],[.slice .int],false,fun d=>[d.1.isSome=true,U.gw (U.tk d.1)],fun d=>(U.jcd (U.tk d.1) d.2.1,())⟩
def jq0:Ann:=fun r=>match r with
  |4=>some fun σ=>{X:=Nat×List Int,sl:=fun x=>[(6,.osl 6 .int x.2.length (U.jQ (U.tk (gd (.ptr tTk) σ 0)) (gd (.uint .u64) σ 1) x.1).2.length)],ob:=fun x=>[(5,some (.row 3 .int false .no (U.jQ (U.tk (gd (.ptr tTk) σ 0)) (gd (.uint .u64) σ 1) x.1).1)),(6,some (.row 3 .int false .no (x.2++(U.jQ (U.tk (gd (.ptr tTk) σ 0)) (gd (.uint .u64) σ 1) x.1).2)))],inv:=fun x=>x.2.length≤x.1∧x.1≤(U.la (U.tc (U.tk (gd (.ptr tTk) σ 0)))).toNat,mu:=fun x=>(U.la (U.tc (U.tk (gd (.ptr tTk) σ 0)))).toNat+1-x.1}
  |7=>some fun σ=>{X:=Nat×List Int,sl:=fun x=>[(28,.any),(35,.dat .int (x.1:Int)),(6,.osl 6 .int x.2.length (U.qf (U.tk (gd (.ptr tTk) σ 0)) (gd (.uint .u64) σ 1) (gr .int σ 5,(gr .int σ 6).drop (glo σ 6)) x.1).2.length)],ob:=fun x=>[(5,some (.row 3 .int false .no (U.qf (U.tk (gd (.ptr tTk) σ 0)) (gd (.uint .u64) σ 1) (gr .int σ 5,(gr .int σ 6).drop (glo σ 6)) x.1).1)),(6,some (.row 3 .int false .no (x.2++(U.qf (U.tk (gd (.ptr tTk) σ 0)) (gd (.uint .u64) σ 1) (gr .int σ 5,(gr .int σ 6).drop (glo σ 6)) x.1).2)))],inv:=fun x=>x.1≤(gr .int σ 5).length∧x.2.length≤glo σ 6∧U.jE7 (U.tk (gd (.ptr tTk) σ 0)) (gd (.uint .u64) σ 1) (gr .int σ 5,(gr .int σ 6).drop (glo σ 6)) (glo σ 6),mu:=fun x=>(gr .int σ 5).length-x.1}
  |2000011=>some fun σ=>{X:=Unit,sl:=fun _=>[],ob:=fun _=>[],inv:=fun _=>True,mu:=fun _=>0}
  |_=>none
abbrev q32_2:=((0:Int),(0:Int),(0:Int),(0:Int),(0:Int),(0:Int),())
abbrev q32_3 (d:Option (CrD×JbD×LwD×Unit)×Int×Unit)(x:Nat×List Int):=(U.jQ (U.tk d.1) d.2.1 x.1)
abbrev q32_1 (d:Option (CrD×JbD×LwD×Unit)×Int×Unit)(x:Nat×List Int):=((q32_3 d x).1,List.drop x.2.length (x.2++(q32_3 d x).2))
abbrev q32_0 (d:Option (CrD×JbD×LwD×Unit)×Int×Unit)(x:Nat×List Int)(x_5:Nat×List Int):=(U.qf (U.tk d.1) d.2.1 (q32_1 d x) x_5.1)
abbrev q32_4 (d:Option (CrD×JbD×LwD×Unit)×Int×Unit)(x:Nat×List Int)(x_5:Nat×List Int):=(nth (q32_0 d x x_5).1 (x_5.1:Int).toNat<(0:Int))
abbrev q32_5:=((0:Int),(0:Int),false,())
abbrev q32_6 (x_5:Nat×List Int):=(x_5.2.length+Int.toNat (0:Int))
abbrev q32_7 (d:Option (CrD×JbD×LwD×Unit)×Int×Unit)(x:Nat×List Int)(x':Nat×List Int):=(U.qf (U.tk d.1) d.2.1 (q32_1 d x) x'.1)
def jgW:Prop:=∀(d:Option (CrD×JbD×LwD×Unit)×Int×Unit),d.1.isSome=true→U.gw (U.tk d.1)→d.1.isSome=true∧[(-1:Int)].length=1∧(0:Int)≤(jY (((0:Int),[],[],()),q32_2,q32_5,()) d.1).1.1∧(jY (((0:Int),[],[],()),q32_2,q32_5,()) d.1).1.1≤(1000:Int)∧d.1.isSome=true∧(0:Int)≤(jY (((0:Int),[],[],()),q32_2,q32_5,()) d.1).2.1.2.1∧(jY (((0:Int),[],[],()),q32_2,q32_5,()) d.1).2.1.2.1<(↑(List.replicate (jY (((0:Int),[],[],()),q32_2,q32_5,()) d.1).1.1.toNat (nth [(-1:Int)] 0)).length:Int)∧d.1.isSome=true∧(∃(x:Nat×List Int),(((x.2.length=0∧(q32_3 d x).2.length=[(jY (((0:Int),[],[],()),q32_2,q32_5,()) d.1).2.1.2.1].length)∧True)∧(List.replicate (jY (((0:Int),[],[],()),q32_2,q32_5,()) d.1).1.1.toNat (nth [(-1:Int)] 0)).set (jY (((0:Int),[],[],()),q32_2,q32_5,()) d.1).2.1.2.1.toNat (0:Int)=(q32_3 d x).1∧[(jY (((0:Int),[],[],()),q32_2,q32_5,()) d.1).2.1.2.1]=x.2++(q32_3 d x).2∧True)∧x.2.length≤x.1∧x.1≤(U.la (U.tc (U.tk d.1))).toNat)∧∀(x:Nat×List Int),x.2.length≤x.1∧x.1≤(U.la (U.tc (U.tk d.1))).toNat→(q32_3 d x).2.length<4611686018427387904→(decide ((0:Int)<(↑(q32_3 d x).2.length:Int))=true→(q32_3 d x).1.length<4611686018427387904→(∃(x_5:Nat×List Int),(((0:Int)=(x_5.1:Int)∧(x.2.length=x_5.2.length∧(q32_3 d x).2.length=(q32_0 d x x_5).2.length)∧True)∧(q32_3 d x).1=(q32_0 d x x_5).1∧x.2++(q32_3 d x).2=x_5.2++(q32_0 d x x_5).2∧True)∧x_5.1≤(q32_3 d x).1.length∧x_5.2.length≤x.2.length∧U.jE7 (U.tk d.1) d.2.1 (q32_1 d x) x.2.length)∧∀(x_5:Nat×List Int),x_5.1≤(q32_3 d x).1.length∧x_5.2.length≤x.2.length∧U.jE7 (U.tk d.1) d.2.1 (q32_1 d x) x.2.length→(decide ((x_5.1:Int)<(↑(q32_3 d x).1.length:Int))=true→(0:Int)≤(x_5.1:Int)∧(x_5.1:Int)<(↑(q32_0 d x x_5).1.length:Int)∧(decide (q32_4 d x x_5)=true→(0:Int)≤(0:Int))∧(decide (q32_4 d x x_5)=true→(0:Int)<(↑(q32_0 d x x_5).2.length:Int))∧(decide (q32_4 d x x_5)=true→d.1.isSome=true)∧(decide (q32_4 d x x_5)=true→U.gw (U.tk d.1))∧(decide (q32_4 d x x_5)=true→(0:Int)≤nth (x_5.2++(q32_0 d x x_5).2) (q32_6 x_5))∧(decide (q32_4 d x x_5)=true→nth (x_5.2++(q32_0 d x x_5).2) (q32_6 x_5)<U.la (U.tc (U.tk d.1)))∧(decide (q32_4 d x x_5)=true→(0:Int)≤(x_5.1:Int))∧(decide (q32_4 d x x_5)=true→(x_5.1:Int)<U.la (U.tc (U.tk d.1)))∧((decide (q32_4 d x x_5)&&U.jdV (U.tk d.1) d.2.1 (nth (x_5.2++(q32_0 d x x_5).2) (q32_6 x_5)) (x_5.1:Int))=true→(0:Int)≤(0:Int)∧(0:Int)<(↑(q32_0 d x x_5).2.length:Int)∧(0:Int)≤nth (x_5.2++(q32_0 d x x_5).2) (q32_6 x_5)∧nth (x_5.2++(q32_0 d x x_5).2) (q32_6 x_5)<(↑(q32_0 d x x_5).1.length:Int)∧jx (nth (q32_0 d x x_5).1 (nth (x_5.2++(q32_0 d x x_5).2) (q32_6 x_5)).toNat+(1:Int))∧(0:Int)≤(x_5.1:Int)∧(x_5.1:Int)<(↑(q32_0 d x x_5).1.length:Int)∧x_5.2.length+(q32_0 d x x_5).2.length=(x_5.2++(q32_0 d x x_5).2).length∧0<(q32_0 d x x_5).2.length∧x_5.2.length+(q32_0 d x x_5).2.length+[(x_5.1:Int)].length<4611686018427387904∧((q32_0 d x x_5).2.length+[(x_5.1:Int)].length)*8≤140737488355328∧∀(pre:List Int),pre.length≤x_5.2.length→jx ((x_5.1:Int)+(1:Int))∧∃(x':Nat×List Int),(((x_5.1:Int)+(1:Int)=(x'.1:Int)∧(pre.length=x'.2.length∧(q32_0 d x x_5).2.length+[(x_5.1:Int)].length=(q32_7 d x x').2.length)∧True)∧pre++List.drop x_5.2.length (x_5.2++(q32_0 d x x_5).2)++[(x_5.1:Int)]=x'.2++(q32_7 d x x').2∧(q32_0 d x x_5).1.set (x_5.1:Int).toNat (nth (q32_0 d x x_5).1 (nth (x_5.2++(q32_0 d x x_5).2) (q32_6 x_5)).toNat+(1:Int))=(q32_7 d x x').1∧True)∧(x'.1≤(q32_3 d x).1.length∧x'.2.length≤x.2.length∧U.jE7 (U.tk d.1) d.2.1 (q32_1 d x) x.2.length)∧(q32_3 d x).1.length-x'.1<(q32_3 d x).1.length-x_5.1)∧((decide (q32_4 d x x_5)&&U.jdV (U.tk d.1) d.2.1 (nth (x_5.2++(q32_0 d x x_5).2) (q32_6 x_5)) (x_5.1:Int))=false→jx ((x_5.1:Int)+(1:Int))∧∃(x':Nat×List Int),(((x_5.2.length=x'.2.length∧(q32_0 d x x_5).2.length=(q32_7 d x x').2.length)∧(x_5.1:Int)+(1:Int)=(x'.1:Int)∧True)∧x_5.2++(q32_0 d x x_5).2=x'.2++(q32_7 d x x').2∧(q32_0 d x x_5).1=(q32_7 d x x').1∧True)∧(x'.1≤(q32_3 d x).1.length∧x'.2.length≤x.2.length∧U.jE7 (U.tk d.1) d.2.1 (q32_1 d x) x.2.length)∧(q32_3 d x).1.length-x'.1<(q32_3 d x).1.length-x_5.1))∧(decide ((x_5.1:Int)<(↑(q32_3 d x).1.length:Int))=false→(0:Int)≤(1:Int)∧(1:Int)≤(↑(q32_0 d x x_5).2.length:Int)∧(↑(q32_0 d x x_5).2.length:Int)≤(↑(q32_0 d x x_5).2.length:Int)∧∃(x':Nat×List Int),(((x_5.2.length+Int.toNat (1:Int)=x'.2.length∧(↑(q32_0 d x x_5).2.length:Int).toNat-Int.toNat (1:Int)=(U.jQ (U.tk d.1) d.2.1 x'.1).2.length)∧True)∧(q32_0 d x x_5).1=(U.jQ (U.tk d.1) d.2.1 x'.1).1∧x_5.2++(q32_0 d x x_5).2=x'.2++(U.jQ (U.tk d.1) d.2.1 x'.1).2∧True)∧(x'.2.length≤x'.1∧x'.1≤(U.la (U.tc (U.tk d.1))).toNat)∧(U.la (U.tc (U.tk d.1))).toNat+1-x'.1<(U.la (U.tc (U.tk d.1))).toNat+1-x.1))∧(decide ((0:Int)<(↑(q32_3 d x).2.length:Int))=false→((q32_3 d x).1,())=(U.jcd (U.tk d.1) d.2.1,()))
theorem jj7:zq (ctx 68 [(192,yi)] [(191,yp)]) (jq0) Tryz.f157 (jd Tryz.f157) kY=jgW:=by kernel_rfl
end Go.X
namespace Go.X
open Go.Proofs
theorem jpP {x:Int} (h0:0≤x) (h1:x≤4294967295):wX x 4294967295=x:=by
  obtain⟨n,rfl⟩:∃n:Nat,x=(n:Int):=⟨x.toNat,by omega⟩;rw[show(4294967295:Int)=((4294967295:Nat):Int) from rfl,BT.uand_nat (by omega) (by omega),show(4294967295:Nat)=2^32-1 from rfl,Nat.and_two_pow_sub_one_eq_mod,Nat.mod_eq_of_lt (by omega)]
theorem jsC:jg9:=by
  unfold jg9 q29_2 q29_1 q29_0;rintro⟨x,y,⟨⟩⟩ h1 h2 h3 h4;simp only at h1 h2 h3 h4;have a1:=jpP h1 (by omega);have a2:=jpP h3 (by omega);have a0:=jpP (x:=0) (by omega) (by omega);have b1:x/2^Int.toNat 32=0:=Int.ediv_eq_zero_of_lt h1 (by show x<2^32;omega);have b2:y/2^Int.toNat 32=0:=Int.ediv_eq_zero_of_lt h3 (by show y<2^32;omega);have p0:0≤x*y:=Int.mul_nonneg h1 h3;have p1:x*y≤1000*1000:=Int.mul_le_mul h2 h4 h3 (by omega);have c1:x*y/2^Int.toNat 32=0:=Int.ediv_eq_zero_of_lt p0 (by show x*y<2^32;omega);have c0:(0:Int)/2^Int.toNat 32=0:=Int.zero_ediv _;simp only[a1,a2,b1,b2,Int.zero_mul,Int.mul_zero,Int.zero_add,Int.add_zero,c1,a0,c0]
  and_intros<;>first|omega|rfl|trivial
theorem jqh:ze PR 218 jbO:=zv (jke.mpr jsC) Tryz.func218 (by kernel_rfl) (by kernel_rfl) (by kernel_rfl) (by kernel_rfl) trivial trivial
theorem jxz:jlG:=by
  rintro⟨x,y,⟨⟩⟩ h1 h2 h3 h4;exact⟨fun h=>(by cases h),fun _=>⟨h1,h2,h3,h4,rfl⟩⟩
theorem jun:ze PR 211 jfX:=zv (jnP.mpr jxz) Tryz.func211 (by kernel_rfl) (by kernel_rfl) (by kernel_rfl) (by kernel_rfl) ⟨fun _=>jqh,trivial⟩ trivial
theorem jqy {x:Int} {N n:Nat} (h:n≤N):(U.qZ x N n).length=N:=by
  unfold U.qZ;simp;omega
theorem jss {x:Int} {N n:Nat} (h:n≤N):(U.qZ x N n).take n=List.replicate n x:=by
  unfold U.qZ;rw[List.take_append_of_le_length (by simp),jHH (by simp)]
theorem jz9 {x:Int} {N n:Nat} (h:n≤N):jyi (U.qZ x N n) n (N-n) (List.replicate n x)=U.qZ x N (n+min (N-n) n):=by
  unfold jyi;rw[jss h,List.take_replicate,jHL];unfold U.qZ;rw[List.drop_append,jHL,List.drop_of_length_le (by simp),jHh,List.drop_replicate,←List.replicate_append_replicate];congr 2;omega
theorem jmN:jcp:=by
  unfold jcp q31_6 q31_1 q31_0 q31_5 q31_4 q31_2 q31_3;rintro⟨l,n,⟨⟩⟩ hl h1 h2;simp only at hl h1 h2;obtain⟨N,rfl⟩:∃N:Nat,n=(N:Int):=⟨n.toNat,by omega⟩;obtain⟨y,rfl⟩:∃y,l=[y]:=by
    cases l with
    |nil=>simp at hl
    |cons y r=>cases r with
      |nil=>exact⟨y,rfl⟩
      |cons z r=>simp at hl
  have e1:(([y].length:Nat):Int)*(N:Int)=(N:Int):=(by simp);have ey:nth [y] 0=y:=rfl
  dsimp only
  refine⟨fun h=> ?_,fun _ _=>⟨by simp,by simp,by omega,by omega,by simp,by simp,by omega,h2,fun h=> ?_,fun _=> ?_⟩⟩
  · have:=of_decide_eq_true h;omega
  · rw[e1] at h;have h:(9223372036854775807:Int)<(N:Int):=(by simpa using h);omega
  rw[e1,ey];simp only[jGX,jHL];refine⟨L.in64 (by omega) (by omega),by omega,trivial,by omega,by omega,⟨min 1 N,⟨⟨?_,trivial⟩,?_,trivial⟩,by omega,by omega⟩,fun x hx hxl=>⟨fun h=> ?_,fun h=> ?_⟩⟩
  · rw[jHj];simp only[jHr,jHI];omega
  · rcases jH2 N with h0|h0
    · subst h0;rfl
    · obtain⟨M,rfl⟩:∃M,N=M+1:=⟨N-1,by omega⟩;have:min 1 (M+1)=1:=(by omega);rw[this];simp[jyi,U.qZ,List.replicate_succ]
  · have h:=of_decide_eq_true h;rw[jqy hx.1] at h;simp only[jqy hx.1,jGX,Int.toNat_zero,List.drop_zero,Nat.sub_zero,jss hx.1,List.take_replicate,jHL];refine⟨by omega,by omega,by omega,by omega,by omega,by omega,by omega,L.in64 (by omega) (by omega),x+min (N-x) x,⟨⟨by omega,trivial⟩,jz9 hx.1,trivial⟩,⟨by omega,by omega⟩,by omega⟩
  · have h:=of_decide_eq_false h;rw[jqy hx.1] at h;have h:x=N:=(by have:=hx.1;omega);subst h;refine⟨?_,trivial⟩;unfold U.qZ;rw[Nat.sub_self];simp
theorem jkr:yf PR 191 yp:=jgj (jfC.mpr jmN) Tryz.func191 (by kernel_rfl) (by kernel_rfl) (by kernel_rfl) (by kernel_rfl) (by kernel_rfl) ⟨fun _=>jun,trivial⟩ trivial
theorem jD4 {a b:List Int}:nth (a++b) (a.length+Int.toNat 0)=nth b 0:=by
  unfold nth;simp only[jHq,Int.toNat_zero,jH4];rw[jG3 (jGU _),Nat.sub_self]
theorem jsQ {t:TkD} {s:Int} (hok:U.gw t):2≤U.la (U.tc t)∧U.la (U.tc t)≤5∧0≤U.jo9 (U.tj t)∧U.jo9 (U.tj t)<U.la (U.tc t):=by
  obtain⟨c1,c2,_⟩:=hok;obtain⟨f1,f2,_⟩:=jG c1;obtain⟨_,⟨g1,g2⟩,_⟩:=jdW c2;exact⟨f1,f2,g1,g2⟩
theorem jsv:jgW:=by
  unfold jgW q32_7 q32_6 q32_5 q32_4 q32_0 q32_1 q32_3 q32_2;rintro⟨(_|t),s,⟨⟩⟩ h0 hok
  · cases h0
  have hok:U.gw t:=hok;obtain⟨l1,l2,j1,j2⟩:=jsQ (s:=s) hok;have etk:U.tk (some t)=t:=rfl;obtain⟨n,hn⟩:∃n,n=(U.la (U.tc t)).toNat:=⟨_,rfl⟩;obtain⟨v,hv⟩:∃v,v=(U.jo9 (U.tj t)).toNat:=⟨_,rfl⟩;have hs:v<n:=(by omega);have hR:∀k,jFa (U.jtu t s) n v (U.jQ t s k)∧((U.jQ t s k).2=[]∨jsk (U.jQ t s k).1+(U.jQ t s k).2.length+k=n):=by
    intro k;rw[hn,hv] at*;exact jl0 hs k
  refine⟨rfl,rfl,(by omega:0≤U.la (U.tc t)),(by omega:U.la (U.tc t)≤1000),rfl,j1,?_,rfl,⟨(0,[]),⟨⟨⟨rfl,rfl⟩,trivial⟩,rfl,?_,trivial⟩,jGU _,jG2 _⟩,fun x hx hql=>⟨fun hne hsl=> ?_,fun h=> ?_⟩⟩
  · show U.jo9 (U.tj t)<(((List.replicate (U.la (U.tc t)).toNat (nth [(-1:Int)] 0)).length:Nat):Int);rw[jHL];omega
  · show[U.jo9 (U.tj t)]=[]++[(((U.jo9 (U.tj t)).toNat:Nat):Int)];rw[jHh,Int.toNat_of_nonneg j1]
  · obtain⟨k,pre⟩:=x;obtain⟨hx1,hx2⟩:=hx;simp only[etk,List.drop_left] at hx1 hx2 hne hsl hql⊢;rw[←hn] at hx2⊢;obtain⟨hr,hor⟩:=hR k;have hne:0<(U.jQ t s k).2.length:=(by have:=of_decide_eq_true hne;omega);have hnil:(U.jQ t s k).2≠[]:=fun e=>by rw[e] at hne;simp at hne
    have hlen:=hr.i.len;rcases hor with hor|hor
    · exact absurd hor hnil
    have hst1:U.jQ t s (k+1)=U.qV (U.jtu t s) n (U.jQ t s k):=(by rw[hn];rfl);generalize hx0:U.jQ t s k=x0 at*;obtain⟨q0,r0,hq0⟩:∃q r,x0.2=q::r:=by
      cases hx2':x0.2 with
      |nil=>exact absurd hx2' hnil
      |cons q r=>exact⟨q,r,rfl⟩
    obtain⟨g1,g2,g3⟩:=hr.i.que q0 (by rw[hq0];simp);have hn0:nth x0.2 0=q0:=(by rw[hq0];rfl);have hla:((n:Nat):Int)=U.la (U.tc t):=(by omega);have hok5:U.jE7 t s (x0.1,x0.2) pre.length:=by
      unfold U.jE7;rw[←hn,←hv];exact⟨hr,hnil,by simp only;omega,by omega⟩
    refine⟨⟨(0,pre),⟨⟨rfl,⟨rfl,rfl⟩,trivial⟩,rfl,rfl,trivial⟩,jG2 _,jGU _,hok5⟩,?_⟩;rintro⟨i,p5⟩ ⟨hi,hp5,_⟩;simp only at hi hp5;have hI:InI (U.jtu t s) n v q0.toNat i x0 (U.qf t s (x0.1,x0.2) i):=by
      have:=jz8 (J:=U.jtu t s) hs (q:=q0.toNat) (by omega) g3 hr.i hr.le i (by omega);unfold U.qf;simp only[hn0];exact this
    have hsucc:U.qf t s (x0.1,x0.2) (i+1)=U.jh9 (U.jtu t s) q0.toNat (U.qf t s (x0.1,x0.2) i) i:=by
      unfold U.qf;simp only[hn0];exact jpu _ _ _ _
    have hfin:i=n→U.jQ t s (k+1)=((U.qf t s (x0.1,x0.2) i).1,(U.qf t s (x0.1,x0.2) i).2.drop 1):=by
      intro e;subst e;rw[hst1];have:U.qV (U.jtu t s) i x0=((U.jia (U.jtu t s) q0.toNat x0 i).1,(U.jia (U.jtu t s) q0.toNat x0 i).2.drop 1):=by
        clear hst1 hsucc hI hok5 hlen hnil hr hR hx0;obtain⟨st,qu⟩:=x0;simp only at hq0;subst hq0;rfl
      rw[this];unfold U.qf;simp only[hn0]
    generalize hFI:U.qf t s (x0.1,x0.2) i=FI at*;obtain⟨l,hl⟩:=hI.pre;have hQ:nth FI.2 0=q0:=(by rw[hl,hq0];rfl);have hpos:0<FI.2.length:=(by rw[hl,hq0];simp);have hmu:=hI.mu;have hFl:=hI.i.len;have hjn:∀i:Nat,U.jtu t s q0.toNat i=U.jdV t s q0 (i:Int):=by
      intro i;unfold U.jtu;rw[Int.toNat_of_nonneg g1]
    simp only[jD4,hQ];simp only[jGX];refine⟨fun h=> ?_,fun h=> ?_⟩
    · have h:i<n:=(by have:=of_decide_eq_true h;omega);refine⟨by omega,by omega,fun _=>by omega,fun _=>by omega,fun _=>rfl,fun _=>hok,fun _=>g1,fun _=>by omega,fun _=>by omega,fun _=>by omega,fun h2=> ?_,fun h2=> ?_⟩
      · rw[jGT] at h2;have h3:=of_decide_eq_true h2.1;have hlow:=hI.i.low q0.toNat (by omega);have hs2:U.qf t s (x0.1,x0.2) (i+1)=(FI.1.set i (nth FI.1 q0.toNat+1),FI.2++[(i:Int)]):=by
          rw[hsucc];unfold U.jh9;rw[if_pos ⟨h3,by rw[hjn];exact h2.2⟩]
        refine⟨by omega,by omega,g1,by omega,L.in64 (by omega) (by omega),by omega,by omega,by simp,hpos,by simp only[jHr,jHI];omega,by simp only[jHr,jHI];omega,fun pre' hpre'=>⟨L.in64 (by omega) (by omega),(i+1,pre'),⟨⟨by simp,⟨rfl,?_⟩,trivial⟩,?_,?_,trivial⟩,⟨by simp only;omega,by simp only;omega,hok5⟩,by simp only;omega⟩⟩
        · rw[hs2];simp
        · rw[hs2,jHc]
        · rw[hs2]
      · have hs2:U.qf t s (x0.1,x0.2) (i+1)=FI:=by
          rw[hsucc];unfold U.jh9;rw[if_neg (fun hc=>by
            rw[hjn] at hc;rw[hc.2,decide_eq_true hc.1] at h2;cases h2)]
        refine⟨L.in64 (by omega) (by omega),(i+1,p5),⟨⟨⟨rfl,?_⟩,by simp,trivial⟩,?_,?_,trivial⟩,⟨by simp only;omega,by simp only;omega,hok5⟩,by simp only;omega⟩
        · rw[hs2]
        · rw[hs2]
        · rw[hs2]
    · have h:i=n:=(by have:=of_decide_eq_false h;omega);have hf:=hfin h;have hFc:FI.2=q0::(r0++l):=(by rw[hl,hq0];rfl);refine⟨by omega,by omega,by omega,(k+1,p5++[q0]),⟨⟨⟨?_,?_⟩,trivial⟩,?_,?_,trivial⟩,⟨by simp only[jHa,jHr,jHI];omega,by simp only;omega⟩,by simp only;omega⟩
      · simp only[jHa,jHr,jHI];rfl
      · rw[hf];simp only[jHR];rfl
      · rw[hf]
      · rw[hf,hFc];simp
  · simp only[etk] at h⊢;have h:(U.jQ t s x.1).2=[]:=by
      have:=of_decide_eq_false h;exact jHy (by omega)
    have hk:x.1≤n:=(by have:=hx.2;rw[etk,←hn] at this;exact this);have h1:U.vg (U.jtu t s) (U.la (U.tc t)).toNat (U.jo9 (U.tj t)).toNat ((U.la (U.tc t)).toNat+1)=U.jQ t s x.1:=jCL (k:=x.1) h _ (by rw[←hn];omega);show((U.jQ t s x.1).1,())=((U.vg (U.jtu t s) (U.la (U.tc t)).toNat (U.jo9 (U.tj t)).toNat ((U.la (U.tc t)).toNat+1)).1,());rw[h1]
theorem jqd:ze PR 157 kY:=zv (jj7.mpr jsv) Tryz.func157 (by kernel_rfl) (by kernel_rfl) (by kernel_rfl) (by kernel_rfl) ⟨fun _=>jkm,trivial⟩ ⟨jkr,trivial⟩
end Go.X
namespace Go.X
open Go.Proofs
namespace U
def gH (t:TkD) (o:Int) (q:List (Int×PeD×Unit)):Int:=q.foldl (fun o x=>uor o (kL t x.2.1)) o
def jfp (q:List (Int×PeD×Unit)):Bool:=q.any (fun x=>jEw x.2.1)
def jnX (b:Bool) (o k:Int):Int:=if b=true then uor o k else o
def kc (t:TkD) (s:Int):Int:=jnX (decide (nth (jcd t s) (jtw (tj t)).toNat<0)) (jnX (jF6 (tl t)&& !jfp (jjR t s)) (jnX (decide (BT.size s≠max (jB5 (tj t)) (jEc (tl t)))) (gH t 0 (jjR t s)) 8) 16) 32
def jqv (c:CrD) (n:Int):Bool:=jc n 0 (2^(ji c).length-1)
def vP (c:CrD) (j:JbD) (n:Int):Int:=if zS c j≠0 then zS c j else if jqv c n=true then 0 else 1
def jE8 (c:CrD) (j:JbD) (n:Int):Int:=if vP c j n=0 then kc (c,j,gK c j,()) n else 0
def gz (c:CrD) (j:JbD) (n:Nat):List Int:=((List.range n).filter (fun i=>decide (kL (c,j,gK c j,()) (nth (ji c) i)=0))).map (fun(i:Nat)=>(i:Int))
def jak (c:CrD) (j:JbD):List Int:=if zS c j=0 then gz c j (ji c).length else[]
end U
def zz:jW:=⟨[.val (.ptr tTk),.val tPe],[.uint .u64],false,fun d=>[d.1.isSome=true,U.gw (U.tk d.1)],fun d=>(U.kL (U.tk d.1) d.2.1,())⟩
def jy3:jtk [.int,tPe]:={ps:=[.ref (.ptr tTk),.own (.box 146 [.dat (.uint .u64)]) true,.own (.box 4 [.dat .bool]) true],slots:=[2,4,5],dst:=65,pre:=fun d=>[d.1.isSome=true,U.gw (U.tk d.1)],G:=fun d q=>((U.gH (U.tk d.1) d.2.1.1 q,()),(d.2.2.1.1||U.jfp q,()),()),seq:=jv6}
def jlL:Nat→Option ((ts:List Ty)×jtk ts):=fun r=>match r with
  |4=>some ⟨[.int,tPe],jy3⟩
  |_=>none
def yj:jW:=⟨[.val (.ptr tTk),.val (.uint .u64)],[.uint .u64],false,fun d=>[d.1.isSome=true,U.gw (U.tk d.1),BT.Set' d.2.1],fun d=>(U.kc (U.tk d.1) d.2.1,())⟩
abbrev q33_0:=((0:Int),(0:Int),(0:Int),(0:Int),(0:Int),(0:Int),())
abbrev q33_1:=((0:Int),(0:Int),false,())
abbrev q33_2 (d:Option (CrD×JbD×LwD×Unit)×Int×Unit):=(U.kc (U.tk d.1) d.2.1,())
abbrev q33_3 (d:Option (CrD×JbD×LwD×Unit)×Int×Unit):=(U.jcd (U.tk d.1) d.2.1)
def jck:Prop:=∀(d:Option (CrD×JbD×LwD×Unit)×Int×Unit),d.1.isSome=true→U.gw (U.tk d.1)→BT.Set' d.2.1→(d.1.isSome=true∧(U.ji (U.tc (U.tk d.1))).length≤60)∧(d.1.isSome=true∧U.gw (U.tk d.1)∧True)∧(d.1,(U.gH (U.tk d.1) (0:Int) [],()),(false||U.jfp [],()),())=(d.1,((0:Int),()),(false,()),())∧(∀(q:List (Int×PeD×Unit)) (x:Int×PeD×Unit) (rest:List (Int×PeD×Unit)),q++x::rest=U.jjR (U.tk d.1) d.2.1→wv (fun(x:List (Int×PeD×Unit))=>false) q→d.1.isSome=true∧U.gw (U.tk d.1)∧false=false∧((uor (U.gH (U.tk d.1) (0:Int) q) (U.kL (U.tk d.1) x.2.1),()),(false||U.jfp q||x.2.1.2.2.2.2.1,()),())=((U.gH (U.tk d.1) (0:Int) (q++[x]),()),(false||U.jfp (q++[x]),()),()))∧(∀(xs:List (Int×PeD×Unit)),xs=U.jjR (U.tk d.1) d.2.1→wv (fun(x:List (Int×PeD×Unit))=>false) xs→BT.Set' d.2.1∧d.1.isSome=true∧d.1.isSome=true∧(decide (BT.size d.2.1≠max (jY (((0:Int),[],[],()),q33_0,q33_1,()) d.1).2.1.2.2.2.2.2.1 (jY (((0:Int),[],[],()),q33_0,q33_1,()) d.1).2.2.1.2.1)=true→d.1.isSome=true∧(((jY (((0:Int),[],[],()),q33_0,q33_1,()) d.1).2.2.1.2.2.1&& !(false||U.jfp xs))=true→d.1.isSome=true∧U.gw (U.tk d.1)∧d.1.isSome=true∧(0:Int)≤(jY (((0:Int),[],[],()),q33_0,q33_1,()) d.1).2.1.1∧(jY (((0:Int),[],[],()),q33_0,q33_1,()) d.1).2.1.1<(↑(q33_3 d).length:Int)∧(decide (nth (q33_3 d) (jY (((0:Int),[],[],()),q33_0,q33_1,()) d.1).2.1.1.toNat<(0:Int))=true→(uor (uor (uor (U.gH (U.tk d.1) (0:Int) xs) (8:Int)) (16:Int)) (32:Int),())=(q33_2 d))∧(decide (nth (q33_3 d) (jY (((0:Int),[],[],()),q33_0,q33_1,()) d.1).2.1.1.toNat<(0:Int))=false→(uor (uor (U.gH (U.tk d.1) (0:Int) xs) (8:Int)) (16:Int),())=(q33_2 d)))∧(((jY (((0:Int),[],[],()),q33_0,q33_1,()) d.1).2.2.1.2.2.1&& !(false||U.jfp xs))=false→d.1.isSome=true∧U.gw (U.tk d.1)∧d.1.isSome=true∧(0:Int)≤(jY (((0:Int),[],[],()),q33_0,q33_1,()) d.1).2.1.1∧(jY (((0:Int),[],[],()),q33_0,q33_1,()) d.1).2.1.1<(↑(q33_3 d).length:Int)∧(decide (nth (q33_3 d) (jY (((0:Int),[],[],()),q33_0,q33_1,()) d.1).2.1.1.toNat<(0:Int))=true→(uor (uor (U.gH (U.tk d.1) (0:Int) xs) (8:Int)) (32:Int),())=(q33_2 d))∧(decide (nth (q33_3 d) (jY (((0:Int),[],[],()),q33_0,q33_1,()) d.1).2.1.1.toNat<(0:Int))=false→(uor (U.gH (U.tk d.1) (0:Int) xs) (8:Int),())=(q33_2 d))))∧(decide (BT.size d.2.1≠max (jY (((0:Int),[],[],()),q33_0,q33_1,()) d.1).2.1.2.2.2.2.2.1 (jY (((0:Int),[],[],()),q33_0,q33_1,()) d.1).2.2.1.2.1)=false→d.1.isSome=true∧(((jY (((0:Int),[],[],()),q33_0,q33_1,()) d.1).2.2.1.2.2.1&& !(false||U.jfp xs))=true→d.1.isSome=true∧U.gw (U.tk d.1)∧d.1.isSome=true∧(0:Int)≤(jY (((0:Int),[],[],()),q33_0,q33_1,()) d.1).2.1.1∧(jY (((0:Int),[],[],()),q33_0,q33_1,()) d.1).2.1.1<(↑(q33_3 d).length:Int)∧(decide (nth (q33_3 d) (jY (((0:Int),[],[],()),q33_0,q33_1,()) d.1).2.1.1.toNat<(0:Int))=true→(uor (uor (U.gH (U.tk d.1) (0:Int) xs) (16:Int)) (32:Int),())=(q33_2 d))∧(decide (nth (q33_3 d) (jY (((0:Int),[],[],()),q33_0,q33_1,()) d.1).2.1.1.toNat<(0:Int))=false→(uor (U.gH (U.tk d.1) (0:Int) xs) (16:Int),())=(q33_2 d)))∧(((jY (((0:Int),[],[],()),q33_0,q33_1,()) d.1).2.2.1.2.2.1&& !(false||U.jfp xs))=false→d.1.isSome=true∧U.gw (U.tk d.1)∧d.1.isSome=true∧(0:Int)≤(jY (((0:Int),[],[],()),q33_0,q33_1,()) d.1).2.1.1∧(jY (((0:Int),[],[],()),q33_0,q33_1,()) d.1).2.1.1<(↑(q33_3 d).length:Int)∧(decide (nth (q33_3 d) (jY (((0:Int),[],[],()),q33_0,q33_1,()) d.1).2.1.1.toNat<(0:Int))=true→(uor (U.gH (U.tk d.1) (0:Int) xs) (32:Int),())=(q33_2 d))∧(decide (nth (q33_3 d) (jY (((0:Int),[],[],()),q33_0,q33_1,()) d.1).2.1.1.toNat<(0:Int))=false→(U.gH (U.tk d.1) (0:Int) xs,())=(q33_2 d)))))∧∀(q:List (Int×PeD×Unit)) (x:Int×PeD×Unit) (rest:List (Int×PeD×Unit)),q++x::rest=U.jjR (U.tk d.1) d.2.1→wv (fun(x:List (Int×PeD×Unit))=>false) q→false=true→(U.gH (U.tk d.1) (0:Int) (q++[x]),())=(q33_2 d)
theorem jfy:(jvQ (jtx 64 [(118,zz),(156,kZ),(157,kY)] [] [(155,jJ)] []) yj (fun _ _=>none) (hkC (jtx 64 [(118,zz),(156,kZ),(157,kY)] [] [(155,jJ)] []) (fun _=>none) jlL [] []) Tryz.f122 (jd Tryz.f122))=jck:=by kernel_rfl
def jlS:jW:=⟨[.val tCr,.val tJb,.val .int],[.ptr tTk,.int],false,fun _=>[],fun d=>(U.joU d.1 d.2.1,U.vP d.1 d.2.1 d.2.2.1,())⟩
abbrev q34_1 (d:CrD×JbD×Int×Unit):=(U.zS d.1 d.2.1=(0:Int))
abbrev q34_0 (d:CrD×JbD×Int×Unit):=(decide (q34_1 d)&& !U.jc d.2.2.1 (0:Int) ((1:Int)*(2:Int)^(d.1.2.1.length:Int).toNat-(1:Int)))
def jrj:Prop:=∀(d:CrD×JbD×Int×Unit),(decide (q34_1 d)=true→d.1.2.1.length<4611686018427387904)→(decide (q34_1 d)=true→(0:Int)≤(d.1.2.1.length:Int))∧(decide (q34_1 d)=true→(d.1.2.1.length:Int)≤(64:Int))∧(decide (q34_1 d)=true→jx ((1:Int)*(2:Int)^(d.1.2.1.length:Int).toNat))∧(decide (q34_1 d)=true→jx ((1:Int)*(2:Int)^(d.1.2.1.length:Int).toNat-(1:Int)))∧((q34_0 d)=true→(U.joU d.1 d.2.1,(1:Int),())=(U.joU d.1 d.2.1,U.vP d.1 d.2.1 d.2.2.1,()))∧((q34_0 d)=false→(U.joU d.1 d.2.1,U.zS d.1 d.2.1,())=(U.joU d.1 d.2.1,U.vP d.1 d.2.1 d.2.2.1,()))
theorem jri:zq (ctx 30 [(117,jhg),(126,kX)] []) (fun _=>none) Tryz.f121 (jd Tryz.f121) jlS=jrj:=by kernel_rfl
def jfO:jW:=⟨[.val tCr,.val tJb,.val .int],[.int,.int],false,fun _=>[],fun d=>(U.jE8 d.1 d.2.1 d.2.2.1,U.vP d.1 d.2.1 d.2.2.1,())⟩
def jlf:Prop:=∀(d:CrD×JbD×Int×Unit),(decide (U.vP d.1 d.2.1 d.2.2.1≠(0:Int))=true→((0:Int),U.vP d.1 d.2.1 d.2.2.1,())=(U.jE8 d.1 d.2.1 d.2.2.1,U.vP d.1 d.2.1 d.2.2.1,()))∧(decide (U.vP d.1 d.2.1 d.2.2.1≠(0:Int))=false→(0:Int)≤d.2.2.1∧d.2.2.1≤(18446744073709551615:Int)∧(U.joU d.1 d.2.1).isSome=true∧U.gw (U.tk (U.joU d.1 d.2.1))∧BT.Set' d.2.2.1∧jx (U.kc (U.tk (U.joU d.1 d.2.1)) d.2.2.1)∧(U.kc (U.tk (U.joU d.1 d.2.1)) d.2.2.1,(0:Int),())=(U.jE8 d.1 d.2.1 d.2.2.1,U.vP d.1 d.2.1 d.2.2.1,()))
theorem jnA:zq (ctx 25 [(121,jlS),(122,yj)] []) (fun _=>none) Tryz.f81 (jd Tryz.f81) jfO=jlf:=by kernel_rfl
def jpV:jW:=⟨[.val tCr,.val tJb],[.slice .int,.int],false,fun _=>[],fun d=>(U.jak d.1 d.2.1,U.zS d.1 d.2.1,())⟩
def jCO:Ann:=fun r=>match r with
  |6=>some fun σ=>{X:=Nat,sl:=fun i=>[(23,.dat .int (i:Int)),(8,.own 8 .int)],ob:=fun i=>[(8,some (.row 3 .int false .yes (U.gz (gd tCr σ 0) (gd tJb σ 1) i)))],inv:=fun i=>i≤(U.ji (gd tCr σ 0)).length,mu:=fun i=>(U.ji (gd tCr σ 0)).length-i}
  |_=>none
def jvv:Prop:=∀(d:CrD×JbD×Unit),(decide (U.zS d.1 d.2.1≠(0:Int))=true→([],U.zS d.1 d.2.1,())=(U.jak d.1 d.2.1,U.zS d.1 d.2.1,()))∧(decide (U.zS d.1 d.2.1≠(0:Int))=false→d.1.2.1.length<4611686018427387904→(∃(x:Nat),(((0:Int)=(x:Int)∧True∧True)∧U.gz d.1 d.2.1 x=[]∧True)∧x≤(U.ji d.1).length)∧∀(x:Nat),x≤(U.ji d.1).length→(decide ((x:Int)<(d.1.2.1.length:Int))=true→(0:Int)≤(x:Int)∧(x:Int)<(d.1.2.1.length:Int)∧(U.joU d.1 d.2.1).isSome=true∧U.gw (U.tk (U.joU d.1 d.2.1))∧(decide (U.kL (U.tk (U.joU d.1 d.2.1)) (nth d.1.2.1 (x:Int).toNat)=(0:Int))=true→((U.gz d.1 d.2.1 x).length+[(x:Int)].length)*8≤140737488355328∧jx ((x:Int)+(1:Int))∧∃(x':Nat),(((x:Int)+(1:Int)=(x':Int)∧True∧True)∧U.gz d.1 d.2.1 x++[(x:Int)]=U.gz d.1 d.2.1 x'∧True)∧x'≤(U.ji d.1).length∧(U.ji d.1).length-x'<(U.ji d.1).length-x)∧(decide (U.kL (U.tk (U.joU d.1 d.2.1)) (nth d.1.2.1 (x:Int).toNat)=(0:Int))=false→jx ((x:Int)+(1:Int))∧∃(x':Nat),((True∧(x:Int)+(1:Int)=(x':Int)∧True)∧U.gz d.1 d.2.1 x=U.gz d.1 d.2.1 x'∧True)∧x'≤(U.ji d.1).length∧(U.ji d.1).length-x'<(U.ji d.1).length-x))∧(decide ((x:Int)<(d.1.2.1.length:Int))=false→(U.gz d.1 d.2.1 x,(0:Int),())=(U.jak d.1 d.2.1,U.zS d.1 d.2.1,())))
theorem jtB:zq (ctx 38 [(117,jhg),(118,zz)] []) (jCO) Tryz.f79 (jd Tryz.f79) jpV=jvv:=by kernel_rfl
end Go.X
namespace Go.X
open Go.Proofs
theorem jyz (a b c:Bool):0≤U.jwN a b c∧U.jwN a b c≤7:=by
  unfold U.jwN U.jE6;cases a<;>cases b<;>cases c<;>simp
theorem jnr (t:TkD) (p:PeD):0≤U.kL t p∧U.kL t p≤7:=jyz _ _ _
theorem jrB {s:Int} (h:0≤s∧s≤1000):BT.Set' s:=by unfold BT.Set';omega
theorem jyn {a b:Int} (ha:0≤a∧a<64) (hb:0≤b∧b<64):0≤uor a b∧uor a b<64:=by
  obtain⟨n,rfl⟩:∃n:Nat,a=(n:Int):=⟨a.toNat,by omega⟩;obtain⟨m,rfl⟩:∃m:Nat,b=(m:Int):=⟨b.toNat,by omega⟩;rw[BT.uor_nat (by omega) (by omega)];have:n|||m<2^6:=Nat.or_lt_two_pow (by omega) (by omega);omega
theorem jtD (t:TkD):∀(q:List (Int×PeD×Unit)) (o:Int),(0≤o∧o<64)→0≤U.gH t o q∧U.gH t o q<64
  |[],o,h=>h
  |x::q,o,h=>by
    have:=jnr t x.2.1
    exact jtD t q _ (jyn h ⟨by omega,by omega⟩)
theorem jme {b:Bool} {o k:Int} (h:0≤o∧o<64) (hk:0≤k∧k<64):0≤U.jnX b o k∧U.jnX b o k<64:=by
  unfold U.jnX
  split
  · exact jyn h hk
  · exact h
theorem jxZ (t:TkD) (s:Int):0≤U.kc t s∧U.kc t s<64:=by
  unfold U.kc;exact jme (jme (jme (jtD t _ _ (by omega)) (by omega)) (by omega)) (by omega)
theorem jyo (t:TkD) (o:Int) (q:List (Int×PeD×Unit)) (x:Int×PeD×Unit):U.gH t o (q++[x])=uor (U.gH t o q) (U.kL t x.2.1):=by
  unfold U.gH;rw[jHp];rfl
theorem jCr {t:TkD} {s:Int} (hok:U.gw t):((U.jcd t s).length:Int)=U.la (U.tc t):=by
  obtain⟨l1,l2,j1,j2⟩:=jsQ (s:=s) hok;have hs:(U.jo9 (U.tj t)).toNat<(U.la (U.tc t)).toNat:=(by omega);have:=(jl0 (J:=U.jtu t s) hs ((U.la (U.tc t)).toNat+1)).1.i.len;have e:(U.jcd t s).length=(U.la (U.tc t)).toNat:=this;omega
theorem jmJ:jck:=by
  unfold jck q33_3 q33_2 q33_1 q33_0;rintro⟨(_|t),s,⟨⟩⟩ h0 hok hset
  · cases h0
  have hok:U.gw t:=hok;have hset:BT.Set' s:=hset;obtain⟨c1,c2,_⟩:=id hok;obtain⟨_,_,f3,_⟩:=jG c1;obtain⟨⟨g1,g2⟩,_⟩:=jdW c2;have hfl:=jCr (s:=s) hok;have etk:U.tk (some t)=t:=rfl;have hfr:0≤U.jtw (U.tj t)∧U.jtw (U.tj t)<(((U.jcd t s).length:Nat):Int):=⟨g1,by omega⟩;refine⟨⟨rfl,(by omega:(U.ji (U.tc t)).length≤60)⟩,⟨rfl,hok,trivial⟩,rfl,fun q x rest hq _=>⟨rfl,hok,rfl,?_⟩,fun xs hxs _=>⟨hset,rfl,rfl,?_⟩,fun q x rest _ _ h=>by cases h⟩
  · simp only[etk,jyo];unfold U.jfp;simp only[List.any_append,List.any_cons,List.any_nil,Bool.or_false,Bool.false_or];rfl
  · simp only[etk] at hxs⊢;subst hxs;have key:∀(b1 b2 b3:Bool),decide (BT.size s≠max (U.jB5 (U.tj t)) (U.jEc (U.tl t)))=b1→(U.jF6 (U.tl t)&& !U.jfp (U.jjR t s))=b2→decide (nth (U.jcd t s) (U.jtw (U.tj t)).toNat<0)=b3→
        U.jnX b3 (U.jnX b2 (U.jnX b1 (U.gH t 0 (U.jjR t s)) 8) 16) 32=U.kc t s:=by
      intro b1 b2 b3 h1 h2 h3;unfold U.kc;rw[h1,h2,h3]
    refine⟨fun h1=>⟨rfl,fun h2=>⟨rfl,hok,rfl,hfr.1,hfr.2,fun h3=> ?_,fun h3=> ?_⟩,fun h2=>⟨rfl,hok,rfl,hfr.1,hfr.2,fun h3=> ?_,fun h3=> ?_⟩⟩,fun h1=>⟨rfl,fun h2=>⟨rfl,hok,rfl,hfr.1,hfr.2,fun h3=> ?_,fun h3=> ?_⟩,fun h2=>⟨rfl,hok,rfl,hfr.1,hfr.2,fun h3=> ?_,fun h3=> ?_⟩⟩⟩<;>
      (rw[Bool.false_or] at h2;have:=key _ _ _ h1 h2 h3;rw[←this];rfl)
theorem jp6 {c:CrD} (h:U.jq c=true):(0:Int)<2^(U.ji c).length∧(2:Int)^(U.ji c).length≤256:=by
  obtain⟨_,_,f3,_⟩:=jG h;rw[BT.two_nat];have h1:2^(U.ji c).length≤2^8:=Nat.pow_le_pow_right (by decide) f3;have h2:0<2^(U.ji c).length:=Nat.pow_pos (by decide);omega
theorem jCe:jrj:=by
  unfold jrj q34_0 q34_1;rintro⟨c,j,n,⟨⟩⟩ _;have e0:∀l:Nat,(1:Int)*2^((l:Int)).toNat=2^l:=fun l=>by rw[Int.one_mul,jGX]
  simp only[e0];refine⟨fun _=>by omega,fun h=> ?_,fun h=> ?_,fun h=> ?_,fun h=> ?_,fun h=> ?_⟩
  · have:=(jG (jgC (of_decide_eq_true h)).1).2.2.1;have this:c.2.1.length≤8:=this;omega
  · have:=jp6 (jgC (of_decide_eq_true h)).1;have this:(0:Int)<2^c.2.1.length∧(2:Int)^c.2.1.length≤256:=this;exact L.in64 (by omega) (by omega)
  · have:=jp6 (jgC (of_decide_eq_true h)).1;have this:(0:Int)<2^c.2.1.length∧(2:Int)^c.2.1.length≤256:=this;exact L.in64 (by omega) (by omega)
  · rw[jGT] at h;have h1:=of_decide_eq_true h.1;have h2:U.jqv c n=false:=by
      have h3:U.jc n 0 (2^c.2.1.length-1)=false:=(by simpa using h.2);exact h3
    unfold U.vP;rw[if_neg (by omega),if_neg (by rw[h2];simp)]
  · unfold U.vP;by_cases h1:U.zS c j=0
    · rw[decide_eq_true h1,Bool.true_and] at h;have h2:U.jqv c n=true:=by
        have h3:U.jc n 0 (2^c.2.1.length-1)=true:=(by simpa using h);exact h3
      rw[if_neg (by omega),if_pos h2,h1]
    · rw[if_pos h1]
theorem jzv:ze PR 121 jlS:=zv (jri.mpr jCe) Tryz.func121 (by kernel_rfl) (by kernel_rfl) (by kernel_rfl) (by kernel_rfl) ⟨fun _=>jr1,fun _=>qn,trivial⟩ trivial
theorem jwI {c:CrD} {j:JbD} {n:Int} (h:U.vP c j n=0):U.zS c j=0∧0≤n∧n<2^(U.ji c).length:=by
  unfold U.vP at h
  split at h
  · rename_i h1;omega
  · rename_i h1
    split at h
    · rename_i h2;unfold U.jqv U.jc at h2;simp only[jGT,decide_eq_true_eq] at h2;exact⟨by omega,h2.1,by omega⟩
    · omega
theorem jxl:jlf:=by
  rintro⟨c,j,n,⟨⟩⟩;refine⟨fun h=> ?_,fun h=> ?_⟩
  · have h:U.vP c j n≠0:=of_decide_eq_true h;simp only;unfold U.jE8;rw[if_neg h]
  · have h:U.vP c j n=0:=(by simpa using h);obtain⟨h1,h2,h3⟩:=jwI h;obtain⟨e1,e2⟩:=jzm h1;have hp:=jp6 (jgC h1).1;have etk:U.tk (U.joU c j)=(c,j,U.gK c j,()):=(by rw[e1];rfl);have hb:=jxZ (c,j,U.gK c j,()) n;simp only[etk];refine⟨h2,by omega,by rw[e1];rfl,e2,jrB ⟨h2,by omega⟩,L.in64 (by omega) (by omega),?_⟩;unfold U.jE8;rw[if_pos h,h]
theorem jo3 (c:CrD) (j:JbD) (n:Nat):U.gz c j (n+1)=U.gz c j n++(if U.kL (c,j,U.gK c j,()) (nth (U.ji c) n)=0 then[(n:Int)] else[]):=by
  unfold U.gz;rw[L.range_filter_succ,jHF];by_cases h:U.kL (c,j,U.gK c j,()) (nth (U.ji c) n)=0
  · rw[if_pos (decide_eq_true h),if_pos h];rfl
  · rw[if_neg (by simpa using h),if_neg h];rfl
theorem jzQ (c:CrD) (j:JbD) (n:Nat):(U.gz c j n).length≤n:=by
  unfold U.gz;rw[jHO];exact jG5 (jHM _ _) (by simp)
theorem jEj:jvv:=by
  rintro⟨c,j,⟨⟩⟩;refine⟨fun h=> ?_,fun h _=>⟨⟨0,⟨⟨rfl,trivial,trivial⟩,rfl,trivial⟩,jG2 _⟩,fun x hx=>⟨fun h2=> ?_,fun h2=> ?_⟩⟩⟩
  · have h:U.zS c j≠0:=of_decide_eq_true h;simp only;unfold U.jak;rw[if_neg h]
  · have h:U.zS c j=0:=(by simpa using h);obtain⟨e1,e2⟩:=jzm h;have etk:U.tk (U.joU c j)=(c,j,U.gK c j,()):=(by rw[e1];rfl);have h2:x<(U.ji c).length:=by
      have h2:=of_decide_eq_true h2;have h2:(x:Int)<((U.ji c).length:Int):=h2;omega
    have hb:(x:Int)<((U.ji c).length:Int):=(by omega);have h8:=(jG (jgC h).1).2.2.1;have hl:=jzQ c j x;simp only[etk,jGX];refine⟨by omega,hb,by rw[e1];rfl,e2,fun h3=>⟨by simp only[jHr,jHI];omega,L.in64 (by omega) (by omega),x+1,⟨⟨by simp,trivial,trivial⟩,?_,trivial⟩,h2,by omega⟩,fun h3=>⟨L.in64 (by omega) (by omega),x+1,⟨⟨trivial,by simp,trivial⟩,?_,trivial⟩,h2,by omega⟩⟩
    · have h3:U.kL (c,j,U.gK c j,()) (nth (U.ji c) x)=0:=of_decide_eq_true h3;rw[jo3,if_pos h3]
    · have h3:¬U.kL (c,j,U.gK c j,()) (nth (U.ji c) x)=0:=of_decide_eq_false h3;rw[jo3,if_neg h3,jHf]
  · have h:U.zS c j=0:=(by simpa using h);have h2:(U.ji c).length≤x:=by
      have h2:=of_decide_eq_false h2;have h2:¬(x:Int)<((U.ji c).length:Int):=h2;omega
    have hx:x≤(U.ji c).length:=hx;simp only;unfold U.jak;rw[if_pos h,h,show x=(U.ji c).length by omega]
end Go.X
namespace Go.X
open Go.Proofs
def jnn:Ann:=fun r=>match r with
  |2=>some fun σ=>{X:=List (Int×Int)×Int,sl:=fun x=>[(4,.dat (.uint .u64) x.2)],ob:=fun x=>[(37,some (.iter .int .int x.1 none))],inv:=fun x=>U.yc (U.jhK (U.tk (gd (.ptr tTk) σ 0)) (gd tPe σ 1)) x.1 x.2,mu:=fun x=>x.1.length}
  |_=>none
abbrev q37_0:=((0:Int),(0:Int),(0:Int),(0:Int),(0:Int),(0:Int),())
abbrev q37_1:=((0:Int),(0:Int),false,())
def jc3:Prop:=∀(d:Option (CrD×JbD×LwD×Unit)×PeD×Unit),d.1.isSome=true→U.gw (U.tk d.1)→d.1.isSome=true∧d.1.isSome=true∧(0:Int)≤(jY (((0:Int),[],[],()),q37_0,q37_1,()) d.1).2.1.2.2.2.1∧(jY (((0:Int),[],[],()),q37_0,q37_1,()) d.1).2.1.2.2.2.1≤(64:Int)∧d.1.isSome=true∧(0:Int)≤(jY (((0:Int),[],[],()),q37_0,q37_1,()) d.1).2.1.2.2.2.2.1∧(jY (((0:Int),[],[],()),q37_0,q37_1,()) d.1).2.1.2.2.2.2.1≤(64:Int)∧[(0:Int),(1:Int),(2:Int)].Nodup∧∀(l:List (Int×Int)),l.Perm [((0:Int),U.jE6 !d.2.1.2.2.2.1.any fun(x:Int)=>decide (x=(jY (((0:Int),[],[],()),q37_0,q37_1,()) d.1).2.1.2.2.1)),((1:Int),ya (d.2.1.2.1/(2:Int)^(jY (((0:Int),[],[],()),q37_0,q37_1,()) d.1).2.1.2.2.2.1.toNat) (1:Int)),((2:Int),ya (d.2.1.2.2.1/(2:Int)^(jY (((0:Int),[],[],()),q37_0,q37_1,()) d.1).2.1.2.2.2.2.1.toNat) (1:Int))]→(((∃(x:List (Int×Int)×Int),(((0:Int)=x.2∧True)∧l=x.1∧True)∧U.yc (U.jhK (U.tk d.1) d.2.1) x.1 x.2)∧∀(x:List (Int×Int)×Int),U.yc (U.jhK (U.tk d.1) d.2.1) x.1 x.2→(x.1=[]→(false=true→False)∧(false=false→(x.2,())=(U.kL (U.tk d.1) d.2.1,())))∧∀(pre:List (Int×Int)) (x_2:Int×Int) (post:List (Int×Int)),x.1=pre++x_2::post→(true=true→(decide (x_2.2=(0:Int))=true→(0:Int)≤x_2.1∧x_2.1≤(64:Int)∧(0:Int)≤(1:Int)*(2:Int)^x_2.1.toNat∧(1:Int)*(2:Int)^x_2.1.toNat≤(18446744073709551615:Int)∧∃(x':List (Int×Int)×Int),((uor x.2 ((1:Int)*(2:Int)^x_2.1.toNat)=x'.2∧True)∧pre++post=x'.1∧True)∧U.yc (U.jhK (U.tk d.1) d.2.1) x'.1 x'.2∧x'.1.length<x.1.length)∧(decide (x_2.2=(0:Int))=false→∃(x':List (Int×Int)×Int),((x.2=x'.2∧True)∧pre++post=x'.1∧True)∧U.yc (U.jhK (U.tk d.1) d.2.1) x'.1 x'.2∧x'.1.length<x.1.length))∧(true=false→(x.2,())=(U.kL (U.tk d.1) d.2.1,())))∧True)∧True
theorem jgX:zq (ctx 50 [(105,ww),(153,jiu)] []) (jnn) Tryz.f118 (jd Tryz.f118) zz=jc3:=by kernel_rfl
end Go.X
namespace Go.X
open Go.Proofs
theorem jwr (z:Int):ya z 1=0∨ya z 1=1:=by
  unfold ya;rw[BitVec.toNat_and];have h1:(BitVec.ofInt 64 1).toNat=1:=rfl;rw[h1,Nat.and_one_is_mod];rcases Nat.mod_two_eq_zero_or_one (BitVec.ofInt 64 z).toNat with h|h
  · rw[h];exact .inl rfl
  · rw[h];exact .inr rfl
theorem jwq (s n:Int):(ya (s/2^n.toNat) 1=0)↔(!U.kf s n)=true:=by
  unfold U.kf;rcases jwr (s/2^n.toNat) with h|h<;>rw[h]<;>simp
theorem jBu (a b c:Bool) (p:Nat):BT.has (U.jwN a b c) p=true↔(a=true∧p=0)∨(b=true∧p=1)∨(c=true∧p=2):=by
  match p with
  |0=>cases a<;>cases b<;>cases c<;>decide
  |1=>cases a<;>cases b<;>cases c<;>decide
  |2=>cases a<;>cases b<;>cases c<;>decide
  |p+3=>
    have h:=jyz a b c;have:BT.has (U.jwN a b c) (p+3)=false:=by
      cases hb:BT.has (U.jwN a b c) (p+3) with
      |false=>rfl
      |true=>have:=BT.has_lt (k:=3) h.1 (by omega) hb;omega
    rw[this];simp
theorem jB4 (t:TkD) (p:PeD) (k:Nat):(∃e∈U.jhK t p,e.2=0∧e.1.toNat=k)↔BT.has (U.kL t p) k=true:=by
  unfold U.kL;rw[jBu];have e1:U.jE6 (!U.jbH p (U.jBl (U.tj t)))=0↔U.jbH p (U.jBl (U.tj t))=true:=by
    unfold U.jE6;cases U.jbH p (U.jBl (U.tj t))<;>simp
  have e2:=jwq (U.fd p) (U.jut (U.tj t));have e3:=jwq (U.cl p) (U.jtv (U.tj t));unfold U.jhK;simp only[jGS,List.not_mem_nil,or_false];rw[←e1,←e2,←e3];constructor
  · rintro⟨e,(rfl|rfl|rfl),h1,h2⟩
    · exact .inl ⟨h1,h2.symm⟩
    · exact .inr (.inl ⟨h1,h2.symm⟩)
    · exact .inr (.inr ⟨h1,h2.symm⟩)
  · rintro(⟨h1,h2⟩|⟨h1,h2⟩|⟨h1,h2⟩)
    · exact⟨_,.inl rfl,h1,h2.symm⟩
    · exact⟨_,.inr (.inl rfl),h1,h2.symm⟩
    · exact⟨_,.inr (.inr rfl),h1,h2.symm⟩
theorem jB3 {t:TkD} {p:PeD} {e:Int×Int} (h:e∈U.jhK t p):0≤e.1∧e.1≤2:=by
  unfold U.jhK at h;simp only[jGS,List.not_mem_nil,or_false] at h;rcases h with rfl|rfl|rfl<;>simp
theorem jxg (t:TkD) (p:PeD):(U.jhK t p).Nodup:=by
  unfold U.jhK;simp
theorem jvs {t:TkD} {p:PeD} {l:List (Int×Int)} (h:l.Perm (U.jhK t p)):U.yc (U.jhK t p) l 0:=by
  refine⟨BT.zero_set,h.symm.nodup (jxg t p),fun e he=>h.mem_iff.1 he,fun k=> ?_⟩;rw[BT.has_zero];constructor
  · intro h;cases h
  · rintro⟨e,h1,h2,_⟩;exact absurd (h.mem_iff.2 h1) h2
theorem jya {t:TkD} {p:PeD} {s:Int} (h:U.yc (U.jhK t p) [] s):s=U.kL t p:=by
  obtain⟨h1,_,_,h4⟩:=h;refine BT.ext h1 (jrB (by have:=jnr t p;omega)) (fun k=> ?_);rw[jHk,h4,←jB4];constructor
  · rintro⟨e,h1,_,h2⟩;exact⟨e,h1,h2⟩
  · rintro⟨e,h1,h2⟩;exact⟨e,h1,by simp,h2⟩
theorem jpx {all pre post:List (Int×Int)} {e:Int×Int} {s s':Int} (h:U.yc all (pre++e::post) s) (hs:BT.Set' s') (hk:∀k,BT.has s' k=true↔BT.has s k=true∨(e.2=0∧e.1.toNat=k)):U.yc all (pre++post) s':=by
  obtain⟨h1,h2,h3,h4⟩:=h;have hn:(e::(pre++post)).Nodup:=List.perm_middle.nodup h2;have hmem:∀x,x∈pre++e::post↔x=e∨x∈pre++post:=fun x=>by rw[List.perm_middle.mem_iff,jGS]
  rw[jHJ] at hn;refine⟨hs,hn.2,fun x hx=>h3 x ((hmem x).2 (.inr hx)),fun k=> ?_⟩;rw[hk,h4];constructor
  · rintro(⟨x,a1,a2,a3⟩|⟨a1,a2⟩)
    · exact⟨x,a1,fun hx=>a2 ((hmem x).2 (.inr hx)),a3⟩
    · exact⟨e,h3 e ((hmem e).2 (.inl rfl)),hn.1,a1,a2⟩
  · rintro⟨x,a1,a2,a3⟩;by_cases hx:x=e
    · subst hx;exact .inr a3
    · exact .inl ⟨x,a1,fun hm=>by rcases(hmem x).1 hm with h|h;exact hx h;exact a2 h,a3⟩
theorem jn8:jc3:=by
  unfold jc3 q37_1 q37_0;rintro⟨(_|t),p,⟨⟩⟩ h0 hok
  · cases h0
  have hok:U.gw t:=hok;have etk:U.tk (some t)=t:=rfl;obtain⟨c1,c2,_⟩:=id hok;obtain⟨_,_,_,⟨g1,g2⟩,⟨g3,g4⟩,_⟩:=jdW c2;have g1:0≤t.2.1.2.2.2.1:=g1;have g2:t.2.1.2.2.2.1≤7:=g2;have g3:0≤t.2.1.2.2.2.2.1:=g3;have g4:t.2.1.2.2.2.2.1≤3:=g4;refine⟨rfl,rfl,g1,by simp only[jY];omega,rfl,g3,by simp only[jY];omega,by decide,fun l hl=>⟨⟨⟨⟨(l,0),⟨⟨rfl,trivial⟩,rfl,trivial⟩,jvs hl⟩,fun x hx=>⟨fun h=>⟨fun h=>(by cases h),fun _=> ?_⟩,fun pre e post h=>⟨fun _=> ?_,fun h=>(by cases h)⟩⟩⟩,trivial⟩,trivial⟩⟩
  · rw[h] at hx;rw[jya hx]
  · rw[h] at hx;have he:e∈U.jhK t p:=hx.2.2.1 e (by simp);have hk:=jB3 he;obtain⟨k,hk1,hk2⟩:∃k:Nat,e.1=(k:Int)∧k≤2:=⟨e.1.toNat,by omega,by omega⟩;have hp:(1:Int)*2^k=2^k:=Int.one_mul _;have hlen:(pre++post).length<x.1.length:=(by rw[h];simp);have h2:BT.Set' ((2:Int)^k):=BT.two_set (by omega);refine⟨fun hz=> ?_,fun hz=> ?_⟩
    · have hz:e.2=0:=of_decide_eq_true hz;rw[hk1,jGX,hp];refine⟨by omega,by omega,by unfold BT.Set' at h2;omega,by unfold BT.Set' at h2;omega,(pre++post,uor x.2 (2^k)),⟨⟨rfl,trivial⟩,rfl,trivial⟩,jpx hx (BT.uor_set hx.1 h2) (fun j=> ?_),hlen⟩;rw[BT.has_uor hx.1 h2,BT.has_two,jHY,decide_eq_true_eq,hk1,jGX];simp[hz]
    · have hz:¬e.2=0:=of_decide_eq_false hz;exact⟨(pre++post,x.2),⟨⟨rfl,trivial⟩,rfl,trivial⟩,jpx hx hx.1 (fun j=>by simp[hz]),hlen⟩
theorem jdI:ze PR 118 zz:=zv (jgX.mpr jn8) Tryz.func118 (by kernel_rfl) (by kernel_rfl) (by kernel_rfl) (by kernel_rfl) ⟨fun _=>jag,fun _=>jw1,trivial⟩ trivial
theorem js3:(jtx 64 [(118,zz),(156,kZ),(157,kY)] [] [(155,jJ)] []).ok PR:=ju8 ⟨fun _=>jdI,fun _=>jqe,fun _=>jqd,trivial⟩ trivial ⟨ja3,trivial⟩ trivial
theorem jkn:ze PR 122 yj:=
  jy4 (body:=jd Tryz.f122) (C:=jtx 64 [(118,zz),(156,kZ),(157,kY)] [] [(155,jJ)] []) (hk:=hkC (jtx 64 [(118,zz),(156,kZ),(157,kY)] [] [(155,jJ)] []) (fun _=>none) jlL [] []) js3 mixed Tryz.func122 (by kernel_rfl) (by kernel_rfl) (by kernel_rfl) (by decide)
    (fun B=>jpg js3 mixed (fun k ts rs sv pr L v ρ hk hs hpr hd=>by
      unfold jlL at hk
      split at hk
      case h_2=>cases hk
      simp only[Option.some.injEq] at hk
      cases hk
      exact jsm hs hpr hd) jD5 B) (jfy.mpr jmJ)
theorem jud:ze PR 81 jfO:=zv (jnA.mpr jxl) Tryz.func81 (by kernel_rfl) (by kernel_rfl) (by kernel_rfl) (by kernel_rfl) ⟨fun _=>jzv,fun _=>jkn,trivial⟩ trivial
theorem jBR:ze PR 79 jpV:=zv (jtB.mpr jEj) Tryz.func79 (by kernel_rfl) (by kernel_rfl) (by kernel_rfl) (by kernel_rfl) ⟨fun _=>jr1,fun _=>jdI,trivial⟩ trivial
end Go.X
namespace Go.X
namespace U
def jbq (a b:Int):Int:=if a<b then-1 else if b<a then 1 else 0
def wV (l:List Int):Int:=match l.find? (fun n=>decide (n≠0)) with|some n=>n|none=>0
end U
structure jcX {α:Type} (c:α→α→Int):Prop where
  anti:∀a b,c b a= -(c a b)
  trans:∀a b d,c a b≤0→c b d≤0→c a d≤0
section
variable {α:Type} {c c1 c2:α→α→Int}
theorem jcX.refl (h:jcX c) (a:α):c a a=0:=by have:=h.anti a a;omega
theorem jcX.lt_le (h:jcX c) {a b d:α} (h1:c a b<0) (h2:c b d≤0):c a d<0:=by
  have h3:=h.trans a b d (by omega) h2;have h4:=h.anti a d;have h5:=h.anti a b;by_cases e:c a d=0
  · have:=h.trans b d a h2 (by omega);omega
  · omega
theorem jcX.le_lt (h:jcX c) {a b d:α} (h1:c a b≤0) (h2:c b d<0):c a d<0:=by
  have h3:=h.trans a b d h1 (by omega);have h4:=h.anti a d;have h5:=h.anti b d;by_cases e:c a d=0
  · have:=h.trans d a b (by omega) h1;omega
  · omega
theorem jcX.eq_eq (h:jcX c) {a b d:α} (h1:c a b=0) (h2:c b d=0):c a d=0:=by
  have h3:=h.trans a b d (by omega) (by omega);have h4:=h.anti a d;have h5:=h.anti a b;have h6:=h.anti b d;have:=h.trans d b a (by omega) (by omega);omega
def jBk (c1 c2:α→α→Int) (a b:α):Int:=if c1 a b≠0 then c1 a b else c2 a b
theorem jiV (h1:jcX c1) (h2:jcX c2):jcX (jBk c1 c2) where
  anti a b:=by
    have k1:=h1.anti a b;have k2:=h2.anti a b;unfold jBk;by_cases e:c1 a b=0
    · rw[if_neg (by omega),if_neg (by omega)];exact k2
    · rw[if_pos (by omega),if_pos e];exact k1
  trans a b d:=by
    unfold jBk;by_cases e:c1 a b=0
    · rw[if_neg (by omega)];by_cases f:c1 b d=0
      · rw[if_neg (by omega),if_neg (by have:=h1.eq_eq e f;omega)];exact h2.trans a b d
      · rw[if_pos f];intro _ k;have:=h1.le_lt (a:=a) (b:=b) (d:=d) (by omega) (by omega);rw[if_pos (by omega)];omega
    · rw[if_pos e];intro k;by_cases f:c1 b d=0
      · rw[if_neg (by omega)];intro _;have:=h1.lt_le (a:=a) (b:=b) (d:=d) (by omega) (by omega);rw[if_pos (by omega)];omega
      · rw[if_pos f];intro k2;have:=h1.lt_le (a:=a) (b:=b) (d:=d) (by omega) (by omega);rw[if_pos (by omega)];omega
theorem jjL {β:Type} (h:jcX c) (f:β→α):jcX (fun a b=>c (f a) (f b)):=⟨fun a b=>h.anti (f a) (f b),fun a b d=>h.trans (f a) (f b) (f d)⟩
end
theorem jh7:jcX U.jbq:=by
  constructor
  · intro a b;unfold U.jbq;split<;>split<;>(try split)<;>(try split)<;>omega
  · intro a b d;unfold U.jbq;split<;>split<;>(try split)<;>(try split)<;>(try split)<;>(try split)<;>omega
theorem jAO {a b:Int}:U.jbq a b<0↔a<b:=by
  unfold U.jbq
  split
  · simp;omega
  · split<;>simp<;>omega
theorem yH {a b:Int}:U.jbq a b=0↔a=b:=by
  unfold U.jbq
  split
  · simp;omega
  · split
    · simp;omega
    · simp;omega
theorem zo (x:Int) (l:List Int):U.wV (x::l)=if x≠0 then x else U.wV l:=by
  unfold U.wV;by_cases e:x=0
  · simp[List.find?,e]
  · simp[List.find?,e]
theorem wK (x:Int):U.wV [x]=x:=by
  rw[zo]
  split
  · rfl
  · rename_i h;have:x=0:=(by omega);rw[this];rfl
theorem jqa {t:Ty} {c:t.Data→t.Data→Int} (hc:jcX c) {l:List t.Data} (h:∀x y,x∈l→y∈l→c x y=0→x=y):kQ (U.jg t fun x=>(c x.1 x.2.1,())) l where
  irrefl x _:=by
    unfold U.jg;have:=hc.refl x;simp only[this];rfl
  trans x y z _ _ _ h1 h2:=by
    unfold U.jg at*;have h1:=of_decide_eq_true h1;have h2:=of_decide_eq_true h2;exact decide_eq_true (hc.lt_le h1 (by have h2:c y z<0:=h2;show c y z≤0;omega))
  total x y hx hy h1 h2:=by
    unfold U.jg at*;have h1:¬c x y<0:=of_decide_eq_false h1;have h2:¬c y x<0:=of_decide_eq_false h2;have:=hc.anti x y;exact h x y hx hy (by omega)
end Go.X
namespace Go.X
namespace M
theorem mput_cons {kt:Ty} {β:Type} (k:kt.Data) (v:β) (e:kt.Data×β) (r:List (kt.Data×β)):jgi kt k v (e::r)=if @decide (k=e.1) (kt.decEq k e.1)=true then(k,v)::r else e::jgi kt k v r:=rfl
theorem mfind_cons {kt:Ty} {β:Type} (k:kt.Data) (e:kt.Data×β) (r:List (kt.Data×β)):zC kt k (e::r)=if @decide (k=e.1) (kt.decEq k e.1)=true then some e.2 else zC kt k r:=rfl
theorem dec_self {kt:Ty} (k:kt.Data): @decide (k=k) (kt.decEq k k)=true:= @decide_eq_true _ (kt.decEq k k) rfl
theorem mput_fst {kt:Ty} {β:Type} (k:kt.Data) (v:β):∀m:List (kt.Data×β),(jgi kt k v m).map (·.1)=m.map (·.1)∨(k∉m.map (·.1)∧(jgi kt k v m).map (·.1)=m.map (·.1)++[k])
  |[]=> .inr ⟨by simp,rfl⟩
  |e::r=>by
    rw[mput_cons]
    by_cases h: @decide (k=e.1) (kt.decEq k e.1)=true
    · rw[if_pos h]
      have h:k=e.1:= @of_decide_eq_true _ (kt.decEq k e.1) h
      left
      simp[h]
    · rw[if_neg h]
      have h:¬k=e.1:=fun e'=>h (@decide_eq_true _ (kt.decEq k e.1) e')
      rcases mput_fst k v r with ih|⟨i1,i2⟩
      · left;simp only[jHU,ih]
      · right
        refine⟨?_,by simp only[jHU,i2,jHi]⟩
        rw[jHU,jGS]
        rintro(e'|e')
        · exact h e'
        · exact i1 e'
theorem mfind_mput {kt:Ty} {β:Type} (k:kt.Data) (v:β):∀l:List (kt.Data×β),zC kt k (jgi kt k v l)=some v
  |[]=>by
    rw[show jgi kt k v []=[(k,v)] from rfl,mfind_cons,if_pos (dec_self k)]
  |e::r=>by
    rw[mput_cons]
    by_cases h: @decide (k=e.1) (kt.decEq k e.1)=true
    · rw[if_pos h,mfind_cons,if_pos (dec_self k)]
    · rw[if_neg h,mfind_cons,if_neg h]
      exact mfind_mput k v r
theorem mfind_mput_ne {kt:Ty} {β:Type} {k k':kt.Data} (hne:k'≠k) (v:β):∀l:List (kt.Data×β),zC kt k' (jgi kt k v l)=zC kt k' l
  |[]=>by
    rw[show jgi kt k v []=[(k,v)] from rfl,mfind_cons,if_neg (fun e=>hne (@of_decide_eq_true _ (kt.decEq k' k) e))]
  |e::r=>by
    rw[mput_cons]
    by_cases h: @decide (k=e.1) (kt.decEq k e.1)=true
    · rw[if_pos h]
      have h:k=e.1:= @of_decide_eq_true _ (kt.decEq k e.1) h
      have hn:¬@decide (k'=e.1) (kt.decEq k' e.1)=true:=fun e'=>hne ((@of_decide_eq_true _ (kt.decEq k' e.1) e').trans h.symm)
      rw[mfind_cons,mfind_cons,if_neg hn,if_neg (fun e=>hne (@of_decide_eq_true _ (kt.decEq k' k) e))]
    · rw[if_neg h,mfind_cons,mfind_cons,mfind_mput_ne hne v r]
end M
end Go.X
namespace Go.Proofs
open Go.Shelf
def Tryz.sortSh_ren:Go.Shelf.Ren:=⟨fun|6=>98|15=>143|14=>142|28=>175|29=>176|20=>167|21=>168|22=>169|23=>170|24=>171|25=>172|26=>173|27=>174|46=>195|47=>196|48=>197|49=>198|50=>199|57=>212|n=>n,fun|22=>28|24=>54|25=>128|3=>3|39=>95|0=>0|53=>188|55=>190|4=>4|46=>181|45=>180|50=>185|5=>5|9=>9|66=>203|70=>207|76=>218|77=>219|n=>n,fun|n=>n⟩
theorem Tryz.sortSh:Go.Proofs.SlLaysF0.n6 Tryz.prog Tryz.sortSh_ren:={
  mixed:=by kernel_rfl
  f6:=⟨Tryz.f98.name,by decide,Tryz.func98.trans (congrArg some (by kernel_rfl))⟩
  f14:=⟨Tryz.f142.name,by decide,Tryz.func142.trans (congrArg some (by kernel_rfl))⟩
  f15:=Tryz.func143.trans (congrArg some (by kernel_rfl))
  f20:=⟨Tryz.f167.name,by decide,Tryz.func167.trans (congrArg some (by kernel_rfl))⟩
  f21:=⟨Tryz.f168.name,by decide,Tryz.func168.trans (congrArg some (by kernel_rfl))⟩
  f22:=⟨Tryz.f169.name,by decide,Tryz.func169.trans (congrArg some (by kernel_rfl))⟩
  f23:=⟨Tryz.f170.name,by decide,Tryz.func170.trans (congrArg some (by kernel_rfl))⟩
  f24:=⟨Tryz.f171.name,by decide,Tryz.func171.trans (congrArg some (by kernel_rfl))⟩
  f25:=⟨Tryz.f172.name,by decide,Tryz.func172.trans (congrArg some (by kernel_rfl))⟩
  f26:=⟨Tryz.f173.name,by decide,Tryz.func173.trans (congrArg some (by kernel_rfl))⟩
  f27:=⟨Tryz.f174.name,by decide,Tryz.func174.trans (congrArg some (by kernel_rfl))⟩
  f28:=Tryz.func175.trans (congrArg some (by kernel_rfl))
  f29:=Tryz.func176.trans (congrArg some (by kernel_rfl))
  f46:=⟨Tryz.f195.name,by decide,Tryz.func195.trans (congrArg some (by kernel_rfl))⟩
  f47:=Tryz.func196.trans (congrArg some (by kernel_rfl))
  f48:=Tryz.func197.trans (congrArg some (by kernel_rfl))
  f49:=⟨Tryz.f198.name,by decide,Tryz.func198.trans (congrArg some (by kernel_rfl))⟩
  f50:=⟨Tryz.f199.name,by decide,Tryz.func199.trans (congrArg some (by kernel_rfl))⟩
  f57:=⟨Tryz.f212.name,by decide,Tryz.func212.trans (congrArg some (by kernel_rfl))⟩
  t0:=Tryz.underlying0
  a0:=Tryz.isAgg0
  z0:=Tryz.sizeOf0
  v0:=Tryz.zeroValue0
  t3:=Tryz.underlying3
  a3:=Tryz.isAgg3
  z3:=Tryz.sizeOf3
  v3:=Tryz.zeroValue3
  t4:=Tryz.underlying4
  a4:=Tryz.isAgg4
  z4:=Tryz.sizeOf4
  v4:=Tryz.zeroValue4
  t5:=Tryz.underlying5
  a5:=Tryz.isAgg5
  z5:=Tryz.sizeOf5
  v5:=Tryz.zeroValue5
  t9:=Tryz.underlying9
  a9:=Tryz.isAgg9
  z9:=Tryz.sizeOf9
  v9:=Tryz.zeroValue9
  t22:=Tryz.underlying28
  a22:=Tryz.isAgg28
  z22:=Tryz.sizeOf28
  v22:=Tryz.zeroValue28
  t25:=Tryz.underlying128
  a25:=Tryz.isAgg128
  z25:=Tryz.sizeOf128
  v25:=Tryz.zeroValue128
  t39:=Tryz.underlying95
  a39:=Tryz.isAgg95
  z39:=Tryz.sizeOf95
  v39:=Tryz.zeroValue95
  t45:=Tryz.underlying180
  a45:=Tryz.isAgg180
  z45:=Tryz.sizeOf180
  v45:=Tryz.zeroValue180
  t46:=Tryz.underlying181
  a46:=Tryz.isAgg181
  z46:=Tryz.sizeOf181
  v46:=Tryz.zeroValue181
  t50:=Tryz.underlying185
  a50:=Tryz.isAgg185
  z50:=Tryz.sizeOf185
  v50:=Tryz.zeroValue185
  t53:=Tryz.underlying188
  a53:=Tryz.isAgg188
  z53:=Tryz.sizeOf188
  v53:=Tryz.zeroValue188
  t55:=Tryz.underlying190
  a55:=Tryz.isAgg190
  z55:=Tryz.sizeOf190
  v55:=Tryz.zeroValue190
  t66:=Tryz.underlying203
  a66:=Tryz.isAgg203
  z66:=Tryz.sizeOf203
  v66:=Tryz.zeroValue203
  t70:=Tryz.underlying207
  a70:=Tryz.isAgg207
  z70:=Tryz.sizeOf207
  v70:=Tryz.zeroValue207
  t76:=Tryz.underlying218
  a76:=Tryz.isAgg218
  z76:=Tryz.sizeOf218
  v76:=Tryz.zeroValue218
  t77:=Tryz.underlying219
  a77:=Tryz.isAgg219
  z77:=Tryz.sizeOf219
  v77:=Tryz.zeroValue219}
def Tryz.sortI_ren:Go.Shelf.Ren:=⟨fun|189=>120|125=>143|257=>154|128=>175|129=>176|294=>180|295=>181|296=>182|297=>183|298=>184|299=>185|216=>186|300=>187|301=>188|328=>208|329=>196|330=>197|331=>209|332=>210|215=>144|343=>216|n=>n,fun|28=>33|3=>3|46=>95|0=>0|51=>188|53=>190|4=>4|183=>181|182=>180|131=>185|5=>5|9=>9|218=>203|222=>207|228=>218|229=>219|n=>n,fun|n=>n⟩
theorem Tryz.sortI:Go.Proofs.Lays.n189 Tryz.prog Tryz.sortI_ren:={
  mixed:=by kernel_rfl
  f125:=Tryz.func143.trans (congrArg some (by kernel_rfl))
  f128:=Tryz.func175.trans (congrArg some (by kernel_rfl))
  f129:=Tryz.func176.trans (congrArg some (by kernel_rfl))
  f189:=Tryz.func120.trans (congrArg some (by kernel_rfl))
  f215:=Tryz.func144.trans (congrArg some (by kernel_rfl))
  f216:=Tryz.func186.trans (congrArg some (by kernel_rfl))
  f257:=Tryz.func154.trans (congrArg some (by kernel_rfl))
  f294:=Tryz.func180.trans (congrArg some (by kernel_rfl))
  f295:=Tryz.func181.trans (congrArg some (by kernel_rfl))
  f296:=Tryz.func182.trans (congrArg some (by kernel_rfl))
  f297:=Tryz.func183.trans (congrArg some (by kernel_rfl))
  f298:=Tryz.func184.trans (congrArg some (by kernel_rfl))
  f299:=Tryz.func185.trans (congrArg some (by kernel_rfl))
  f300:=Tryz.func187.trans (congrArg some (by kernel_rfl))
  f301:=Tryz.func188.trans (congrArg some (by kernel_rfl))
  f328:=Tryz.func208.trans (congrArg some (by kernel_rfl))
  f329:=Tryz.func196.trans (congrArg some (by kernel_rfl))
  f330:=Tryz.func197.trans (congrArg some (by kernel_rfl))
  f331:=Tryz.func209.trans (congrArg some (by kernel_rfl))
  f332:=Tryz.func210.trans (congrArg some (by kernel_rfl))
  f343:=Tryz.func216.trans (congrArg some (by kernel_rfl))
  t0:=Tryz.underlying0
  a0:=Tryz.isAgg0
  z0:=Tryz.sizeOf0
  v0:=Tryz.zeroValue0
  t3:=Tryz.underlying3
  a3:=Tryz.isAgg3
  z3:=Tryz.sizeOf3
  v3:=Tryz.zeroValue3
  t4:=Tryz.underlying4
  a4:=Tryz.isAgg4
  z4:=Tryz.sizeOf4
  v4:=Tryz.zeroValue4
  t5:=Tryz.underlying5
  a5:=Tryz.isAgg5
  z5:=Tryz.sizeOf5
  v5:=Tryz.zeroValue5
  t9:=Tryz.underlying9
  a9:=Tryz.isAgg9
  z9:=Tryz.sizeOf9
  v9:=Tryz.zeroValue9
  t28:=Tryz.underlying33
  a28:=Tryz.isAgg33
  z28:=Tryz.sizeOf33
  v28:=Tryz.zeroValue33
  t46:=Tryz.underlying95
  a46:=Tryz.isAgg95
  z46:=Tryz.sizeOf95
  v46:=Tryz.zeroValue95
  t51:=Tryz.underlying188
  a51:=Tryz.isAgg188
  z51:=Tryz.sizeOf188
  v51:=Tryz.zeroValue188
  t53:=Tryz.underlying190
  a53:=Tryz.isAgg190
  z53:=Tryz.sizeOf190
  v53:=Tryz.zeroValue190
  t131:=Tryz.underlying185
  a131:=Tryz.isAgg185
  z131:=Tryz.sizeOf185
  v131:=Tryz.zeroValue185
  t182:=Tryz.underlying180
  a182:=Tryz.isAgg180
  z182:=Tryz.sizeOf180
  v182:=Tryz.zeroValue180
  t183:=Tryz.underlying181
  a183:=Tryz.isAgg181
  z183:=Tryz.sizeOf181
  v183:=Tryz.zeroValue181
  t218:=Tryz.underlying203
  a218:=Tryz.isAgg203
  z218:=Tryz.sizeOf203
  v218:=Tryz.zeroValue203
  t222:=Tryz.underlying207
  a222:=Tryz.isAgg207
  z222:=Tryz.sizeOf207
  v222:=Tryz.zeroValue207
  t228:=Tryz.underlying218
  a228:=Tryz.isAgg218
  z228:=Tryz.sizeOf218
  v228:=Tryz.zeroValue218
  t229:=Tryz.underlying219
  a229:=Tryz.isAgg219
  z229:=Tryz.sizeOf219
  v229:=Tryz.zeroValue219}
end Go.Proofs
namespace Go.X
open Go.Proofs
abbrev rwS:Sh:= .cl (.row 54 tSh .unk)
namespace U
def jjP (s:SpD):Bool:=(decide (0≤lo s)&&decide (lo s≤hi s))&&decide (hi s≤300)
def jmm (n:Nat) (b:BkD):Bool:=((jc (jx1 b) 0 ((n:Int)-1)&&decide (0≤jcf b))&&decide (jcf b<jtd b))&&decide (jtd b≤1440)
def jsf (nb np:Nat) (s:ShD):Bool:=(((jc (wG s) 0 99&&jc (jnv s) 0 9999)&&jc (jyN s) 1 2)&&jc (jcZ s) 0 ((nb:Int)-1))&&jc (qD s) 0 ((np:Int)-1)
def jao (a b:ShD):Int:=wV [jbq (wG a) (wG b),jbq (jnv a) (jnv b),jbq (jyN a) (jyN b),jbq (jcZ a) (jcZ b),jbq (qD a) (qD b)]
def ju (a b:ShD):Int:=wV [jbq (jnv a) (jnv b),jbq (wG a) (wG b)]
def wL (a b:ShD):Bool:=decide (a=b)
def jV (l:List ShD):List ShD:=yt wL (ja (jg tSh fun x=>(jao x.1 x.2.1,())) l)
def jeI (m:List (Int×Int)) (s:ShD):List (Int×Int):=jgi .int (wG s) (wc 0 (zC .int (wG s) m)+1) m
def wj (m:List (Int×Int)) (l:List ShD) (n:Nat):List (Int×Int):=(l.take n).foldl jeI m
def jwz (m:List (Int×Int)) (s:ShD):Bool:=decide (1<wc 0 (zC .int (wG s) (jeI m s)))
def jig (m:List (Int×Int)) (l:List ShD) (i:Nat):Bool:=jwz (wj m l i) (nth l i)
def jeg (m:List (Int×Int)) (l:List ShD):Int:=jbv (jig m l) (List.range l.length)
def jBa (m:List (Int×Int)) (l:List ShD):Nat:=match(List.range l.length).findIdx? (jig m l) with|some i=>i+1|none=>l.length
def jgD (m:List (Int×Int)) (l:List ShD):List (Int×Int):=wj m l (jBa m l)
def jFL (m:List (Int×Int)):Prop:=m=[]
def jyM (m:List (Int×Int)):Prop:=∀k,0≤wc 0 (zC .int k m)∧wc 0 (zC .int k m)≤200000
def jyh (l:List ShD):Bool:=decide (0≤jeg [] l)
def jnf (d:DyD):Int:=if jq (jo d)=false then 30 else if jxi d=false then 31 else 0
def jI (d:DyD):Int:=if jnf d≠0 then jnf d else if kg d=false then 50 else if jyh (jV (jT d))=true then 51 else 0
end U
def y9:jW:=⟨[.val .int,.val .int,.val .int],[.bool],false,fun _=>[],fun d=>(U.jc d.1 d.2.1 d.2.2.1,())⟩
def jlg:Prop:=∀(d:Int×Int×Int×Unit),(decide (d.2.1≤d.1)&&decide (d.1≤d.2.2.1),())=(U.jc d.1 d.2.1 d.2.2.1,())
theorem jnB:zq (ctx 15 [] []) (fun _=>none) Tryz.f90 (jd Tryz.f90) y9=jlg:=by kernel_rfl
def wY:jW:=⟨[.val (.slice tSp),.fn [tSp] [.bool]],[.int],false,fun d=>[∀g∈d.1,U.jE (d.2.1.pre (g,()))],fun d=>(U.jbv (U.jb (α:=SpD) d.2.1.F) d.1,())⟩
def je6:Ann:=fun r=>match r with
  |2=>some fun σ=>{X:=Nat,sl:=fun i=>[(8,.dat .int (i:Int))],ob:=fun _=>[],inv:=fun i=>i≤(gd (.slice tSp) σ 0).length∧∀b:Nat,b<i→U.jb (gfb tSp σ 1) (nth (gd (.slice tSp) σ 0) b)=false,mu:=fun i=>(gd (.slice tSp) σ 0).length-i}
  |_=>none
def yv:Prop:=∀(d:List (Int×Int×Unit)×FnD [tSp] [Ty.bool]×Unit),(∀(g:Int×Int×Unit),g∈d.1→U.jE (d.2.1.1 (g,())))→d.1.length<4611686018427387904→(∃(x:Nat),(((0:Int)=(x:Int)∧True)∧True)∧x≤d.1.length∧∀(b:Nat),b<x→U.jb d.2.1.2 (nth d.1 b)=false)∧∀(x:Nat),(x≤d.1.length∧∀(b:Nat),b<x→U.jb d.2.1.2 (nth d.1 b)=false)→(decide ((x:Int)<(d.1.length:Int))=true→(0:Int)≤(x:Int)∧(x:Int)<(d.1.length:Int)∧asks (d.2.1.1 (nth d.1 (x:Int).toNat,())) (((d.2.1.2 (nth d.1 (x:Int).toNat,())).1=true→((x:Int),())=(U.jbv (U.jb d.2.1.2) d.1,()))∧((d.2.1.2 (nth d.1 (x:Int).toNat,())).1=false→jx ((x:Int)+(1:Int))∧∃(x':Nat),(((x:Int)+(1:Int)=(x':Int)∧True)∧True)∧(x'≤d.1.length∧∀(b:Nat),b<x'→U.jb d.2.1.2 (nth d.1 b)=false)∧d.1.length-x'<d.1.length-x)))∧(decide ((x:Int)<(d.1.length:Int))=false→((-1:Int),())=(U.jbv (U.jb d.2.1.2) d.1,()))
theorem jbC:zq (ctx 19 [] []) (je6) Tryz.f164 (jd Tryz.f164) wY=yv:=by kernel_rfl
def wa:jW:=⟨[.val (.slice tSp),.fn [tSp] [.bool]],[.bool],false,fun d=>[∀g∈d.1,U.jE (d.2.1.pre (g,()))],fun d=>(d.1.any (U.jb (α:=SpD) d.2.1.F),())⟩
def qG:Prop:=∀(d:List (Int×Int×Unit)×FnD [tSp] [Ty.bool]×Unit),(∀(g:Int×Int×Unit),g∈d.1→U.jE (d.2.1.1 (g,())))→(∀(g:Int×Int×Unit),g∈d.1→U.jE (d.2.1.1 (g,())))∧(decide ((0:Int)≤U.jbv (U.jb d.2.1.2) d.1),())=(d.1.any (U.jb d.2.1.2),())
theorem gG:zq (ctx 9 [(164,wY)] []) (fun _=>none) Tryz.f134 (jd Tryz.f134) wa=qG:=by kernel_rfl
def wE:jW:=⟨[.val (.slice (.slice tSp)),.fn [(.slice tSp)] [.bool]],[.int],false,fun d=>[∀g∈d.1,U.jE (d.2.1.pre (g,()))],fun d=>(U.jbv (U.jb (α:=(List SpD)) d.2.1.F) d.1,())⟩
def jec:Ann:=fun r=>match r with
  |2=>some fun σ=>{X:=Nat,sl:=fun i=>[(8,.dat .int (i:Int))],ob:=fun _=>[],inv:=fun i=>i≤(gd (.slice (.slice tSp)) σ 0).length∧∀b:Nat,b<i→U.jb (gfb (.slice tSp) σ 1) (nth (gd (.slice (.slice tSp)) σ 0) b)=false,mu:=fun i=>(gd (.slice (.slice tSp)) σ 0).length-i}
  |_=>none
def vL:Prop:=∀(d:List (List (Int×Int×Unit))×FnD [tSp.slice] [Ty.bool]×Unit),(∀(g:List (Int×Int×Unit)),g∈d.1→U.jE (d.2.1.1 (g,())))→d.1.length<4611686018427387904→(∃(x:Nat),(((0:Int)=(x:Int)∧True)∧True)∧x≤d.1.length∧∀(b:Nat),b<x→U.jb d.2.1.2 (nth d.1 b)=false)∧∀(x:Nat),(x≤d.1.length∧∀(b:Nat),b<x→U.jb d.2.1.2 (nth d.1 b)=false)→(decide ((x:Int)<(d.1.length:Int))=true→(0:Int)≤(x:Int)∧(x:Int)<(d.1.length:Int)∧asks (d.2.1.1 (nth d.1 (x:Int).toNat,())) (((d.2.1.2 (nth d.1 (x:Int).toNat,())).1=true→((x:Int),())=(U.jbv (U.jb d.2.1.2) d.1,()))∧((d.2.1.2 (nth d.1 (x:Int).toNat,())).1=false→jx ((x:Int)+(1:Int))∧∃(x':Nat),(((x:Int)+(1:Int)=(x':Int)∧True)∧True)∧(x'≤d.1.length∧∀(b:Nat),b<x'→U.jb d.2.1.2 (nth d.1 b)=false)∧d.1.length-x'<d.1.length-x)))∧(decide ((x:Int)<(d.1.length:Int))=false→((-1:Int),())=(U.jbv (U.jb d.2.1.2) d.1,()))
theorem jaO:zq (ctx 19 [] []) (jec) Tryz.f165 (jd Tryz.f165) wE=vL:=by kernel_rfl
def kC:jW:=⟨[.val (.slice (.slice tSp)),.fn [(.slice tSp)] [.bool]],[.bool],false,fun d=>[∀g∈d.1,U.jE (d.2.1.pre (g,()))],fun d=>(d.1.any (U.jb (α:=(List SpD)) d.2.1.F),())⟩
def qx:Prop:=∀(d:List (List (Int×Int×Unit))×FnD [tSp.slice] [Ty.bool]×Unit),(∀(g:List (Int×Int×Unit)),g∈d.1→U.jE (d.2.1.1 (g,())))→(∀(g:List (Int×Int×Unit)),g∈d.1→U.jE (d.2.1.1 (g,())))∧(decide ((0:Int)≤U.jbv (U.jb d.2.1.2) d.1),())=(d.1.any (U.jb d.2.1.2),())
theorem yY:zq (ctx 9 [(165,wE)] []) (fun _=>none) Tryz.f136 (jd Tryz.f136) kC=qx:=by kernel_rfl
def k8:jW:=⟨[.val (.slice tBk),.fn [tBk] [.bool]],[.int],false,fun d=>[∀g∈d.1,U.jE (d.2.1.pre (g,()))],fun d=>(U.jbv (U.jb (α:=BkD) d.2.1.F) d.1,())⟩
def jch:Ann:=fun r=>match r with
  |2=>some fun σ=>{X:=Nat,sl:=fun i=>[(8,.dat .int (i:Int))],ob:=fun _=>[],inv:=fun i=>i≤(gd (.slice tBk) σ 0).length∧∀b:Nat,b<i→U.jb (gfb tBk σ 1) (nth (gd (.slice tBk) σ 0) b)=false,mu:=fun i=>(gd (.slice tBk) σ 0).length-i}
  |_=>none
def qF:Prop:=∀(d:List BkD×FnD [tBk] [Ty.bool]×Unit),(∀(g:BkD),g∈d.1→U.jE (d.2.1.1 (g,())))→d.1.length<4611686018427387904→(∃(x:Nat),(((0:Int)=(x:Int)∧True)∧True)∧x≤d.1.length∧∀(b:Nat),b<x→U.jb d.2.1.2 (nth d.1 b)=false)∧∀(x:Nat),(x≤d.1.length∧∀(b:Nat),b<x→U.jb d.2.1.2 (nth d.1 b)=false)→(decide ((x:Int)<(d.1.length:Int))=true→(0:Int)≤(x:Int)∧(x:Int)<(d.1.length:Int)∧asks (d.2.1.1 (nth d.1 (x:Int).toNat,())) (((d.2.1.2 (nth d.1 (x:Int).toNat,())).1=true→((x:Int),())=(U.jbv (U.jb d.2.1.2) d.1,()))∧((d.2.1.2 (nth d.1 (x:Int).toNat,())).1=false→jx ((x:Int)+(1:Int))∧∃(x':Nat),(((x:Int)+(1:Int)=(x':Int)∧True)∧True)∧(x'≤d.1.length∧∀(b:Nat),b<x'→U.jb d.2.1.2 (nth d.1 b)=false)∧d.1.length-x'<d.1.length-x)))∧(decide ((x:Int)<(d.1.length:Int))=false→((-1:Int),())=(U.jbv (U.jb d.2.1.2) d.1,()))
theorem gF:zq (ctx 19 [] []) (jch) Tryz.f166 (jd Tryz.f166) k8=qF:=by kernel_rfl
def kh:jW:=⟨[.val (.slice tBk),.fn [tBk] [.bool]],[.bool],false,fun d=>[∀g∈d.1,U.jE (d.2.1.pre (g,()))],fun d=>(d.1.any (U.jb (α:=BkD) d.2.1.F),())⟩
def wW:Prop:=∀(d:List BkD×FnD [tBk] [Ty.bool]×Unit),(∀(g:BkD),g∈d.1→U.jE (d.2.1.1 (g,())))→(∀(g:BkD),g∈d.1→U.jE (d.2.1.1 (g,())))∧(decide ((0:Int)≤U.jbv (U.jb d.2.1.2) d.1),())=(d.1.any (U.jb d.2.1.2),())
theorem yg:zq (ctx 9 [(166,k8)] []) (fun _=>none) Tryz.f138 (jd Tryz.f138) kh=wW:=by kernel_rfl
def wF:jW:=⟨[.val (.slice tSh),.fn [tSh] [.bool]],[.int],false,fun d=>[∀g∈d.1,U.jE (d.2.1.pre (g,()))],fun d=>(U.jbv (U.jb (α:=ShD) d.2.1.F) d.1,())⟩
def jed:Ann:=fun r=>match r with
  |2=>some fun σ=>{X:=Nat,sl:=fun i=>[(8,.dat .int (i:Int))],ob:=fun _=>[],inv:=fun i=>i≤(gd (.slice tSh) σ 0).length∧∀b:Nat,b<i→U.jb (gfb tSh σ 1) (nth (gd (.slice tSh) σ 0) b)=false,mu:=fun i=>(gd (.slice tSh) σ 0).length-i}
  |_=>none
def vM:Prop:=∀(d:List ShD×FnD [tSh] [Ty.bool]×Unit),(∀(g:ShD),g∈d.1→U.jE (d.2.1.1 (g,())))→d.1.length<4611686018427387904→(∃(x:Nat),(((0:Int)=(x:Int)∧True)∧True)∧x≤d.1.length∧∀(b:Nat),b<x→U.jb d.2.1.2 (nth d.1 b)=false)∧∀(x:Nat),(x≤d.1.length∧∀(b:Nat),b<x→U.jb d.2.1.2 (nth d.1 b)=false)→(decide ((x:Int)<(d.1.length:Int))=true→(0:Int)≤(x:Int)∧(x:Int)<(d.1.length:Int)∧asks (d.2.1.1 (nth d.1 (x:Int).toNat,())) (((d.2.1.2 (nth d.1 (x:Int).toNat,())).1=true→((x:Int),())=(U.jbv (U.jb d.2.1.2) d.1,()))∧((d.2.1.2 (nth d.1 (x:Int).toNat,())).1=false→jx ((x:Int)+(1:Int))∧∃(x':Nat),(((x:Int)+(1:Int)=(x':Int)∧True)∧True)∧(x'≤d.1.length∧∀(b:Nat),b<x'→U.jb d.2.1.2 (nth d.1 b)=false)∧d.1.length-x'<d.1.length-x)))∧(decide ((x:Int)<(d.1.length:Int))=false→((-1:Int),())=(U.jbv (U.jb d.2.1.2) d.1,()))
theorem jaP:zq (ctx 19 [] []) (jed) Tryz.f141 (jd Tryz.f141) wF=vM:=by kernel_rfl
def kD:jW:=⟨[.val (.slice tSh),.fn [tSh] [.bool]],[.bool],false,fun d=>[∀g∈d.1,U.jE (d.2.1.pre (g,()))],fun d=>(d.1.any (U.jb (α:=ShD) d.2.1.F),())⟩
def qy:Prop:=∀(d:List ShD×FnD [tSh] [Ty.bool]×Unit),(∀(g:ShD),g∈d.1→U.jE (d.2.1.1 (g,())))→(∀(g:ShD),g∈d.1→U.jE (d.2.1.1 (g,())))∧(decide ((0:Int)≤U.jbv (U.jb d.2.1.2) d.1),())=(d.1.any (U.jb d.2.1.2),())
theorem yZ:zq (ctx 9 [(141,wF)] []) (fun _=>none) Tryz.f95 (jd Tryz.f95) kD=qy:=by kernel_rfl
def vq:jW:=⟨[.val tSp,.rfn [tSp] [.bool]],[.bool],false,fun d=>[U.jE (d.2.1.pre (d.1,()))],fun d=>(!(U.jb (α:=SpD) d.2.1.F d.1),())⟩
def jaV:Prop:=∀(d:(Int×Int×Unit)×FnD [tSp] [Ty.bool]×Unit),U.jE (d.2.1.1 (d.1,()))→asks (d.2.1.1 (d.1,())) ((!(d.2.1.2 (d.1,())).1,())=(!U.jb d.2.1.2 d.1,()))
theorem jeU:zq (ctx 8 [] []) (fun _=>none) Tryz.f135 (jd Tryz.f135) vq=jaV:=by kernel_rfl
def gg:jW:=⟨[.val (.slice tSp),.fn [tSp] [.bool]],[.bool],false,fun d=>[∀g∈d.1,U.jE (d.2.1.pre (g,()))],fun d=>(d.1.all (U.jb (α:=SpD) d.2.1.F),())⟩
def jdd:Prop:=∀(d:List (Int×Int×Unit)×FnD [tSp] [Ty.bool]×Unit),(∀(g:Int×Int×Unit),g∈d.1→U.jE (d.2.1.1 (g,())))→(∀(g:Int×Int×Unit),g∈d.1→U.jE [U.jE (d.2.1.1 (g,()))])∧(!d.1.any (U.jb fun(x:(Int×Int×Unit)×Unit)=>(!U.jb d.2.1.2 x.1,())),())=(d.1.all (U.jb d.2.1.2),())
theorem jg2:zq (ctx 9 [(134,wa),(135,vq)] []) (fun _=>none) Tryz.f88 (jd Tryz.f88) gg=jdd:=by kernel_rfl
def qK:jW:=⟨[.val (.slice tSp),.rfn [(.slice tSp)] [.bool]],[.bool],false,fun d=>[U.jE (d.2.1.pre (d.1,()))],fun d=>(!(U.jb (α:=(List SpD)) d.2.1.F d.1),())⟩
def gT:Prop:=∀(d:List (Int×Int×Unit)×FnD [tSp.slice] [Ty.bool]×Unit),U.jE (d.2.1.1 (d.1,()))→asks (d.2.1.1 (d.1,())) ((!(d.2.1.2 (d.1,())).1,())=(!U.jb d.2.1.2 d.1,()))
theorem jdc:zq (ctx 8 [] []) (fun _=>none) Tryz.f137 (jd Tryz.f137) qK=gT:=by kernel_rfl
def ym:jW:=⟨[.val (.slice (.slice tSp)),.fn [(.slice tSp)] [.bool]],[.bool],false,fun d=>[∀g∈d.1,U.jE (d.2.1.pre (g,()))],fun d=>(d.1.all (U.jb (α:=(List SpD)) d.2.1.F),())⟩
def jct:Prop:=∀(d:List (List (Int×Int×Unit))×FnD [tSp.slice] [Ty.bool]×Unit),(∀(g:List (Int×Int×Unit)),g∈d.1→U.jE (d.2.1.1 (g,())))→(∀(g:List (Int×Int×Unit)),g∈d.1→U.jE [U.jE (d.2.1.1 (g,()))])∧(!d.1.any (U.jb fun(x:List (Int×Int×Unit)×Unit)=>(!U.jb d.2.1.2 x.1,())),())=(d.1.all (U.jb d.2.1.2),())
theorem jfG:zq (ctx 9 [(136,kC),(137,qK)] []) (fun _=>none) Tryz.f92 (jd Tryz.f92) ym=jct:=by kernel_rfl
def wZ:jW:=⟨[.val tBk,.rfn [tBk] [.bool]],[.bool],false,fun d=>[U.jE (d.2.1.pre (d.1,()))],fun d=>(!(U.jb (α:=BkD) d.2.1.F d.1),())⟩
def yx:Prop:=∀(d:BkD×FnD [tBk] [Ty.bool]×Unit),U.jE (d.2.1.1 (d.1,()))→asks (d.2.1.1 (d.1,())) ((!(d.2.1.2 (d.1,())).1,())=(!U.jb d.2.1.2 d.1,()))
theorem jbE:zq (ctx 8 [] []) (fun _=>none) Tryz.f139 (jd Tryz.f139) wZ=yx:=by kernel_rfl
def qM:jW:=⟨[.val (.slice tBk),.fn [tBk] [.bool]],[.bool],false,fun d=>[∀g∈d.1,U.jE (d.2.1.pre (g,()))],fun d=>(d.1.all (U.jb (α:=BkD) d.2.1.F),())⟩
def gV:Prop:=∀(d:List BkD×FnD [tBk] [Ty.bool]×Unit),(∀(g:BkD),g∈d.1→U.jE (d.2.1.1 (g,())))→(∀(g:BkD),g∈d.1→U.jE [U.jE (d.2.1.1 (g,()))])∧(!d.1.any (U.jb fun(x:BkD×Unit)=>(!U.jb d.2.1.2 x.1,())),())=(d.1.all (U.jb d.2.1.2),())
theorem jdf:zq (ctx 9 [(138,kh),(139,wZ)] []) (fun _=>none) Tryz.f93 (jd Tryz.f93) qM=gV:=by kernel_rfl
def qL:jW:=⟨[.val tSh,.rfn [tSh] [.bool]],[.bool],false,fun d=>[U.jE (d.2.1.pre (d.1,()))],fun d=>(!(U.jb (α:=ShD) d.2.1.F d.1),())⟩
def gU:Prop:=∀(d:ShD×FnD [tSh] [Ty.bool]×Unit),U.jE (d.2.1.1 (d.1,()))→asks (d.2.1.1 (d.1,())) ((!(d.2.1.2 (d.1,())).1,())=(!U.jb d.2.1.2 d.1,()))
theorem jde:zq (ctx 8 [] []) (fun _=>none) Tryz.f140 (jd Tryz.f140) qL=gU:=by kernel_rfl
def yn:jW:=⟨[.val (.slice tSh),.fn [tSh] [.bool]],[.bool],false,fun d=>[∀g∈d.1,U.jE (d.2.1.pre (g,()))],fun d=>(d.1.all (U.jb (α:=ShD) d.2.1.F),())⟩
def jcu:Prop:=∀(d:List ShD×FnD [tSh] [Ty.bool]×Unit),(∀(g:ShD),g∈d.1→U.jE (d.2.1.1 (g,())))→(∀(g:ShD),g∈d.1→U.jE [U.jE (d.2.1.1 (g,()))])∧(!d.1.any (U.jb fun(x:ShD×Unit)=>(!U.jb d.2.1.2 x.1,())),())=(d.1.all (U.jb d.2.1.2),())
theorem jfH:zq (ctx 9 [(95,kD),(140,qL)] []) (fun _=>none) Tryz.f94 (jd Tryz.f94) yn=jcu:=by kernel_rfl
def jdu:jW:=⟨[.val tSp],[.bool],false,fun _=>[],fun d=>(U.jjP d.1,())⟩
def jjt:Prop:=∀(d:(Int×Int×Unit)×Unit),(decide ((0:Int)≤d.1.1)&&decide (d.1.1≤d.1.2.1)&&decide (d.1.2.1≤(300:Int)),())=(U.jjP d.1,())
theorem jll:zq (ctx 18 [] []) (fun _=>none) Tryz.f86 (jd Tryz.f86) jdu=jjt:=by kernel_rfl
def jdt:jW:=⟨[.val (.slice tSp),.ref tDy,.rfn [tSp] [.bool]],[.bool],false,fun d=>[∀g∈d.1,U.jE (d.2.2.1.pre (g,()))],fun d=>(decide ((d.1.length:Int)=((U.jO d.2.1).length:Int))&&d.1.all (U.jb (α:=SpD) d.2.2.1.F),())⟩
def jjs:Prop:=∀(d:List (Int×Int×Unit)×DyD×FnD [tSp] [Ty.bool]×Unit),(∀(g:Int×Int×Unit),g∈d.1→U.jE (d.2.2.1.1 (g,())))→d.1.length<4611686018427387904→d.2.1.2.1.length<4611686018427387904→(decide ((d.1.length:Int)=(d.2.1.2.1.length:Int))=true→∀(g:Int×Int×Unit),g∈d.1→U.jE (d.2.2.1.1 (g,())))∧(decide ((d.1.length:Int)=(d.2.1.2.1.length:Int))&&d.1.all (U.jb d.2.2.1.2),())=(decide ((d.1.length:Int)=(↑(U.jO d.2.1).length:Int))&&d.1.all (U.jb d.2.2.1.2),())
theorem jlk:zq (ctx 16 [(88,gg)] []) (fun _=>none) Tryz.f87 (jd Tryz.f87) jdt=jjs:=by kernel_rfl
def jds:jW:=⟨[.val tBk,.ref tDy],[.bool],false,fun _=>[],fun d=>(U.jmm (U.jO d.2.1).length d.1,())⟩
def jjr:Prop:=∀(d:BkD×DyD×Unit),d.2.1.2.1.length<4611686018427387904→jx ((d.2.1.2.1.length:Int)-(1:Int))∧(U.jc d.1.2.1 (0:Int) ((d.2.1.2.1.length:Int)-(1:Int))&&decide ((0:Int)≤d.1.2.2.1)&&decide (d.1.2.2.1<d.1.2.2.2.1)&&decide (d.1.2.2.2.1≤(1440:Int)),())=(U.jmm (U.jO d.2.1).length d.1,())
theorem jlj:zq (ctx 28 [(90,y9)] []) (fun _=>none) Tryz.f89 (jd Tryz.f89) jds=jjr:=by kernel_rfl
def jdr:jW:=⟨[.val tSh,.ref tDy],[.bool],false,fun _=>[],fun d=>(U.jsf (U.jv d.2.1).length (U.ji (U.jo d.2.1)).length d.1,())⟩
abbrev q58_1 (d:ShD×DyD×Unit):=(U.jc d.1.1 (0:Int) (99:Int)&&U.jc d.1.2.1 (0:Int) (9999:Int)&&U.jc d.1.2.2.1 (1:Int) (2:Int))
abbrev q58_2 (d:ShD×DyD×Unit):=((d.2.1.2.2.1.length:Int)-(1:Int))
abbrev q58_0 (d:ShD×DyD×Unit):=(U.jc d.1.1 (0:Int) (99:Int)&&U.jc d.1.2.1 (0:Int) (9999:Int)&&U.jc d.1.2.2.1 (1:Int) (2:Int)&&U.jc d.1.2.2.2.1 (0:Int) (q58_2 d))
def jjq:Prop:=∀(d:ShD×DyD×Unit),((q58_1 d)=true→d.2.1.2.2.1.length<4611686018427387904)→((q58_1 d)=true→jx (q58_2 d))∧(((q58_0 d)=true→d.2.1.1.2.1.length<4611686018427387904)→((q58_0 d)=true→jx ((d.2.1.1.2.1.length:Int)-(1:Int)))∧(U.jc d.1.1 (0:Int) (99:Int)&&U.jc d.1.2.1 (0:Int) (9999:Int)&&U.jc d.1.2.2.1 (1:Int) (2:Int)&&U.jc d.1.2.2.2.1 (0:Int) (q58_2 d)&&U.jc d.1.2.2.2.2.1 (0:Int) ((d.2.1.1.2.1.length:Int)-(1:Int)),())=(U.jsf (U.jv d.2.1).length (U.ji (U.jo d.2.1)).length d.1,()))
theorem jli:zq (ctx 36 [(90,y9)] []) (fun _=>none) Tryz.f91 (jd Tryz.f91) jdr=jjq:=by kernel_rfl
def jiv:jW:=⟨[.val tDy],[.bool],false,fun _=>[],fun d=>(U.kg d.1,())⟩
abbrev q59_0 (d:DyD×Unit):=((d.1.2.2.1.length:Int)≤(4:Int))
abbrev q59_1 (d:DyD×Unit):=(↑(U.jO d.1).length:Int)
abbrev q59_2 (d:DyD×Unit):=(d.1.2.1.length:Int)
def joB:Prop:=∀(d:DyD×Unit),d.1.2.2.1.length<4611686018427387904→(decide (q59_0 d)=true→d.1.2.1.length<4611686018427387904)→((decide (q59_0 d)&&U.jc (q59_2 d) (1:Int) (5:Int))=true→∀(g:List (Int×Int×Unit)),g∈d.1.2.1→U.jE [∀(g_1:Int×Int×Unit),g_1∈g→U.jE []])∧((decide (q59_0 d)&&U.jc (q59_2 d) (1:Int) (5:Int)&&d.1.2.1.all (U.jb fun(x:List (Int×Int×Unit)×Unit)=>(decide ((x.1.length:Int)=(q59_1 d))&&x.1.all (U.jb fun(x:(Int×Int×Unit)×Unit)=>(U.jjP x.1,())),())))=true→∀(g:BkD),g∈d.1.2.2.1→U.jE [])∧(((decide (q59_0 d)&&U.jc (q59_2 d) (1:Int) (5:Int)&&d.1.2.1.all (U.jb fun(x:List (Int×Int×Unit)×Unit)=>(decide ((x.1.length:Int)=(q59_1 d))&&x.1.all (U.jb fun(x:(Int×Int×Unit)×Unit)=>(U.jjP x.1,())),()))&&d.1.2.2.1.all (U.jb fun(x:BkD×Unit)=>(U.jmm (U.jO d.1).length x.1,()))&&U.jc d.1.2.2.2.1 (0:Int) (300:Int)&&U.jc d.1.2.2.2.2.1 (0:Int) (1440:Int))=true→d.1.2.2.2.2.2.1.length<4611686018427387904)→((decide (q59_0 d)&&U.jc (q59_2 d) (1:Int) (5:Int)&&d.1.2.1.all (U.jb fun(x:List (Int×Int×Unit)×Unit)=>(decide ((x.1.length:Int)=(q59_1 d))&&x.1.all (U.jb fun(x:(Int×Int×Unit)×Unit)=>(U.jjP x.1,())),()))&&d.1.2.2.1.all (U.jb fun(x:BkD×Unit)=>(U.jmm (U.jO d.1).length x.1,()))&&U.jc d.1.2.2.2.1 (0:Int) (300:Int)&&U.jc d.1.2.2.2.2.1 (0:Int) (1440:Int)&&decide ((d.1.2.2.2.2.2.1.length:Int)≤(30:Int)))=true→∀(g:ShD),g∈d.1.2.2.2.2.2.1→U.jE [])∧(decide (q59_0 d)&&U.jc (q59_2 d) (1:Int) (5:Int)&&d.1.2.1.all (U.jb fun(x:List (Int×Int×Unit)×Unit)=>(decide ((x.1.length:Int)=(q59_1 d))&&x.1.all (U.jb fun(x:(Int×Int×Unit)×Unit)=>(U.jjP x.1,())),()))&&d.1.2.2.1.all (U.jb fun(x:BkD×Unit)=>(U.jmm (U.jO d.1).length x.1,()))&&U.jc d.1.2.2.2.1 (0:Int) (300:Int)&&U.jc d.1.2.2.2.2.1 (0:Int) (1440:Int)&&decide ((d.1.2.2.2.2.2.1.length:Int)≤(30:Int))&&d.1.2.2.2.2.2.1.all (U.jb fun(x:ShD×Unit)=>(U.jsf (U.jv d.1).length (U.ji (U.jo d.1)).length x.1,())),())=(U.kg d.1,()))
theorem jpG:zq (ctx 54 [(90,y9),(86,jdu),(87,jdt),(89,jds),(91,jdr),(92,ym),(93,qM),(94,yn)] []) (fun _=>none) Tryz.f46 (jd Tryz.f46) jiv=joB:=by kernel_rfl
def yo:jW:=⟨[.val .int],[.bool],false,fun _=>[],fun _=>(false,())⟩
def jcv:Prop:=∀(d:Int×Unit),(decide (d.1≠d.1),())=(false,())
theorem jfI:zq (ctx 6 [] []) (fun _=>none) Tryz.f144 (jd Tryz.f144) yo=jcv:=by kernel_rfl
def kk:jW:=⟨[.val .int,.val .int],[.int],false,fun _=>[],fun d=>(U.jbq d.1 d.2.1,())⟩
abbrev q61_0 (d:Int×Int×Unit):=(U.jbq d.1 d.2.1,())
def gW:Prop:=∀(d:Int×Int×Unit),(false=true→(false=true→((0:Int),())=(q61_0 d))∧(false=false→((-1:Int),())=(q61_0 d)))∧(false=false→(false=true→((1:Int),())=(q61_0 d))∧(false=false→(decide (d.1<d.2.1)=true→((-1:Int),())=(q61_0 d))∧(decide (d.1<d.2.1)=false→(decide (d.2.1<d.1)=true→((1:Int),())=(q61_0 d))∧(decide (d.2.1<d.1)=false→((0:Int),())=(q61_0 d)))))
theorem jdi:zq (ctx 20 [(144,yo)] []) (fun _=>none) Tryz.f101 (jd Tryz.f101) kk=gW:=by kernel_rfl
def qN:jW:=⟨[.val (.slice .int)],[.int],false,fun _=>[],fun d=>(U.wV d.1,())⟩
def jq3:Ann:=fun r=>match r with
  |3=>some fun σ=>{X:=Nat,sl:=fun i=>[(8,.dat .int (i:Int))],ob:=fun _=>[],inv:=fun i=>i≤(gd (.slice .int) σ 0).length∧∀b:Nat,b<i→nth (gd (.slice .int) σ 0) b=0,mu:=fun i=>(gd (.slice .int) σ 0).length-i}
  |_=>none
def jg8:Prop:=∀(d:List Int×Unit),d.1.length<4611686018427387904→(∃(x:Nat),(((0:Int)=(x:Int)∧True)∧True)∧x≤d.1.length∧∀(b:Nat),b<x→nth d.1 b=(0:Int))∧∀(x:Nat),(x≤d.1.length∧∀(b:Nat),b<x→nth d.1 b=(0:Int))→(decide ((x:Int)<(d.1.length:Int))=true→(0:Int)≤(x:Int)∧(x:Int)<(d.1.length:Int)∧(decide (nth d.1 (x:Int).toNat≠(0:Int))=true→(nth d.1 (x:Int).toNat,())=(U.wV d.1,()))∧(decide (nth d.1 (x:Int).toNat≠(0:Int))=false→jx ((x:Int)+(1:Int))∧∃(x':Nat),(((x:Int)+(1:Int)=(x':Int)∧True)∧True)∧(x'≤d.1.length∧∀(b:Nat),b<x'→nth d.1 b=(0:Int))∧d.1.length-x'<d.1.length-x))∧(decide ((x:Int)<(d.1.length:Int))=false→((0:Int),())=(U.wV d.1,()))
theorem jkc:zq (ctx 18 [] []) (jq3) Tryz.f100 (jd Tryz.f100) qN=jg8:=by kernel_rfl
def gh:jW:=⟨[.val tSh,.val tSh],[.int],false,fun _=>[],fun d=>(U.jao d.1 d.2.1,())⟩
def jdg:Prop:=∀(d:ShD×ShD×Unit),(U.wV [U.jbq d.1.1 d.2.1.1,U.jbq d.1.2.1 d.2.1.2.1,U.jbq d.1.2.2.1 d.2.1.2.2.1,U.jbq d.1.2.2.2.1 d.2.1.2.2.2.1,U.jbq d.1.2.2.2.2.1 d.2.1.2.2.2.2.1],())=(U.jao d.1 d.2.1,())
theorem jg3:zq (ctx 32 [(101,kk),(100,qN)] []) (fun _=>none) Tryz.f99 (jd Tryz.f99) gh=jdg:=by kernel_rfl
def jfP:jW:=⟨[.val tSh,.val tSh],[.int],false,fun _=>[],fun d=>(U.ju d.1 d.2.1,())⟩
def jln:Prop:=∀(d:ShD×ShD×Unit),(U.wV [U.jbq d.1.2.1 d.2.1.2.1,U.jbq d.1.1 d.2.1.1],())=(U.ju d.1 d.2.1,())
theorem jnC:zq (ctx 17 [(101,kk),(100,qN)] []) (fun _=>none) Tryz.f119 (jd Tryz.f119) jfP=jln:=by kernel_rfl
def vw:kx:=⟨[.val (.slice tSh)],[rwS],fun d=>[d.1.length≤100000],fun d=>((d.1,()),())⟩
def jaR:Prop:=∀(d:List ShD×Unit),d.1.length≤100000→∀(β:Bool),(β=true→d.1=[])→(β=true→([],())=d∧()=())∧(β=false→(0+d.1.length)*40≤140737488355328∧([]++d.1,())=d∧()=())
theorem jeQ:jcR (ctx 8 [] []) (fun _=>none) Tryz.f97 (jd Tryz.f97) vw=jaR:=by kernel_rfl
def ql:kx:=⟨[.own rwS false],[rwS],fun d=>[d.1.length≤100000],fun d=>((U.yt U.wL d.1,()),())⟩
def jgM:Ann:=fun r=>match r with
  |4=>some fun σ=>{X:=Nat,sl:=fun i=>[(3,.dat .int (i:Int))],ob:=fun _=>[],inv:=fun i=>U.jEh U.wL (gr tSh σ 1000000) i,mu:=fun i=>(gr tSh σ 1000000).length-i}
  |9=>some fun σ=>{X:=Nat×List ShD,sl:=fun x=>[(5,.dat .int (x.1:Int)),(3,.dat .int (U.jfj U.wL (gr tSh σ 1000000) ((gd .int σ 3).toNat+x.1)))],ob:=fun x=>[(1000000,some (.row 54 tSh false .unk x.2))],inv:=fun x=>U.juv U.wL (gr tSh σ 1000000) (gd .int σ 3).toNat x.1 x.2,mu:=fun x=>(gr tSh σ 1000000).length-x.1}
  |_=>none
abbrev q66_0 (x:Nat)(x_5:Nat×List ShD):=((x:Int).toNat+x_5.1)
abbrev q66_2 (d:List ShD×Unit)(x:Nat)(x_5:Nat×List ShD):=(List.take (U.jfj U.wL d.1 (q66_0 x x_5)).toNat x_5.2++List.replicate ((x_5.2.length:Int).toNat-(U.jfj U.wL d.1 (q66_0 x x_5)).toNat) ((0:Int),(0:Int),(0:Int),(0:Int),(0:Int),()))
abbrev q66_3 (x_5:Nat×List ShD)(x:Nat):=(!decide (nth x_5.2 ((x:Int).toNat+(x_5.1:Int).toNat)=nth x_5.2 ((x:Int).toNat+((x_5.1:Int)-(1:Int)).toNat)))
abbrev q66_4 (d:List ShD×Unit):=(d.1.length:Int)
abbrev q66_1 (d:List ShD×Unit)(x:Nat):=(↑((q66_4 d).toNat-(x:Int).toNat):Int)
def y4:Prop:=∀(d:List ShD×Unit),d.1.length≤100000→d.1.length<4611686018427387904→(decide ((q66_4 d)<(2:Int))=true→d=(U.yt U.wL d.1,())∧()=())∧(decide ((q66_4 d)<(2:Int))=false→(∃(x:Nat),(((1:Int)=(x:Int)∧True)∧True)∧U.jEh U.wL d.1 x)∧∀(x:Nat),U.jEh U.wL d.1 x→d.1.length<4611686018427387904→(decide ((x:Int)<(q66_4 d))=true→(0:Int)≤(x:Int)∧(x:Int)<(q66_4 d)∧jx ((x:Int)-(1:Int))∧(0:Int)≤(x:Int)-(1:Int)∧(x:Int)-(1:Int)<(q66_4 d)∧(decide (nth d.1 (x:Int).toNat=nth d.1 ((x:Int)-(1:Int)).toNat)=true→(0:Int)≤(x:Int)∧(x:Int)≤(q66_4 d)∧(q66_4 d)≤(q66_4 d)∧(∃(x_5:Nat×List ShD),(((1:Int)=(x_5.1:Int)∧(x:Int)=U.jfj U.wL d.1 (q66_0 x x_5)∧True)∧d.1=x_5.2∧True)∧U.juv U.wL d.1 (x:Int).toNat x_5.1 x_5.2)∧∀(x_5:Nat×List ShD),U.juv U.wL d.1 (x:Int).toNat x_5.1 x_5.2→(q66_4 d).toNat-(x:Int).toNat<4611686018427387904→(decide ((x_5.1:Int)<(q66_1 d x))=true→(0:Int)≤(x_5.1:Int)∧(x_5.1:Int)<(q66_1 d x)∧jx ((x_5.1:Int)-(1:Int))∧(0:Int)≤(x_5.1:Int)-(1:Int)∧(x_5.1:Int)-(1:Int)<(q66_1 d x)∧((q66_3 x_5 x)=true→(0:Int)≤(x_5.1:Int)∧(x_5.1:Int)<(q66_1 d x)∧(0:Int)≤U.jfj U.wL d.1 (q66_0 x x_5)∧U.jfj U.wL d.1 (q66_0 x x_5)<(x_5.2.length:Int)∧jx (U.jfj U.wL d.1 (q66_0 x x_5)+(1:Int))∧jx ((x_5.1:Int)+(1:Int))∧∃(x':Nat×List ShD),(((x_5.1:Int)+(1:Int)=(x'.1:Int)∧U.jfj U.wL d.1 (q66_0 x x_5)+(1:Int)=U.jfj U.wL d.1 ((x:Int).toNat+x'.1)∧True)∧x_5.2.set (U.jfj U.wL d.1 (q66_0 x x_5)).toNat (nth x_5.2 ((x:Int).toNat+(x_5.1:Int).toNat))=x'.2∧True)∧U.juv U.wL d.1 (x:Int).toNat x'.1 x'.2∧d.1.length-x'.1<d.1.length-x_5.1)∧((q66_3 x_5 x)=false→jx ((x_5.1:Int)+(1:Int))∧∃(x':Nat×List ShD),((U.jfj U.wL d.1 (q66_0 x x_5)=U.jfj U.wL d.1 ((x:Int).toNat+x'.1)∧(x_5.1:Int)+(1:Int)=(x'.1:Int)∧True)∧x_5.2=x'.2∧True)∧U.juv U.wL d.1 (x:Int).toNat x'.1 x'.2∧d.1.length-x'.1<d.1.length-x_5.1))∧(decide ((x_5.1:Int)<(q66_1 d x))=false→(0:Int)≤U.jfj U.wL d.1 (q66_0 x x_5)∧U.jfj U.wL d.1 (q66_0 x x_5)≤(x_5.2.length:Int)∧(x_5.2.length:Int)≤(x_5.2.length:Int)∧(U.jfj U.wL d.1 (q66_0 x x_5)).toNat+((x_5.2.length:Int).toNat-(U.jfj U.wL d.1 (q66_0 x x_5)).toNat)=x_5.2.length∧(0:Int)≤(0:Int)∧(0:Int)≤U.jfj U.wL d.1 (q66_0 x x_5)∧U.jfj U.wL d.1 (q66_0 x x_5)≤(↑(q66_2 d x x_5).length:Int)∧(List.take ((U.jfj U.wL d.1 (q66_0 x x_5)).toNat-Int.toNat (0:Int)) (q66_2 d x x_5),())=(U.yt U.wL d.1,())∧()=()))∧(decide (nth d.1 (x:Int).toNat=nth d.1 ((x:Int)-(1:Int)).toNat)=false→jx ((x:Int)+(1:Int))∧∃(x':Nat),(((x:Int)+(1:Int)=(x':Int)∧True)∧True)∧U.jEh U.wL d.1 x'∧d.1.length-x'<d.1.length-x))∧(decide ((x:Int)<(q66_4 d))=false→d=(U.yt U.wL d.1,())∧()=()))
theorem jcN:jcR (ctx 61 [] []) (jgM) Tryz.f102 (jd Tryz.f102) ql=y4:=by kernel_rfl
abbrev w4:kx:=jCZ tSh 54
def yF:kx:=⟨[.val (.slice tSh)],[rwS],fun d=>[d.1.length≤100000],fun d=>((U.jV d.1,()),())⟩
abbrev q67_0:=(Ty.int.pair (Ty.int.pair (Ty.int.pair (Ty.int.pair (Ty.int.pair Ty.unit)))))
def jg4:Prop:=∀(d:List ShD×Unit),d.1.length≤100000→d.1.length≤100000∧(∀(x:ShD),x∈d.1→∀(y:ShD),y∈d.1→U.jE [])∧kQ (U.jg q67_0 fun(x:ShD×ShD×Unit)=>(U.jao x.1 x.2.1,())) d.1∧(U.ja (U.jg q67_0 fun(x:ShD×ShD×Unit)=>(U.jao x.1 x.2.1,())) d.1).length≤100000∧(U.yt U.wL (U.ja (U.jg q67_0 fun(x:ShD×ShD×Unit)=>(U.jao x.1 x.2.1,())) d.1),())=(U.jV d.1,())∧()=()
theorem jj9:jcR (ctx 10 [(99,gh)] [(97,vw),(98,w4),(102,ql)]) (fun _=>none) Tryz.f48 (jd Tryz.f48) yF=jg4:=by kernel_rfl
def jdy:kx:=⟨[.val tSh,.own (.box 125 [.map .int .int]) true],[.cl (.dat .bool)],fun d=>[U.jyM d.2.1.1],fun d=>((U.jwz d.2.1.1 d.1,()),((U.jeI d.2.1.1 d.1,()),()))⟩
abbrev q68_0 (d:ShD×(List (Int×Int)×Unit)×Unit):=(wc (0:Int) (zC Ty.int d.1.1 d.2.1.1)+(1:Int))
def jju:Prop:=∀(d:ShD×(List (Int×Int)×Unit)×Unit),U.jyM d.2.1.1→jx (q68_0 d)∧(decide ((1:Int)<wc (0:Int) (zC Ty.int d.1.1 (jgi Ty.int d.1.1 (q68_0 d) d.2.1.1))),())=(U.jwz d.2.1.1 d.1,())∧((jgi Ty.int d.1.1 (q68_0 d) d.2.1.1,()),())=((U.jeI d.2.1.1 d.1,()),())
theorem jlm:jcR (ctx 14 [] []) (fun _=>none) Tryz.f96 (jd Tryz.f96) jdy=jju:=by kernel_rfl
abbrev clV:Sh:= .fbox 96 125 [.map .int .int]
def kF:kx:=⟨[.val (.slice tSh),.own clV true],[.cl (.dat .int)],fun d=>[d.1.length≤100000,U.jFL d.2.1.1],fun d=>((U.jeg d.2.1.1 d.1,()),((U.jgD d.2.1.1 d.1,()),()))⟩
def jbt:Ann:=fun r=>match r with
  |2=>some fun σ=>{X:=Nat,sl:=fun i=>[(8,.dat .int (i:Int))],ob:=fun i=>[(400020,some (.map false .int .int (U.wj [] (gd (.slice tSh) σ 0) i)))],inv:=fun i=>i≤(gd (.slice tSh) σ 0).length∧∀b:Nat,b<i→U.jig [] (gd (.slice tSh) σ 0) b=false,mu:=fun i=>(gd (.slice tSh) σ 0).length-i}
  |_=>none
def qw:Prop:=∀(d:List ShD×(List (Int×Int)×Unit)×Unit),d.1.length≤100000→U.jFL d.2.1.1→d.1.length<4611686018427387904→(∃(x:Nat),(((0:Int)=(x:Int)∧True)∧d.2.1.1=U.wj [] d.1 x∧True)∧x≤d.1.length∧∀(b:Nat),b<x→U.jig [] d.1 b=false)∧∀(x:Nat),(x≤d.1.length∧∀(b:Nat),b<x→U.jig [] d.1 b=false)→(decide ((x:Int)<(d.1.length:Int))=true→(0:Int)≤(x:Int)∧(x:Int)<(d.1.length:Int)∧U.jyM (U.wj [] d.1 x)∧(U.jwz (U.wj [] d.1 x) (nth d.1 (x:Int).toNat)=true→((x:Int),())=(U.jeg d.2.1.1 d.1,())∧((U.jeI (U.wj [] d.1 x) (nth d.1 (x:Int).toNat),()),())=((U.jgD d.2.1.1 d.1,()),()))∧(U.jwz (U.wj [] d.1 x) (nth d.1 (x:Int).toNat)=false→jx ((x:Int)+(1:Int))∧∃(x':Nat),(((x:Int)+(1:Int)=(x':Int)∧True)∧(True∧True)∧U.jeI (U.wj [] d.1 x) (nth d.1 (x:Int).toNat)=U.wj [] d.1 x'∧True)∧(x'≤d.1.length∧∀(b:Nat),b<x'→U.jig [] d.1 b=false)∧d.1.length-x'<d.1.length-x))∧(decide ((x:Int)<(d.1.length:Int))=false→((-1:Int),())=(U.jeg d.2.1.1 d.1,())∧((U.wj [] d.1 x,()),())=((U.jgD d.2.1.1 d.1,()),()))
theorem yW:jcR (ctx 19 [] [(96,jdy)]) (jbt) Tryz.f141 (jd Tryz.f141) kF=qw:=by kernel_rfl
def zX:kx:=⟨[.val (.slice tSh),.own clV true],[.cl (.dat .bool)],fun d=>[d.1.length≤100000,U.jFL d.2.1.1],fun d=>((decide (0≤U.jeg d.2.1.1 d.1),()),((U.jgD d.2.1.1 d.1,()),()))⟩
def wD:Prop:=∀(d:List ShD×(List (Int×Int)×Unit)×Unit),d.1.length≤100000→U.jFL d.2.1.1→d.1.length≤100000∧U.jFL d.2.1.1∧(decide ((0:Int)≤U.jeg d.2.1.1 d.1),())=(decide ((0:Int)≤U.jeg d.2.1.1 d.1),())∧((U.jgD d.2.1.1 d.1,()),())=((U.jgD d.2.1.1 d.1,()),())
theorem vN:jcR (ctx 9 [] [(141,kF)]) (fun _=>none) Tryz.f95 (jd Tryz.f95) zX=wD:=by kernel_rfl
def jiw:jW:=⟨[.val (.slice tSh)],[.bool],false,fun d=>[d.1.length≤100000],fun d=>(U.jyh d.1,())⟩
def joC:Prop:=∀(d:List ShD×Unit),d.1.length≤100000→d.1.length≤100000∧U.jFL []∧(decide ((0:Int)≤U.jeg [] d.1),())=(U.jyh d.1,())
theorem jpH:zq (ctx 8 [] [(95,zX)]) (fun _=>none) Tryz.f47 (jd Tryz.f47) jiw=joC:=by kernel_rfl
def jaz:jW:=⟨[.val tDy],[.int],false,fun _=>[],fun d=>(U.jnf d.1,())⟩
def joo:Ann:=fun r=>match r with
  |5=>some fun σ=>{X:=Nat,sl:=fun i=>[(17,.dat .int (i:Int))],ob:=fun _=>[],inv:=fun i=>i≤(gd (.slice tBk) σ 15).length∧∀b:Nat,b<i→U.jU (U.jo (gd tDy σ 0)) (U.jaL (nth (gd (.slice tBk) σ 15) b))=true,mu:=fun i=>(gd (.slice tBk) σ 15).length-i}
  |_=>none
abbrev q72_0:=((0:Int),(1:Int),(0:Int),(0:Int),(0:Int),(1:Int),())
def jfa:Prop:=∀(d:DyD×Unit),(decide (U.zS d.1.1 q72_0≠(0:Int))=true→(U.zS d.1.1 q72_0,())=(U.jnf d.1,()))∧(decide (U.zS d.1.1 q72_0≠(0:Int))=false→d.1.2.2.1.length<4611686018427387904→(∃(x:Nat),(((0:Int)=(x:Int)∧True)∧True)∧x≤d.1.2.2.1.length∧∀(b:Nat),b<x→U.jU (U.jo d.1) (U.jaL (nth d.1.2.2.1 b))=true)∧∀(x:Nat),(x≤d.1.2.2.1.length∧∀(b:Nat),b<x→U.jU (U.jo d.1) (U.jaL (nth d.1.2.2.1 b))=true)→(decide ((x:Int)<(d.1.2.2.1.length:Int))=true→(0:Int)≤(x:Int)∧(x:Int)<(d.1.2.2.1.length:Int)∧(decide (U.zS d.1.1 (nth d.1.2.2.1 (x:Int).toNat).1≠(0:Int))=true→(U.zS d.1.1 (nth d.1.2.2.1 (x:Int).toNat).1,())=(U.jnf d.1,()))∧(decide (U.zS d.1.1 (nth d.1.2.2.1 (x:Int).toNat).1≠(0:Int))=false→jx ((x:Int)+(1:Int))∧∃(x':Nat),(((x:Int)+(1:Int)=(x':Int)∧True)∧True)∧(x'≤d.1.2.2.1.length∧∀(b:Nat),b<x'→U.jU (U.jo d.1) (U.jaL (nth d.1.2.2.1 b))=true)∧d.1.2.2.1.length-x'<d.1.2.2.1.length-x))∧(decide ((x:Int)<(d.1.2.2.1.length:Int))=false→((0:Int),())=(U.jnf d.1,())))
theorem jin:zq (ctx 30 [(85,jek)] []) (joo) Tryz.f45 (jd Tryz.f45) jaz=jfa:=by kernel_rfl
def jem:jW:=⟨[.val tDy],[.int],false,fun d=>[(U.jT d.1).length≤100000],fun d=>(U.jI d.1,())⟩
def joE:Prop:=∀(d:DyD×Unit),(U.jT d.1).length≤100000→(decide (U.jnf d.1≠(0:Int))=true→(U.jnf d.1,())=(U.jI d.1,()))∧(decide (U.jnf d.1≠(0:Int))=false→((!U.kg d.1)=true→((50:Int),())=(U.jI d.1,()))∧((!U.kg d.1)=false→d.1.2.2.2.2.2.1.length≤100000∧(U.jV d.1.2.2.2.2.2.1).length≤100000∧(U.jyh (U.jV d.1.2.2.2.2.2.1)=true→((51:Int),())=(U.jI d.1,()))∧(U.jyh (U.jV d.1.2.2.2.2.2.1)=false→((0:Int),())=(U.jI d.1,()))))
theorem jpJ:zq (ctx 18 [(45,jaz),(46,jiv),(47,jiw)] [(48,yF)]) (fun _=>none) Tryz.f16 (jd Tryz.f16) jem=joE:=by kernel_rfl
end Go.X
namespace Go.X
open Go.Proofs
theorem jxm:jlg:=by
  intro d;rfl
theorem jgg:ze PR 90 y9:=zv (jnB.mpr jxm) Tryz.func90 (by kernel_rfl) (by kernel_rfl) (by kernel_rfl) (by kernel_rfl) trivial trivial
theorem jgs:yv:=by
  rintro⟨l,f,⟨⟩⟩ hpre hl;refine⟨⟨0,⟨⟨rfl,trivial⟩,trivial⟩,jG2 _,fun b hb=>by omega⟩,fun i hi=>⟨fun h=> ?_,fun h=> ?_⟩⟩
  · have h:i<l.length:=(by simpa using h);simp only[jGX] at*;refine⟨by omega,by omega,qr _ (hpre _ (L.mem_nth h)) ⟨fun hb=> ?_,fun hb=>⟨L.in64 (by omega) (by omega),i+1,⟨⟨by simp,trivial⟩,trivial⟩,⟨by omega,fun b hb'=> ?_⟩,by omega⟩⟩⟩
    · rw[qA (p:=U.jb (α:=SpD) f.F) h hi.2 hb]
    · by_cases e:b=i
      · subst e;exact hb
      · exact hi.2 b (by omega)
  · have h:l.length≤i:=(by simpa using h);rw[kU (p:=U.jb (α:=SpD) f.F) h hi.2]
theorem jeZ:ze PR 164 wY:=zv (jbC.mpr jgs) Tryz.func164 (by kernel_rfl) (by kernel_rfl) (by kernel_rfl) (by kernel_rfl) trivial trivial
theorem jcT:qG:=by
  rintro⟨l,f,⟨⟩⟩ hpre;refine⟨hpre,?_⟩;exact congrArg (·,()) (jdY (U.jb (α:=SpD) f.F) l)
theorem jb0:ze PR 134 wa:=zv (gG.mpr jcT) Tryz.func134 (by kernel_rfl) (by kernel_rfl) (by kernel_rfl) (by kernel_rfl) ⟨fun _=>jeZ,trivial⟩ trivial
theorem je3:vL:=by
  rintro⟨l,f,⟨⟩⟩ hpre hl;refine⟨⟨0,⟨⟨rfl,trivial⟩,trivial⟩,jG2 _,fun b hb=>by omega⟩,fun i hi=>⟨fun h=> ?_,fun h=> ?_⟩⟩
  · have h:i<l.length:=(by simpa using h);simp only[jGX] at*;refine⟨by omega,by omega,qr _ (hpre _ (L.mem_nth h)) ⟨fun hb=> ?_,fun hb=>⟨L.in64 (by omega) (by omega),i+1,⟨⟨by simp,trivial⟩,trivial⟩,⟨by omega,fun b hb'=> ?_⟩,by omega⟩⟩⟩
    · rw[qA (p:=U.jb (α:=(List SpD)) f.F) h hi.2 hb]
    · by_cases e:b=i
      · subst e;exact hb
      · exact hi.2 b (by omega)
  · have h:l.length≤i:=(by simpa using h);rw[kU (p:=U.jb (α:=(List SpD)) f.F) h hi.2]
theorem jdJ:ze PR 165 wE:=zv (jaO.mpr je3) Tryz.func165 (by kernel_rfl) (by kernel_rfl) (by kernel_rfl) (by kernel_rfl) trivial trivial
theorem jb8:qx:=by
  rintro⟨l,f,⟨⟩⟩ hpre;refine⟨hpre,?_⟩;exact congrArg (·,()) (jdY (U.jb (α:=(List SpD)) f.F) l)
theorem ja6:ze PR 136 kC:=zv (yY.mpr jb8) Tryz.func136 (by kernel_rfl) (by kernel_rfl) (by kernel_rfl) (by kernel_rfl) ⟨fun _=>jdJ,trivial⟩ trivial
theorem jcS:qF:=by
  rintro⟨l,f,⟨⟩⟩ hpre hl;refine⟨⟨0,⟨⟨rfl,trivial⟩,trivial⟩,jG2 _,fun b hb=>by omega⟩,fun i hi=>⟨fun h=> ?_,fun h=> ?_⟩⟩
  · have h:i<l.length:=(by simpa using h);simp only[jGX] at*;refine⟨by omega,by omega,qr _ (hpre _ (L.mem_nth h)) ⟨fun hb=> ?_,fun hb=>⟨L.in64 (by omega) (by omega),i+1,⟨⟨by simp,trivial⟩,trivial⟩,⟨by omega,fun b hb'=> ?_⟩,by omega⟩⟩⟩
    · rw[qA (p:=U.jb (α:=BkD) f.F) h hi.2 hb]
    · by_cases e:b=i
      · subst e;exact hb
      · exact hi.2 b (by omega)
  · have h:l.length≤i:=(by simpa using h);rw[kU (p:=U.jb (α:=BkD) f.F) h hi.2]
theorem jbZ:ze PR 166 k8:=zv (gF.mpr jcS) Tryz.func166 (by kernel_rfl) (by kernel_rfl) (by kernel_rfl) (by kernel_rfl) trivial trivial
theorem jaI:wW:=by
  rintro⟨l,f,⟨⟩⟩ hpre;refine⟨hpre,?_⟩;exact congrArg (·,()) (jdY (U.jb (α:=BkD) f.F) l)
theorem gJ:ze PR 138 kh:=zv (yg.mpr jaI) Tryz.func138 (by kernel_rfl) (by kernel_rfl) (by kernel_rfl) (by kernel_rfl) ⟨fun _=>jbZ,trivial⟩ trivial
theorem je4:vM:=by
  rintro⟨l,f,⟨⟩⟩ hpre hl;refine⟨⟨0,⟨⟨rfl,trivial⟩,trivial⟩,jG2 _,fun b hb=>by omega⟩,fun i hi=>⟨fun h=> ?_,fun h=> ?_⟩⟩
  · have h:i<l.length:=(by simpa using h);simp only[jGX] at*;refine⟨by omega,by omega,qr _ (hpre _ (L.mem_nth h)) ⟨fun hb=> ?_,fun hb=>⟨L.in64 (by omega) (by omega),i+1,⟨⟨by simp,trivial⟩,trivial⟩,⟨by omega,fun b hb'=> ?_⟩,by omega⟩⟩⟩
    · rw[qA (p:=U.jb (α:=ShD) f.F) h hi.2 hb]
    · by_cases e:b=i
      · subst e;exact hb
      · exact hi.2 b (by omega)
  · have h:l.length≤i:=(by simpa using h);rw[kU (p:=U.jb (α:=ShD) f.F) h hi.2]
theorem jdK:ze PR 141 wF:=zv (jaP.mpr je4) Tryz.func141 (by kernel_rfl) (by kernel_rfl) (by kernel_rfl) (by kernel_rfl) trivial trivial
theorem jb9:qy:=by
  rintro⟨l,f,⟨⟩⟩ hpre;refine⟨hpre,?_⟩;exact congrArg (·,()) (jdY (U.jb (α:=ShD) f.F) l)
theorem ja7:ze PR 95 kD:=zv (yZ.mpr jb9) Tryz.func95 (by kernel_rfl) (by kernel_rfl) (by kernel_rfl) (by kernel_rfl) ⟨fun _=>jdK,trivial⟩ trivial
theorem jkD:jaV:=by
  intro d h;exact qr _ h rfl
theorem jiP:ze PR 135 vq:=zv (jeU.mpr jkD) Tryz.func135 (by kernel_rfl) (by kernel_rfl) (by kernel_rfl) (by kernel_rfl) trivial trivial
theorem joc:jdd:=by
  intro d h;exact⟨fun g hg=>⟨h g hg,trivial⟩,congrArg (·,()) (jmq d.snd.fst.2 d.fst)⟩
theorem jmh:ze PR 88 gg:=zv (jg2.mpr joc) Tryz.func88 (by kernel_rfl) (by kernel_rfl) (by kernel_rfl) (by kernel_rfl) ⟨fun _=>jb0,fun _=>jiP,trivial⟩ trivial
theorem ji6:gT:=by
  intro d h;exact qr _ h rfl
theorem jhz:ze PR 137 qK:=zv (jdc.mpr ji6) Tryz.func137 (by kernel_rfl) (by kernel_rfl) (by kernel_rfl) (by kernel_rfl) trivial trivial
theorem jmR:jct:=by
  intro d h;exact⟨fun g hg=>⟨h g hg,trivial⟩,congrArg (·,()) (jmq d.snd.fst.2 d.fst)⟩
theorem jks:ze PR 92 ym:=zv (jfG.mpr jmR) Tryz.func92 (by kernel_rfl) (by kernel_rfl) (by kernel_rfl) (by kernel_rfl) ⟨fun _=>ja6,fun _=>jhz,trivial⟩ trivial
theorem jgu:yx:=by
  intro d h;exact qr _ h rfl
theorem je1:ze PR 139 wZ:=zv (jbE.mpr jgu) Tryz.func139 (by kernel_rfl) (by kernel_rfl) (by kernel_rfl) (by kernel_rfl) trivial trivial
theorem ji8:gV:=by
  intro d h;exact⟨fun g hg=>⟨h g hg,trivial⟩,congrArg (·,()) (jmq d.snd.fst.2 d.fst)⟩
theorem jhB:ze PR 93 qM:=zv (jdf.mpr ji8) Tryz.func93 (by kernel_rfl) (by kernel_rfl) (by kernel_rfl) (by kernel_rfl) ⟨fun _=>gJ,fun _=>je1,trivial⟩ trivial
theorem ji7:gU:=by
  intro d h;exact qr _ h rfl
theorem jhA:ze PR 140 qL:=zv (jde.mpr ji7) Tryz.func140 (by kernel_rfl) (by kernel_rfl) (by kernel_rfl) (by kernel_rfl) trivial trivial
theorem jmS:jcu:=by
  intro d h;exact⟨fun g hg=>⟨h g hg,trivial⟩,congrArg (·,()) (jmq d.snd.fst.2 d.fst)⟩
theorem jkt:ze PR 94 yn:=zv (jfH.mpr jmS) Tryz.func94 (by kernel_rfl) (by kernel_rfl) (by kernel_rfl) (by kernel_rfl) ⟨fun _=>ja7,fun _=>jhA,trivial⟩ trivial
theorem juG:jjt:=fun _=>rfl
theorem jsa:ze PR 86 jdu:=zv (jll.mpr juG) Tryz.func86 (by kernel_rfl) (by kernel_rfl) (by kernel_rfl) (by kernel_rfl) trivial trivial
theorem juF:jjs:=by
  rintro⟨l,d,f,⟨⟩⟩ h1 _ _;exact⟨fun _=>h1,rfl⟩
theorem jr9:ze PR 87 jdt:=zv (jlk.mpr juF) Tryz.func87 (by kernel_rfl) (by kernel_rfl) (by kernel_rfl) (by kernel_rfl) ⟨fun _=>jmh,trivial⟩ trivial
theorem juE:jjr:=by
  rintro⟨b,d,⟨⟩⟩ h;have h:(U.jO d).length<4611686018427387904:=h;exact⟨L.in64 (by show _≤((U.jO d).length:Int)-1;omega) (by show((U.jO d).length:Int)-1≤_;omega),rfl⟩
theorem jr8:ze PR 89 jds:=zv (jlj.mpr juE) Tryz.func89 (by kernel_rfl) (by kernel_rfl) (by kernel_rfl) (by kernel_rfl) ⟨fun _=>jgg,trivial⟩ trivial
theorem juD:jjq:=by
  unfold jjq q58_0 q58_2 q58_1;rintro⟨s,d,⟨⟩⟩ h;refine⟨fun hc=> ?_,fun h2=>⟨fun hc=> ?_,rfl⟩⟩
  · have h:=h hc;exact L.in64 (by simp only at*;omega) (by simp only at*;omega)
  · have h:=h2 hc;exact L.in64 (by simp only at*;omega) (by simp only at*;omega)
theorem jr7:ze PR 91 jdr:=zv (jli.mpr juD) Tryz.func91 (by kernel_rfl) (by kernel_rfl) (by kernel_rfl) (by kernel_rfl) ⟨fun _=>jgg,trivial⟩ trivial
theorem jBT (s:SpD):U.jjP s=U.jhE s:=by
  unfold U.jjP U.jhE;rw[jHk];simp only[jGT,decide_eq_true_eq];omega
theorem jBV (n:Nat) (b:BkD):U.jmm n b=U.je2 n b:=by
  unfold U.jmm U.je2 U.jc;rw[jHk];simp only[jGT,decide_eq_true_eq];omega
theorem jBU (nb np:Nat) (s:ShD):U.jsf nb np s=U.jdN nb np s:=by
  unfold U.jsf U.jdN U.jc;rw[jHk];simp only[jGT,decide_eq_true_eq];omega
theorem jCa (d:DyD):(((((((decide (((U.jv d).length:Int)≤4)&&U.jc ((U.jO d).length:Int) 1 5)&&(U.jO d).all (fun r=>decide ((r.length:Int)=((U.jO d).length:Int))&&r.all U.jhE))&&(U.jv d).all (U.je2 (U.jO d).length))&&U.jc (U.jki d) 0 300)&&U.jc (U.jB2 d) 0 1440)&&decide (((U.jT d).length:Int)≤30))&&(U.jT d).all (U.jdN (U.jv d).length (U.ji (U.jo d)).length))=U.kg d:=by
  unfold U.kg;have e:(fun(r:List SpD)=>decide ((r.length:Int)=((U.jO d).length:Int))&&r.all U.jhE)=U.gx (U.jO d).length:=by
    funext r;unfold U.gx;congr 1;exact decide_eq_decide.2 (by omega)
  rw[e];cases (U.jO d).all (U.gx (U.jO d).length)<;>cases (U.jv d).all (U.je2 (U.jO d).length)<;>cases (U.jT d).all (U.jdN (U.jv d).length (U.ji (U.jo d)).length)<;>simp only[Bool.and_false,Bool.and_true,Bool.false_and,U.jc]
  rw[jHk];simp only[jGT,decide_eq_true_eq];omega
theorem jAe:joB:=by
  unfold joB q59_2 q59_1 q59_0;rintro⟨d,⟨⟩⟩ _ _;refine⟨fun _ _ _=>⟨fun _ _=>trivial,trivial⟩,fun _ _ _=>trivial,fun _=>⟨fun _ _ _=>trivial,?_⟩⟩;have e1:(U.jb fun(x:SpD×Unit)=>(U.jjP x.fst,()))=U.jhE:=funext jBT;have e2:(U.jb fun(x:BkD×Unit)=>(U.jmm (U.jO d).length x.fst,()))=U.je2 (U.jO d).length:=funext (jBV _);have e3:(U.jb fun(x:ShD×Unit)=>(U.jsf (U.jv d).length (U.ji (U.jo d)).length x.fst,()))=U.jdN (U.jv d).length (U.ji (U.jo d)).length:=funext (jBU _ _);simp only;rw[e1,e2,e3];exact congrArg (·,()) (jCa d)
theorem jw2:ze PR 46 jiv:=zv (jpG.mpr jAe) Tryz.func46 (by kernel_rfl) (by kernel_rfl) (by kernel_rfl) (by kernel_rfl) ⟨fun _=>jgg,fun _=>jsa,fun _=>jr9,fun _=>jr8,fun _=>jr7,fun _=>jks,fun _=>jhB,fun _=>jkt,trivial⟩ trivial
theorem jmT:jcv:=by
  intro d;simp
theorem jku:ze PR 144 yo:=zv (jfI.mpr jmT) Tryz.func144 (by kernel_rfl) (by kernel_rfl) (by kernel_rfl) (by kernel_rfl) trivial trivial
theorem ji9:gW:=by
  unfold gW q61_0;rintro⟨a,b,⟨⟩⟩;refine⟨fun h=>(by cases h),fun _=>⟨fun h=>(by cases h),fun _=>⟨fun h=> ?_,fun h=>⟨fun h2=> ?_,fun h2=> ?_⟩⟩⟩⟩
  · have h:a<b:=of_decide_eq_true h;simp only;unfold U.jbq;rw[if_pos h]
  · have h:¬a<b:=of_decide_eq_false h;have h2:b<a:=of_decide_eq_true h2;simp only;unfold U.jbq;rw[if_neg h,if_pos h2]
  · have h:¬a<b:=of_decide_eq_false h;have h2:¬b<a:=of_decide_eq_false h2;simp only;unfold U.jbq;rw[if_neg h,if_neg h2]
theorem qQ:ze PR 101 kk:=zv (jdi.mpr ji9) Tryz.func101 (by kernel_rfl) (by kernel_rfl) (by kernel_rfl) (by kernel_rfl) ⟨fun _=>jku,trivial⟩ trivial
theorem jxC {l:List Int} {i:Nat} (h:i<l.length) (h0:∀b:Nat,b<i→nth l b=0) (hi:nth l i≠0):U.wV l=nth l i:=by
  have e:l.find? (fun n=>decide (n≠0))=some (nth l i):=by
    rw[List.find?_eq_some_iff_getElem];refine⟨decide_eq_true hi,i,h,by rw[L.nth_lt h],fun j hj=> ?_⟩;have:=h0 j hj;rw[L.nth_lt (by omega)] at this;simp[this]
  unfold U.wV;rw[e]
theorem jsL {l:List Int} (h0:∀b:Nat,b<l.length→nth l b=0):U.wV l=0:=by
  have e:l.find? (fun n=>decide (n≠0))=none:=by
    rw[List.find?_eq_none];intro x hx;obtain⟨i,hi,rfl⟩:=L.mem_iff.1 hx;simp[h0 i hi]
  unfold U.wV;rw[e]
theorem jsB:jg8:=by
  rintro⟨l,⟨⟩⟩ hl;refine⟨⟨0,⟨⟨rfl,trivial⟩,trivial⟩,jG2 _,fun b hb=>by omega⟩,fun x hx=>⟨fun h=> ?_,fun h=> ?_⟩⟩
  · have h:x<l.length:=(by simpa using h);simp only[jGX];refine⟨by omega,by omega,fun h2=> ?_,fun h2=>⟨L.in64 (by omega) (by simp only at hl;omega),x+1,⟨⟨by simp,trivial⟩,trivial⟩,⟨h,fun b hb=> ?_⟩,by omega⟩⟩
    · rw[jxC h hx.2 (of_decide_eq_true h2)]
    · by_cases e:b=x
      · subst e;exact Classical.not_not.1 (of_decide_eq_false h2)
      · exact hx.2 b (by omega)
  · have h:l.length≤x:=(by simpa using h);rw[jsL (fun b hb=>hx.2 b (by simp only at hb;omega))]
theorem jb2:ze PR 100 qN:=zv (jkc.mpr jsB) Tryz.func100 (by kernel_rfl) (by kernel_rfl) (by kernel_rfl) (by kernel_rfl) trivial trivial
theorem jod:jdg:=fun _=>rfl
theorem jmi:ze PR 99 gh:=zv (jg3.mpr jod) Tryz.func99 (by kernel_rfl) (by kernel_rfl) (by kernel_rfl) (by kernel_rfl) ⟨fun _=>qQ,fun _=>jb2,trivial⟩ trivial
theorem jxn:jln:=fun _=>rfl
theorem jue:ze PR 119 jfP:=zv (jnC.mpr jxn) Tryz.func119 (by kernel_rfl) (by kernel_rfl) (by kernel_rfl) (by kernel_rfl) ⟨fun _=>qQ,fun _=>jb2,trivial⟩ trivial
theorem jkz:jaR:=by
  rintro⟨l,⟨⟩⟩ hl β hβ;have hl:l.length≤100000:=hl;refine⟨fun h=>⟨?_,rfl⟩,fun _=>⟨by simp only;omega,by simp,rfl⟩⟩;have:l=[]:=hβ h;rw[this]
theorem jiL:yf PR 97 vw:=jgj (jeQ.mpr jkz) Tryz.func97 (by kernel_rfl) (by kernel_rfl) (by kernel_rfl) (by kernel_rfl) (by kernel_rfl) trivial trivial
theorem jhV:y4:=by
  unfold y4 q66_1 q66_4 q66_3 q66_2 q66_0;rintro⟨l,⟨⟩⟩ hl1 hl2;have hl1:l.length≤100000:=hl1;obtain⟨eq,heq⟩:∃eq,eq=U.wL:=⟨_,rfl⟩;have hF:∀a b:ShD,decide (a=b)=eq a b:=fun a b=>by rw[heq];rfl
  simp only[←heq,hF,jGX];refine⟨fun h=>⟨?_,trivial⟩,fun h=> ?_⟩
  · have h:(l.length:Int)<2:=of_decide_eq_true h;rw[L.comp_short (by omega)]
  have h:¬(l.length:Int)<2:=of_decide_eq_false h;refine⟨⟨1,⟨⟨rfl,trivial⟩,trivial⟩,jGU _,by omega,?_⟩,fun i hi _=>⟨fun h2=> ?_,fun h2=>⟨?_,trivial⟩⟩⟩
  · rw[L.comp_short];rw[jHj];omega
  · have h2:(i:Int)<(l.length:Int):=of_decide_eq_true h2;obtain⟨i1,i2,i3⟩:=hi;have et:((i:Int)-1).toNat=i-1:=(by omega);rw[et];have hc:=L.comp_take (eq:=eq) (l:=l) i1 (by omega:i<l.length);refine⟨by omega,h2,by unfold jx;omega,by omega,by omega,fun he=>⟨by omega,by omega,jHT _,⟨(1,l),⟨⟨rfl,?_,trivial⟩,rfl,trivial⟩,jGU _,by omega,rfl,?_,rfl,?_⟩,fun x hx _=>⟨fun h3=> ?_,fun h3=> ?_⟩⟩,fun he=>⟨L.in64 (by omega) (by omega),i+1,⟨⟨by simp,trivial⟩,trivial⟩,⟨by omega,by omega,?_⟩,by omega⟩⟩
    · unfold U.jfj;rw[hc,if_pos he,jHf,i3,jHj];omega
    · rw[hc,if_pos he,jHf,i3,jHj];show l.take i=l.take (min i l.length);congr 1;omega
    · rw[hc,if_pos he,jHf,i3,jHj];omega
    · have h3:(x.1:Int)<((l.length-i:Nat):Int):=of_decide_eq_true h3;have hx0:=hx;obtain⟨x1,x2,x3,x4,x5,x6⟩:=hx0;obtain⟨n1,n2⟩:=L.inv9_next i1 hx (by omega);have ek:((x.1:Int)-1).toNat=x.1-1:=(by omega);have ek2:i+(x.1-1)=i+x.1-1:=(by omega);rw[ek,ek2];have hn:U.jfj eq l (i+x.1)=((U.yt eq (l.take (i+x.1))).length:Int):=rfl;refine⟨by omega,h3,by unfold jx;omega,by omega,by omega,fun he2=> ?_,fun he2=> ?_⟩
      · have he2:eq (nth x.2 (i+x.1)) (nth x.2 (i+x.1-1))=false:=(by simpa using he2);obtain⟨k1,k2⟩:=n1 he2;refine⟨by omega,h3,by omega,by omega,by unfold jx;omega,L.in64 (by omega) (by omega),(x.1+1,_),⟨⟨by simp,k1.symm,trivial⟩,rfl,trivial⟩,k2,by show _-(x.1+1)<_;omega⟩
      · have he2:eq (nth x.2 (i+x.1)) (nth x.2 (i+x.1-1))=true:=(by simpa using he2);obtain⟨k1,k2⟩:=n2 he2;exact⟨L.in64 (by omega) (by omega),(x.1+1,x.2),⟨⟨k1.symm,by simp,trivial⟩,rfl,trivial⟩,k2,by show _-(x.1+1)<_;omega⟩
    · have h3:¬(x.1:Int)<((l.length-i:Nat):Int):=of_decide_eq_false h3;obtain⟨x1,x2,x3,x4,x5,x6⟩:=hx;have hn:U.jfj eq l (i+x.1)=((U.yt eq (l.take (i+x.1))).length:Int):=rfl;have hall:l.take (i+x.1)=l:=jHH (by omega);rw[hall] at hn x4 x6;rw[hn];simp only[jGX];have hcl:=L.comp_len (eq:=eq) l;refine⟨by omega,by omega,jHT _,by omega,by omega,by omega,?_,⟨?_,trivial⟩⟩
      · simp only[jHa,jHj,jHL];omega
      · congr 1;rw[show(U.yt eq l).length-Int.toNat 0=(U.yt eq l).length from rfl];rw[List.take_left' (by rw[jHj];omega)];exact x4.symm
    · rw[hc,if_neg (by rw[he];simp),i3];exact(L.take_succ (by omega)).symm
  · have h2:¬(i:Int)<(l.length:Int):=of_decide_eq_false h2;obtain⟨i1,i2,i3⟩:=hi;have hall:l.take i=l:=jHH (by omega);rw[hall] at i3;rw[i3]
theorem jgf:yf PR 102 ql:=jgj (jcN.mpr jhV) Tryz.func102 (by kernel_rfl) (by kernel_rfl) (by kernel_rfl) (by kernel_rfl) (by kernel_rfl) trivial trivial
theorem yA:yf PR 98 w4:=
  jtU Tryz.sortSh 54 rfl (jG6 (by kernel_rfl)) Tryz.isAgg54 Tryz.sizeOf54 (qb Tryz.func98 (c:=jd Tryz.f98) (by kernel_rfl) (by kernel_rfl))
theorem jCC:jcX U.jao:=by
  have e:U.jao=jBk (fun a b=>U.jbq (U.wG a) (U.wG b)) (jBk (fun a b=>U.jbq (U.jnv a) (U.jnv b)) (jBk (fun a b=>U.jbq (U.jyN a) (U.jyN b)) (jBk (fun a b=>U.jbq (U.jcZ a) (U.jcZ b)) (fun a b=>U.jbq (U.qD a) (U.qD b))))):=by
    funext a b;unfold U.jao;simp only[zo,wK,jBk]
    split<;>(try rfl);split<;>(try rfl);split<;>(try rfl);split<;>(try rfl);split<;>(try rfl)
    rename_i h;exact(Classical.not_not.1 h).symm
  rw[e];exact jiV (jjL jh7 U.wG) (jiV (jjL jh7 U.jnv) (jiV (jjL jh7 U.jyN) (jiV (jjL jh7 U.jcZ) (jjL jh7 U.qD))))
theorem jxU {a b:ShD} (h:U.jao a b=0):a=b:=by
  unfold U.jao at h;rw[zo] at h
  split at h
  · contradiction
  rename_i h1;rw[zo] at h
  split at h
  · contradiction
  rename_i h2;rw[zo] at h
  split at h
  · contradiction
  rename_i h3;rw[zo] at h
  split at h
  · contradiction
  rename_i h4;rw[wK] at h;have h1:=yH.1 (Classical.not_not.1 h1);have h2:=yH.1 (Classical.not_not.1 h2);have h3:=yH.1 (Classical.not_not.1 h3);have h4:=yH.1 (Classical.not_not.1 h4);have h5:=yH.1 h;obtain⟨a1,a2,a3,a4,a5,⟨⟩⟩:=a;obtain⟨b1,b2,b3,b4,b5,⟨⟩⟩:=b;have h1:a1=b1:=h1;have h2:a2=b2:=h2;have h3:a3=b3:=h3;have h4:a4=b4:=h4;have h5:a5=b5:=h5;rw[h1,h2,h3,h4,h5]
theorem jBN (l:List ShD):kQ (U.jg tSh fun x=>(U.jao x.1 x.2.1,())) l:=jqa jCC (fun _ _ _ _ h=>jxU h)
theorem jAJ (l:List ShD):(U.jV l).length≤l.length:=by
  unfold U.jV;refine jG5 (L.comp_len _) ?_;rw[(zi l).length_eq];exact jGU _
theorem jsx:jg4:=by
  unfold jg4 q67_0;rintro⟨l,⟨⟩⟩ hl;exact⟨hl,fun _ _ _ _=>trivial,jBN l,by rw[(zi (lt:=U.jg tSh fun x=>(U.jao x.1 x.2.1,())) l).length_eq];exact hl,rfl,rfl⟩
theorem jhC:yf PR 48 yF:=jgj (jj9.mpr jsx) Tryz.func48 (by kernel_rfl) (by kernel_rfl) (by kernel_rfl) (by kernel_rfl) (by kernel_rfl) ⟨fun _=>jmi,trivial⟩ ⟨jiL,yA,jgf,trivial⟩
theorem juH:jju:=by
  unfold jju q68_0;rintro⟨s,⟨m,⟨⟩⟩,⟨⟩⟩ h;have h:U.jyM m:=h;have:=h (U.wG s);have this:0≤wc 0 (zC .int s.1 m)∧wc 0 (zC .int s.1 m)≤200000:=this;exact⟨L.in64 (by simp only;omega) (by simp only;omega),rfl,rfl⟩
theorem jsb:yf PR 96 jdy:=jgj (jlm.mpr juH) Tryz.func96 (by kernel_rfl) (by kernel_rfl) (by kernel_rfl) (by kernel_rfl) (by kernel_rfl) trivial trivial
theorem jbo {m:List (Int×Int)} {l:List ShD} {i:Nat} (h:i<l.length):U.wj m l (i+1)=U.jeI (U.wj m l i) (nth l i):=by
  unfold U.wj;rw[L.take_succ h,jHp];rfl
theorem jDj (l:List ShD):∀i,i≤l.length→∀k,0≤wc 0 (zC .int k (U.wj [] l i))∧wc 0 (zC .int k (U.wj [] l i))≤(i:Int)
  |0,_,k=>⟨jHT 0,jHT 0⟩
  |i+1,hi,k=>by
    have ih:=jDj l i (by omega)
    rw[jbo (by omega)]
    unfold U.jeI
    by_cases e:k=U.wG (nth l i)
    · rw[e]
      have h1:=M.mfind_mput (kt:= .int) (U.wG (nth l i)) (wc 0 (zC .int (U.wG (nth l i)) (U.wj [] l i))+1) (U.wj [] l i)
      rw[h1]
      have:=ih (U.wG (nth l i))
      show 0≤wc 0 (zC .int (U.wG (nth l i)) (U.wj [] l i))+1∧wc 0 (zC .int (U.wG (nth l i)) (U.wj [] l i))+1≤_
      omega
    · have h1:=M.mfind_mput_ne (kt:= .int) (k:=U.wG (nth l i)) (k':=k) e (wc 0 (zC .int (U.wG (nth l i)) (U.wj [] l i))+1) (U.wj [] l i)
      rw[h1]
      have:=ih k
      omega
theorem jCP {m:List (Int×Int)} {l:List ShD} {i:Nat} (h:i<l.length) (h0:∀b:Nat,b<i→U.jig m l b=false) (hi:U.jig m l i=true):U.jeg m l=(i:Int)∧U.jBa m l=i+1:=by
  have e:(List.range l.length).findIdx? (U.jig m l)=some i:=by
    rw[List.findIdx?_eq_some_iff_getElem];refine⟨by simpa using h,by simpa using hi,fun j hj=>by simp[h0 j hj]⟩
  unfold U.jeg U.jBa U.jbv;rw[e];exact⟨rfl,rfl⟩
theorem jpy {m:List (Int×Int)} {l:List ShD} (h0:∀b:Nat,b<l.length→U.jig m l b=false):U.jeg m l= -1∧U.jBa m l=l.length:=by
  have e:(List.range l.length).findIdx? (U.jig m l)=none:=by
    rw[List.findIdx?_eq_none_iff];intro x hx;exact h0 x (jG9.1 hx)
  unfold U.jeg U.jBa U.jbv;rw[e];exact⟨rfl,rfl⟩
theorem jb7:qw:=by
  rintro⟨l,⟨m,⟨⟩⟩,⟨⟩⟩ hl hm hl2;have hm:m=[]:=hm;subst hm;have hl:l.length≤100000:=hl;refine⟨⟨0,⟨⟨rfl,trivial⟩,rfl,trivial⟩,jG2 _,fun b hb=>by omega⟩,fun x hx=>⟨fun h=> ?_,fun h=> ?_⟩⟩
  · have h:x<l.length:=(by simpa using h);simp only[jGX];refine⟨by omega,by omega,fun k=> ?_,fun h2=> ?_,fun h2=>⟨L.in64 (by omega) (by omega),x+1,⟨⟨by simp,trivial⟩,⟨trivial,trivial⟩,(jbo h).symm,trivial⟩,⟨h,fun b hb=> ?_⟩,by omega⟩⟩
    · have:=jDj l x (by omega) k;omega
    · obtain⟨e1,e2⟩:=jCP h hx.2 h2;unfold U.jgD;rw[e1,e2,jbo h];exact⟨rfl,rfl⟩
    · by_cases e:b=x
      · subst e;exact h2
      · exact hx.2 b (by omega)
  · have h:l.length≤x:=(by simpa using h);obtain⟨e1,e2⟩:=jpy (m:=[]) (l:=l) (fun b hb=>hx.2 b (by omega));have hxl:x=l.length:=(by have:=hx.1;simp only at this;omega);unfold U.jgD;rw[e1,e2,hxl];exact⟨rfl,rfl⟩
theorem ja5:yf PR 141 kF:=jgj (yW.mpr jb7) Tryz.func141 (by kernel_rfl) (by kernel_rfl) (by kernel_rfl) (by kernel_rfl) (by kernel_rfl) trivial ⟨jsb,trivial⟩
theorem gL:wD:=fun _ h1 h2=>⟨h1,h2,rfl,rfl⟩
theorem gu:yf PR 95 zX:=jgj (vN.mpr gL) Tryz.func95 (by kernel_rfl) (by kernel_rfl) (by kernel_rfl) (by kernel_rfl) (by kernel_rfl) trivial ⟨ja5,trivial⟩
theorem jAf:joC:=fun _ h=>⟨h,rfl,rfl⟩
theorem jw3:ze PR 47 jiw:=zv (jpH.mpr jAf) Tryz.func47 (by kernel_rfl) (by kernel_rfl) (by kernel_rfl) (by kernel_rfl) trivial ⟨gu,trivial⟩
theorem jBx {c:CrD} (h:U.jq c=true):U.jU c (0,1,0,0,0,1,())=true:=by
  obtain⟨h1,_⟩:=jG h;unfold U.jU;refine decide_eq_true ?_;refine⟨by decide,?_,by decide,?_,by decide,by decide,by decide,by decide,by decide,by decide,by decide,by decide,by decide⟩
  · show(0:Int)≤U.la c-1;omega
  · show(1:Int)≤U.la c-1;omega
theorem jAU (c:CrD):U.zS c (0,1,0,0,0,1,())=if U.jq c=false then 30 else 0:=by
  unfold U.zS;by_cases h:U.jq c=false
  · rw[if_pos h,if_pos h]
  · rw[if_neg h,if_neg h,if_neg (by rw[jBx (by simpa using h)];simp)]
theorem jqC:jfa:=by
  unfold jfa q72_0;rintro⟨d,⟨⟩⟩;have e:=jAU d.1;simp only[e];by_cases hc:U.jq d.1=false
  · rw[if_pos hc];refine⟨fun _=> ?_,fun h=>by simp at h⟩;have hc:U.jq (U.jo d)=false:=hc;unfold U.jnf;rw[if_pos hc]
  · rw[if_neg hc];have hc':U.jq (U.jo d)=true:=eq_true_of_ne_false hc;refine⟨fun h=>by simp at h,fun _ hl=>⟨⟨0,⟨⟨rfl,trivial⟩,trivial⟩,jG2 _,fun b hb=>by omega⟩,fun x hx=>⟨fun h=> ?_,fun h=> ?_⟩⟩⟩
    · have h:(x:Int)<((U.jv d).length:Int):=of_decide_eq_true h;have h:x<(U.jv d).length:=(by omega);have hl:(U.jv d).length<4611686018427387904:=hl;have e2:U.zS d.1 (nth d.2.2.1 x).1=if U.jU (U.jo d) (U.jaL (nth (U.jv d) x))=false then 31 else 0:=by
        show(if U.jq (U.jo d)=false then(30:Int) else if U.jU (U.jo d) (U.jaL (nth (U.jv d) x))=false then 31 else 0)=_;rw[if_neg (by rw[hc'];simp)]
      simp only[jGX,e2];refine⟨by omega,by show(x:Int)<((U.jv d).length:Int);omega,fun h2=> ?_,fun h2=>⟨L.in64 (by omega) (by omega),x+1,⟨⟨by simp,trivial⟩,trivial⟩,⟨h,fun b hb=> ?_⟩,(by show(U.jv d).length-(x+1)<(U.jv d).length-x;omega)⟩⟩
      · have h2:=of_decide_eq_true h2;by_cases hj:U.jU (U.jo d) (U.jaL (nth (U.jv d) x))=false
        · rw[if_pos hj];unfold U.jnf;rw[if_neg (by rw[hc'];simp),if_pos];unfold U.jxi;exact L.all_false h hj
        · rw[if_neg hj] at h2;exact absurd rfl h2
      · have h2:=of_decide_eq_false h2;by_cases e3:b=x
        · subst e3;by_cases hj:U.jU (U.jo d) (U.jaL (nth (U.jv d) b))=false
          · rw[if_pos hj] at h2;exact absurd (by decide) h2
          · exact eq_true_of_ne_false hj
        · exact hx.2 b (by omega)
    · have h:¬(x:Int)<((U.jv d).length:Int):=of_decide_eq_false h;have h:(U.jv d).length≤x:=(by omega);unfold U.jnf;rw[if_neg (by rw[hc'];simp),if_neg];rw[Bool.not_eq_false];unfold U.jxi;rw[jHo];intro b hb;obtain⟨i,hi,rfl⟩:=L.mem_iff.1 hb;exact hx.2 i (by omega)
theorem jn1:ze PR 45 jaz:=zv (jin.mpr jqC) Tryz.func45 (by kernel_rfl) (by kernel_rfl) (by kernel_rfl) (by kernel_rfl) ⟨fun _=>joV,trivial⟩ trivial
theorem jAh:joE:=by
  rintro⟨d,⟨⟩⟩ hl;refine⟨fun h=> ?_,fun h=>⟨fun h2=> ?_,fun h2=>⟨hl,jG5 (jAJ _) hl,fun h3=> ?_,fun h3=> ?_⟩⟩⟩
  · have h:=of_decide_eq_true h;simp only at h⊢;unfold U.jI;rw[if_pos h]
  · have h:=of_decide_eq_false h;simp only at h⊢;unfold U.jI;rw[if_neg h,if_pos (by simpa using h2)]
  · have h:=of_decide_eq_false h;simp only at h⊢;unfold U.jI;rw[if_neg h,if_neg (by simpa using h2)];have h3:U.jyh (U.jV (U.jT d))=true:=h3;rw[if_pos h3]
  · have h:=of_decide_eq_false h;simp only at h⊢;unfold U.jI;rw[if_neg h,if_neg (by simpa using h2)];have h3:U.jyh (U.jV (U.jT d))=false:=h3;rw[if_neg (by rw[h3];simp)]
theorem joX:ze PR 16 jem:=zv (jpJ.mpr jAh) Tryz.func16 (by kernel_rfl) (by kernel_rfl) (by kernel_rfl) (by kernel_rfl) ⟨fun _=>jn1,fun _=>jw2,fun _=>jw3,trivial⟩ ⟨jhC,trivial⟩
end Go.X
namespace Go.X
namespace U
def jwK {α:Type} [Inhabited α] (l:List α) (j k:Nat):List α:=(l.set j (nth l k)).set k (nth l j)
def jeV {α:Type} [Inhabited α] (lt:α→α→Bool):List α→Nat→List α
  |l,0=>l
  |l,j+1=>if lt (nth l (j+1)) (nth l j)=true then jeV lt (jwK l (j+1) j) j else l
def jaE {α:Type} [Inhabited α] (lt:α→α→Bool) (l:List α) (i:Nat):List α:=(List.range i).foldl (jeV lt) l
def jcF {α:Type} [Inhabited α] (lt:α→α→Bool) (l:List α):List α:=jaE lt l l.length
def jgp {α:Type} (lt:α→α→Bool) (x:α):List α→List α
  |[]=>[x]
  |y::r=>if lt x y=true then y::jgp lt x r else x::y::r
end U
namespace IS
variable {α:Type} [Inhabited α] {lt:α→α→Bool}
theorem swap_perm {l:List α} {j k:Nat} (hj:j<l.length) (hk:k<l.length):(U.jwK l j k).Perm l:=by
  unfold U.jwK;rw[L.nth_lt hj,L.nth_lt hk];exact List.set_set_perm hj hk
theorem sink_perm:∀(j:Nat) (l:List α),j<l.length→(U.jeV lt l j).Perm l
  |0,l,_=>List.Perm.refl _
  |j+1,l,h=>by
    unfold U.jeV
    have hs:=swap_perm (l:=l) (j:=j+1) (k:=j) h (by omega)
    split
    · exact(sink_perm j _ (by rw[hs.length_eq];omega)).trans hs
    · exact List.Perm.refl _
theorem part_succ (lt:α→α→Bool) (l:List α) (i:Nat):U.jaE lt l (i+1)=U.jeV lt (U.jaE lt l i) i:=by
  simp[U.jaE,jHu]
theorem part_perm {l:List α}:∀(i:Nat),i≤l.length→(U.jaE lt l i).Perm l
  |0,_=>List.Perm.refl _
  |i+1,h=>by
    rw[part_succ]
    have ih:=part_perm (l:=l) i (by omega)
    exact(sink_perm i _ (by rw[ih.length_eq];omega)).trans ih
theorem isort_perm (lt:α→α→Bool) (l:List α):(U.jcF lt l).Perm l:=part_perm _ (jGU _)
theorem part_isort {l:List α} {i:Nat} (h1:1≤i) (h2:i≤max l.length 1) (h3:l.length≤i):U.jaE lt l i=U.jcF lt l:=by
  unfold U.jcF;by_cases h:l.length=0
  · have:i=1:=(by omega);subst this;rw[h];rfl
  · have:i=l.length:=(by omega);rw[this]
theorem insR_len {α:Type} {lt:α→α→Bool} (x:α):∀q:List α,(U.jgp lt x q).length=q.length+1
  |[]=>rfl
  |y::r=>by
    unfold U.jgp
    split
    · simp[insR_len x r]
    · simp
theorem nth_mid (a:List α) (x:α) (s:List α):nth (a++x::s) a.length=x:=by
  rw[L.nth_lt (by simp)];simp
theorem sink_app:∀(q:List α) (x:α) (s:List α),U.jeV lt (q.reverse++x::s) q.length=(U.jgp lt x q).reverse++s
  |[],x,s=>rfl
  |y::r,x,s=>by
    have e:(y::r).reverse++x::s=r.reverse++y::x::s:=by simp
    rw[e]
    have n1:nth (r.reverse++y::x::s) (r.length+1)=x:=by
      have:=nth_mid (r.reverse++[y]) x s;simpa using this
    have n2:nth (r.reverse++y::x::s) r.length=y:=by
      have:=nth_mid r.reverse y (x::s);simpa using this
    show(if lt (nth _ (r.length+1)) (nth _ r.length)=true then U.jeV lt (U.jwK _ (r.length+1) r.length) r.length else _)=_;rw[n1,n2];unfold U.jgp
    split
    · have hsw:U.jwK (r.reverse++y::x::s) (r.length+1) r.length=r.reverse++x::(y::s):=by
        unfold U.jwK;rw[n1,n2];apply List.ext_getElem?;intro k;simp only[List.getElem?_set,jIe];by_cases h1:r.length=k
        · subst h1;rw[if_pos rfl,if_pos (by simp)];rw[jG3 (by simp)];simp
        · rw[if_neg h1];by_cases h2:r.length+1=k
          · subst h2;rw[if_pos rfl,if_pos (by simp)];rw[jG3 (by simp)];simp
          · rw[if_neg h2];by_cases h3:k<r.length
            · rw[jG4 (by simpa using h3),jG4 (by simpa using h3)]
            · rw[jG3 (by simp;omega),jG3 (by simp;omega)];obtain⟨d,hd⟩:∃d,k-r.reverse.length=d+2:=⟨k-r.length-2,by simp;omega⟩;rw[hd];simp
      rw[hsw,sink_app r x (y::s)];simp
    · simp
theorem fold_len {α:Type} {lt:α→α→Bool}:∀(l q:List α),(l.foldl (fun q x=>U.jgp lt x q) q).length=q.length+l.length
  |[],q=>rfl
  |x::l,q=>by
    simp only[List.foldl_cons,jHr]
    rw[fold_len l,insR_len];omega
theorem part_eq (l:List α):∀i,i≤l.length→U.jaE lt l i=((l.take i).foldl (fun q x=>U.jgp lt x q) []).reverse++l.drop i
  |0,_=>by simp[U.jaE]
  |i+1,h=>by
    rw[part_succ,part_eq l i (by omega)]
    have hd:l.drop i=nth l i::l.drop (i+1):=by
      rw[L.nth_lt (by omega)];exact List.drop_eq_getElem_cons (by omega)
    rw[hd];have hlen:((l.take i).foldl (fun q x=>U.jgp lt x q) []).length=i:=(by rw[fold_len];simp;omega);have:=sink_app (lt:=lt) ((l.take i).foldl (fun q x=>U.jgp lt x q) []) (nth l i) (l.drop (i+1));rw[hlen] at this;rw[this,L.take_succ (by omega),jHp];rfl
theorem isort_eq (l:List α):U.jcF lt l=(l.foldl (fun q x=>U.jgp lt x q) []).reverse:=by
  unfold U.jcF;rw[part_eq l _ (jGU _)];simp
theorem insR_mem {α:Type} {lt:α→α→Bool} {x z:α}:∀{q:List α},z∈U.jgp lt x q↔z=x∨z∈q
  |[]=>by simp[U.jgp]
  |y::r=>by
    unfold U.jgp
    split
    · simp only[jGS,insR_mem (q:=r)]
      constructor
      · rintro(h|h|h)<;>simp[h]
      · rintro(h|h|h)<;>simp[h]
    · simp
theorem insR_desc {α:Type} {lt:α→α→Bool} {x:α}:∀{q:List α},kQ lt (x::q)→q.Pairwise (fun a b=>lt a b=false)→(U.jgp lt x q).Pairwise (fun a b=>lt a b=false)
  |[],_,_=>by simp[U.jgp]
  |y::r,ho,h=>by
    rw[jHG] at h
    unfold U.jgp
    split
    · rename_i hc
      rw[jHG]
      refine⟨fun z hz=> ?_,insR_desc (ho.sub (fun z hz=>by rcases jGS.1 hz with h|h;exact h▸jHv;exact jGV _ (jGV _ h))) h.2⟩
      rcases insR_mem.1 hz with rfl|hz
      · exact ho.asymm (by simp) (by simp) hc
      · exact h.1 z hz
    · rename_i hc
      have hc:lt x y=false:=by simpa using hc
      rw[jHG]
      refine⟨fun z hz=> ?_,jHG.2 h⟩
      rcases jGS.1 hz with rfl|hz
      · exact hc
      · exact ho.ntrans (by simp) (by simp) (by simp[hz]) hc (h.1 z hz)
theorem fold_desc {α:Type} {lt:α→α→Bool}:∀(l q:List α),kQ lt (l++q)→q.Pairwise (fun a b=>lt a b=false)→(l.foldl (fun q x=>U.jgp lt x q) q).Pairwise (fun a b=>lt a b=false)
  |[],q,_,h=>h
  |x::l,q,ho,h=>by
    refine fold_desc l _ (ho.sub (fun z hz=> ?_)) (insR_desc (ho.sub (fun z hz=> ?_)) h)
    · rcases jG1.1 hz with hz|hz
      · simp[hz]
      · rcases insR_mem.1 hz with rfl|hz
        · simp
        · simp[hz]
    · rcases jGS.1 hz with rfl|hz
      · simp
      · simp[hz]
theorem isort_asc {l:List α} (ho:kQ lt l):jye lt (U.jcF lt l):=by
  rw[isort_eq];unfold jye;rw[List.pairwise_reverse];exact fold_desc l [] (by simpa using ho) (by simp)
theorem isort_sort {l:List α} (ho:kQ lt l):U.jcF lt l=U.ja lt l:=jrz ho (isort_perm lt l) (isort_asc ho)
end IS
end Go.X
namespace Go.X
open Go.Proofs
def U.len8tab:ByteArray:=⟨#[0,1,2,2,3,3,3,3,4,4,4,4,4,4,4,4,5,5,5,5,5,5,5,5,5,5,5,5,5,5,5,5,6,6,6,6,6,6,6,6,6,6,6,6,6,6,6,6,6,6,6,6,6,6,6,6,6,6,6,6,6,6,6,6,7,7,7,7,7,7,7,7,7,7,7,7,7,7,7,7,7,7,7,7,7,7,7,7,7,7,7,7,7,7,7,7,7,7,7,7,7,7,7,7,7,7,7,7,7,7,7,7,7,7,7,7,7,7,7,7,7,7,7,7,7,7,7,7,8,8,8,8,8,8,8,8,8,8,8,8,8,8,8,8,8,8,8,8,8,8,8,8,8,8,8,8,8,8,8,8,8,8,8,8,8,8,8,8,8,8,8,8,8,8,8,8,8,8,8,8,8,8,8,8,8,8,8,8,8,8,8,8,8,8,8,8,8,8,8,8,8,8,8,8,8,8,8,8,8,8,8,8,8,8,8,8,8,8,8,8,8,8,8,8,8,8,8,8,8,8,8,8,8,8,8,8,8,8,8,8,8,8,8,8,8,8,8,8,8,8,8,8,8,8,8,8]⟩
abbrev rwI:Sh:= .cl (.row 3 .int .unk)
namespace U
abbrev FC:=Int×Int×Unit→Int×Unit
abbrev yG (F:FC):Int→Int→Bool:=jg .int F
def jcB (p:Int×Int×Unit→List Prop) (l:List Int):Prop:=∀x∈l,∀y∈l,jE (p (x,y,()))
def jgH (n:Int):Int:=if n=0 then 0 else if n<2 then 1 else if n<4 then 2 else if n<8 then 3 else 4
end U
def jbP:jW:=⟨[.val (.uint .u64)],[.int],false,fun d=>[0≤d.1∧d.1≤12],fun d=>(U.jgH d.1,())⟩
abbrev q74_0 (d:Int×Unit):=(d.1/(2:Int)^Int.toNat (32:Int)/(2:Int)^Int.toNat (16:Int)/(2:Int)^Int.toNat (8:Int))
abbrev q74_1 (d:Int×Unit):=(d.1/(2:Int)^Int.toNat (32:Int)/(2:Int)^Int.toNat (16:Int))
abbrev q74_2 (d:Int×Unit):=(d.1/(2:Int)^Int.toNat (32:Int)/(2:Int)^Int.toNat (8:Int))
abbrev q74_3 (d:Int×Unit):=(d.1/(2:Int)^Int.toNat (16:Int)/(2:Int)^Int.toNat (8:Int))
abbrev q74_4 (d:Int×Unit):=((256:Int)≤d.1/(2:Int)^Int.toNat (32:Int)/(2:Int)^Int.toNat (16:Int))
abbrev q74_5 (d:Int×Unit):=(d.1/(2:Int)^Int.toNat (32:Int))
abbrev q74_6 (d:Int×Unit):=(d.1/(2:Int)^Int.toNat (16:Int))
abbrev q74_7 (d:Int×Unit):=(d.1/(2:Int)^Int.toNat (8:Int))
def jha:Prop:=∀(d:Int×Unit),(0:Int)≤d.1∧d.1≤(12:Int)→(decide ((4294967296:Int)≤d.1)=true→(0:Int)≤(32:Int)∧(32:Int)≤(64:Int)∧(decide ((65536:Int)≤d.1/(2:Int)^Int.toNat (32:Int))=true→(0:Int)≤(16:Int)∧(16:Int)≤(64:Int)∧jx ((32:Int)+(16:Int))∧(decide (q74_4 d)=true→(0:Int)≤(8:Int)∧(8:Int)≤(64:Int)∧jx ((32:Int)+(16:Int)+(8:Int))∧(0:Int)≤d.1/(2:Int)^Int.toNat (32:Int)/(2:Int)^Int.toNat (16:Int)/(2:Int)^Int.toNat (8:Int)∧d.1/(2:Int)^Int.toNat (32:Int)/(2:Int)^Int.toNat (16:Int)/(2:Int)^Int.toNat (8:Int)≤(255:Int)∧(0:Int)≤d.1/(2:Int)^Int.toNat (32:Int)/(2:Int)^Int.toNat (16:Int)/(2:Int)^Int.toNat (8:Int)∧d.1/(2:Int)^Int.toNat (32:Int)/(2:Int)^Int.toNat (16:Int)/(2:Int)^Int.toNat (8:Int)<(U.len8tab.size:Int)∧jx (qY U.len8tab (q74_0 d).toNat)∧jx ((32:Int)+(16:Int)+(8:Int)+qY U.len8tab (q74_0 d).toNat)∧((32:Int)+(16:Int)+(8:Int)+qY U.len8tab (q74_0 d).toNat,())=(U.jgH d.1,()))∧(decide (q74_4 d)=false→(0:Int)≤d.1/(2:Int)^Int.toNat (32:Int)/(2:Int)^Int.toNat (16:Int)∧d.1/(2:Int)^Int.toNat (32:Int)/(2:Int)^Int.toNat (16:Int)≤(255:Int)∧(0:Int)≤d.1/(2:Int)^Int.toNat (32:Int)/(2:Int)^Int.toNat (16:Int)∧d.1/(2:Int)^Int.toNat (32:Int)/(2:Int)^Int.toNat (16:Int)<(U.len8tab.size:Int)∧jx (qY U.len8tab (q74_1 d).toNat)∧jx ((32:Int)+(16:Int)+qY U.len8tab (q74_1 d).toNat)∧((32:Int)+(16:Int)+qY U.len8tab (q74_1 d).toNat,())=(U.jgH d.1,())))∧(decide ((65536:Int)≤d.1/(2:Int)^Int.toNat (32:Int))=false→(decide ((256:Int)≤d.1/(2:Int)^Int.toNat (32:Int))=true→(0:Int)≤(8:Int)∧(8:Int)≤(64:Int)∧jx ((32:Int)+(8:Int))∧(0:Int)≤d.1/(2:Int)^Int.toNat (32:Int)/(2:Int)^Int.toNat (8:Int)∧d.1/(2:Int)^Int.toNat (32:Int)/(2:Int)^Int.toNat (8:Int)≤(255:Int)∧(0:Int)≤d.1/(2:Int)^Int.toNat (32:Int)/(2:Int)^Int.toNat (8:Int)∧d.1/(2:Int)^Int.toNat (32:Int)/(2:Int)^Int.toNat (8:Int)<(U.len8tab.size:Int)∧jx (qY U.len8tab (q74_2 d).toNat)∧jx ((32:Int)+(8:Int)+qY U.len8tab (q74_2 d).toNat)∧((32:Int)+(8:Int)+qY U.len8tab (q74_2 d).toNat,())=(U.jgH d.1,()))∧(decide ((256:Int)≤d.1/(2:Int)^Int.toNat (32:Int))=false→(0:Int)≤d.1/(2:Int)^Int.toNat (32:Int)∧d.1/(2:Int)^Int.toNat (32:Int)≤(255:Int)∧(0:Int)≤d.1/(2:Int)^Int.toNat (32:Int)∧d.1/(2:Int)^Int.toNat (32:Int)<(U.len8tab.size:Int)∧jx (qY U.len8tab (q74_5 d).toNat)∧jx ((32:Int)+qY U.len8tab (q74_5 d).toNat)∧((32:Int)+qY U.len8tab (q74_5 d).toNat,())=(U.jgH d.1,()))))∧(decide ((4294967296:Int)≤d.1)=false→(decide ((65536:Int)≤d.1)=true→(0:Int)≤(16:Int)∧(16:Int)≤(64:Int)∧jx ((0:Int)+(16:Int))∧(decide ((256:Int)≤d.1/(2:Int)^Int.toNat (16:Int))=true→(0:Int)≤(8:Int)∧(8:Int)≤(64:Int)∧jx ((0:Int)+(16:Int)+(8:Int))∧(0:Int)≤d.1/(2:Int)^Int.toNat (16:Int)/(2:Int)^Int.toNat (8:Int)∧d.1/(2:Int)^Int.toNat (16:Int)/(2:Int)^Int.toNat (8:Int)≤(255:Int)∧(0:Int)≤d.1/(2:Int)^Int.toNat (16:Int)/(2:Int)^Int.toNat (8:Int)∧d.1/(2:Int)^Int.toNat (16:Int)/(2:Int)^Int.toNat (8:Int)<(U.len8tab.size:Int)∧jx (qY U.len8tab (q74_3 d).toNat)∧jx ((0:Int)+(16:Int)+(8:Int)+qY U.len8tab (q74_3 d).toNat)∧((0:Int)+(16:Int)+(8:Int)+qY U.len8tab (q74_3 d).toNat,())=(U.jgH d.1,()))∧(decide ((256:Int)≤d.1/(2:Int)^Int.toNat (16:Int))=false→(0:Int)≤d.1/(2:Int)^Int.toNat (16:Int)∧d.1/(2:Int)^Int.toNat (16:Int)≤(255:Int)∧(0:Int)≤d.1/(2:Int)^Int.toNat (16:Int)∧d.1/(2:Int)^Int.toNat (16:Int)<(U.len8tab.size:Int)∧jx (qY U.len8tab (q74_6 d).toNat)∧jx ((0:Int)+(16:Int)+qY U.len8tab (q74_6 d).toNat)∧((0:Int)+(16:Int)+qY U.len8tab (q74_6 d).toNat,())=(U.jgH d.1,())))∧(decide ((65536:Int)≤d.1)=false→(decide ((256:Int)≤d.1)=true→(0:Int)≤(8:Int)∧(8:Int)≤(64:Int)∧jx ((0:Int)+(8:Int))∧(0:Int)≤d.1/(2:Int)^Int.toNat (8:Int)∧d.1/(2:Int)^Int.toNat (8:Int)≤(255:Int)∧(0:Int)≤d.1/(2:Int)^Int.toNat (8:Int)∧d.1/(2:Int)^Int.toNat (8:Int)<(U.len8tab.size:Int)∧jx (qY U.len8tab (q74_7 d).toNat)∧jx ((0:Int)+(8:Int)+qY U.len8tab (q74_7 d).toNat)∧((0:Int)+(8:Int)+qY U.len8tab (q74_7 d).toNat,())=(U.jgH d.1,()))∧(decide ((256:Int)≤d.1)=false→(0:Int)≤d.1∧d.1≤(255:Int)∧(0:Int)≤d.1∧d.1<(U.len8tab.size:Int)∧jx (qY U.len8tab d.1.toNat)∧jx ((0:Int)+qY U.len8tab d.1.toNat)∧((0:Int)+qY U.len8tab d.1.toNat,())=(U.jgH d.1,()))))
theorem jkf:zq (ctx 25 [] []) (fun _=>none) Tryz.f176 (jd Tryz.f176) jbP=jha:=by kernel_rfl
def jfY:jW:=⟨[.val (.uint .u64)],[.int],false,fun d=>[0≤d.1∧d.1≤12],fun d=>(U.jgH d.1,())⟩
def jlH:Prop:=∀(d:Int×Unit),(0:Int)≤d.1∧d.1≤(12:Int)→(false=true→False)∧(false=false→((0:Int)≤d.1∧d.1≤(12:Int))∧(U.jgH d.1,())=(U.jgH d.1,()))
theorem jnQ:zq (ctx 8 [(176,jbP)] []) (fun _=>none) Tryz.f143 (jd Tryz.f143) jfY=jlH:=by kernel_rfl
def zA:kx:=⟨[.own rwI true,.val .int,.val .int,.fn [.int,.int] [.int]],[],fun d=>[d.2.1=0∧d.2.2.1=(d.1.length:Int)∧d.1.length≤12,U.jcB d.2.2.2.1.pre d.1],fun d=>((),(U.jcF (U.yG d.2.2.2.1.F) d.1,()))⟩
def yb:Ann:=fun r=>match r with
  |1=>some fun σ=>{X:=Nat,sl:=fun i=>[(8,.dat .int (i:Int))],ob:=fun i=>[(1000000,some (.row 3 .int false .unk (U.jaE (U.yG (gfn [.int,.int] [.int] σ 3)) (gr .int σ 1000000) i)))],inv:=fun i=>1≤i∧i≤max (gr .int σ 1000000).length 1,mu:=fun i=>(gr .int σ 1000000).length-i}
  |4=>some fun σ=>{X:=Nat×List Int,sl:=fun x=>[(9,.dat .int (x.1:Int))],ob:=fun x=>[(1000000,some (.row 3 .int false .unk x.2))],inv:=fun x=>(x.1:Int)≤gd .int σ 8∧x.2.Perm (gr .int σ 1000000)∧U.jeV (U.yG (gfn [.int,.int] [.int] σ 3)) x.2 x.1=U.jeV (U.yG (gfn [.int,.int] [.int] σ 3)) (gr .int σ 1000000) (gd .int σ 8).toNat,mu:=fun x=>x.1}
  |_=>none
abbrev q76_0 (x_3:Nat×List Int):=((x_3.1:Int)-(1:Int))
abbrev q76_1 (d:List Int×Int×Int×FnD [Ty.int,Ty.int] [Ty.int]×Unit):=(U.yG d.2.2.2.1.2)
abbrev q76_2 (x_3:Nat×List Int):=(nth x_3.2 (x_3.1:Int).toNat,nth x_3.2 (q76_0 x_3).toNat,())
def kS:Prop:=∀(d:List Int×Int×Int×FnD [Ty.int,Ty.int] [Ty.int]×Unit),d.2.1=(0:Int)∧d.2.2.1=(d.1.length:Int)∧d.1.length≤12→U.jcB d.2.2.2.1.1 d.1→jx (d.2.1+(1:Int))∧(∃(x:Nat),((d.2.1+(1:Int)=(x:Int)∧True)∧d.1=U.jaE (q76_1 d) d.1 x∧True)∧1≤x∧x≤max d.1.length 1)∧∀(x:Nat),1≤x∧x≤max d.1.length 1→(decide ((x:Int)<d.2.2.1)=true→(∃(x_3:Nat×List Int),(((x:Int)=(x_3.1:Int)∧True)∧U.jaE (q76_1 d) d.1 x=x_3.2∧True)∧(x_3.1:Int)≤(x:Int)∧x_3.2.Perm (U.jaE (q76_1 d) d.1 x)∧U.jeV (q76_1 d) x_3.2 x_3.1=U.jeV (q76_1 d) (U.jaE (q76_1 d) d.1 x) (x:Int).toNat)∧∀(x_3:Nat×List Int),(x_3.1:Int)≤(x:Int)∧x_3.2.Perm (U.jaE (q76_1 d) d.1 x)∧U.jeV (q76_1 d) x_3.2 x_3.1=U.jeV (q76_1 d) (U.jaE (q76_1 d) d.1 x) (x:Int).toNat→(decide (d.2.1<(x_3.1:Int))=true→(0:Int)≤(x_3.1:Int))∧(decide (d.2.1<(x_3.1:Int))=true→(x_3.1:Int)<(x_3.2.length:Int))∧(decide (d.2.1<(x_3.1:Int))=true→jx (q76_0 x_3))∧(decide (d.2.1<(x_3.1:Int))=true→(0:Int)≤(x_3.1:Int)-(1:Int))∧(decide (d.2.1<(x_3.1:Int))=true→(x_3.1:Int)-(1:Int)<(x_3.2.length:Int))∧jA2 (decide (d.2.1<(x_3.1:Int))) (d.2.2.2.1.1 (q76_2 x_3)) (((decide (d.2.1<(x_3.1:Int))&&decide ((d.2.2.2.1.2 (q76_2 x_3)).1<(0:Int)))=true→jx (q76_0 x_3)∧jx (q76_0 x_3)∧(0:Int)≤(x_3.1:Int)-(1:Int)∧(x_3.1:Int)-(1:Int)<(x_3.2.length:Int)∧(0:Int)≤(x_3.1:Int)∧(x_3.1:Int)<(x_3.2.length:Int)∧(0:Int)≤(x_3.1:Int)∧(x_3.1:Int)<(x_3.2.length:Int)∧(0:Int)≤(x_3.1:Int)-(1:Int)∧(x_3.1:Int)-(1:Int)<(↑(x_3.2.set (x_3.1:Int).toNat (nth x_3.2 (q76_0 x_3).toNat)).length:Int)∧jx (q76_0 x_3)∧∃(x':Nat×List Int),(((x_3.1:Int)-(1:Int)=(x'.1:Int)∧True)∧(x_3.2.set (x_3.1:Int).toNat (nth x_3.2 (q76_0 x_3).toNat)).set (q76_0 x_3).toNat (nth x_3.2 (x_3.1:Int).toNat)=x'.2∧True)∧((x'.1:Int)≤(x:Int)∧x'.2.Perm (U.jaE (q76_1 d) d.1 x)∧U.jeV (q76_1 d) x'.2 x'.1=U.jeV (q76_1 d) (U.jaE (q76_1 d) d.1 x) (x:Int).toNat)∧x'.1<x_3.1)∧((decide (d.2.1<(x_3.1:Int))&&decide ((d.2.2.2.1.2 (q76_2 x_3)).1<(0:Int)))=false→jx ((x:Int)+(1:Int))∧∃(x':Nat),(((x:Int)+(1:Int)=(x':Int)∧True)∧x_3.2=U.jaE (q76_1 d) d.1 x'∧True)∧(1≤x'∧x'≤max d.1.length 1)∧d.1.length-x'<d.1.length-x)))∧(decide ((x:Int)<d.2.2.1)=false→()=()∧(U.jaE (q76_1 d) d.1 x,())=(U.jcF (q76_1 d) d.1,()))
theorem qE:jcR (ctx 53 [] []) (yb) Tryz.f200 (jd Tryz.f200) zA=kS:=by kernel_rfl
def kE:kx:=⟨[.own rwI true,.val .int,.val .int,.val .int,.fn [.int,.int] [.int]],[],fun d=>[d.2.1=0∧d.2.2.1=(d.1.length:Int)∧d.1.length≤12,U.jcB d.2.2.2.2.1.pre d.1],fun d=>((),(U.jcF (U.yG d.2.2.2.2.1.F) d.1,()))⟩
def jbs:Ann:=fun r=>match r with
  |1000002=>some fun _=>{X:=Unit,sl:=fun _=>[],ob:=fun _=>[],inv:=fun _=>True,mu:=fun _=>0}
  |_=>none
def qv:Prop:=∀(d:List Int×Int×Int×Int×FnD [Ty.int,Ty.int] [Ty.int]×Unit),d.2.1=(0:Int)∧d.2.2.1=(d.1.length:Int)∧d.1.length≤12→U.jcB d.2.2.2.2.1.1 d.1→jx (d.2.2.1-d.2.1)∧(decide (d.2.2.1-d.2.1≤(12:Int))=true→(d.2.1=(0:Int)∧d.2.2.1=(d.1.length:Int)∧d.1.length≤12)∧U.jcB d.2.2.2.2.1.1 d.1∧()=()∧(U.jcF (U.yG d.2.2.2.2.1.2) d.1,())=(U.jcF (U.yG d.2.2.2.2.1.2) d.1,()))∧(decide (d.2.2.1-d.2.1≤(12:Int))=false→(decide (d.2.2.2.1=(0:Int))=true→False)∧(decide (d.2.2.2.1=(0:Int))=false→((!true)=true→False)∧((!true)=false→False)))
theorem yU:jcR (ctx 148 [] [(200,zA)]) (jbs) Tryz.f179 (jd Tryz.f179) kE=qv:=by kernel_rfl
def zj:kx:=⟨[.own rwI true,.fn [.int,.int] [.int]],[],fun d=>[d.1.length≤12,U.jcB d.2.1.pre d.1,kQ (U.yG d.2.1.F) d.1],fun d=>((),(U.ja (U.yG d.2.1.F) d.1,()))⟩
def gP:Prop:=∀(d:List Int×FnD [Ty.int,Ty.int] [Ty.int]×Unit),d.1.length≤12→U.jcB d.2.1.1 d.1→kQ (U.yG d.2.1.2) d.1→d.1.length<4611686018427387904→(0:Int)≤(d.1.length:Int)∧(d.1.length:Int)≤(18446744073709551615:Int)∧((0:Int)≤(d.1.length:Int)∧(d.1.length:Int)≤(12:Int))∧((0:Int)=(0:Int)∧(d.1.length:Int)=(d.1.length:Int)∧d.1.length≤12)∧U.jcB d.2.1.1 d.1∧()=()∧(U.jcF (U.yG d.2.1.2) d.1,())=(U.ja (U.yG d.2.1.2) d.1,())
theorem jc5:jcR (ctx 14 [(143,jfY)] [(179,kE)]) (fun _=>none) Tryz.f151 (jd Tryz.f151) zj=gP:=by kernel_rfl
def asI (l:List Int):List (Ty.st [.int]).Data:=l.map (fun x=>(x,()))
def LVi (d:PD [.ref (.slice .int)]) (xs:List (Ty.st [.int]).Data):Prop:=xs=asI d.1
def jie:jk0 (YS [.int]):=fun r=>match r with
  |1=>some fun σ ys=>{X:=Nat,sl:=fun i=>[(7,.dat .int (i:Int))],ob:=fun _=>[],ys:=fun i=>(asI ((gd (.slice .int) σ 5).take i),true),inv:=fun i=>i≤(gd (.slice .int) σ 5).length,mu:=fun i=>(gd (.slice .int) σ 5).length-i}
  |_=>none
def gO:Prop:=∀(d:List Int×Unit) (l:Nat),d.1.length<4611686018427387904→(∃(x:Nat),(((0:Int)=(x:Int)∧True)∧True)∧([],true)=(List.map (fun(x:Int)=>(x,())) (List.take x d.1),true)∧x≤d.1.length)∧∀(x:Nat),x≤d.1.length→(decide ((x:Int)<(d.1.length:Int))=true→(0:Int)≤(x:Int)∧(x:Int)<(d.1.length:Int)∧l=l∧(∃(rest:List (Int×Unit)),List.map (fun(x:Int)=>(x,())) (List.take x d.1)++[(nth d.1 (x:Int).toNat,())]++rest=List.map (fun(x:Int)=>(x,())) d.1)∧(((!true)=true→true=true→List.map (fun(x:Int)=>(x,())) (List.take x d.1)++[(nth d.1 (x:Int).toNat,())]=List.map (fun(x:Int)=>(x,())) d.1)∧((!true)=false→jx ((x:Int)+(1:Int))∧∃(x':Nat),(((x:Int)+(1:Int)=(x':Int)∧True)∧True)∧(List.map (fun(x:Int)=>(x,())) (List.take x d.1)++[(nth d.1 (x:Int).toNat,())],true)=(List.map (fun(x:Int)=>(x,())) (List.take x' d.1),true)∧x'≤d.1.length∧d.1.length-x'<d.1.length-x))∧((!false)=true→false=true→List.map (fun(x:Int)=>(x,())) (List.take x d.1)++[(nth d.1 (x:Int).toNat,())]=List.map (fun(x:Int)=>(x,())) d.1)∧((!false)=false→jx ((x:Int)+(1:Int))∧∃(x':Nat),(((x:Int)+(1:Int)=(x':Int)∧True)∧True)∧(List.map (fun(x:Int)=>(x,())) (List.take x d.1)++[(nth d.1 (x:Int).toNat,())],false)=(List.map (fun(x:Int)=>(x,())) (List.take x' d.1),true)∧x'≤d.1.length∧d.1.length-x'<d.1.length-x))∧(decide ((x:Int)<(d.1.length:Int))=false→true=true→List.map (fun(x:Int)=>(x,())) (List.take x d.1)=List.map (fun(x:Int)=>(x,())) d.1)
theorem jc4:(jBy (ctx 16 [] []) (jd Tryz.f152) [.int] [.ref (.slice .int)] LVi (fun _=>[]) (fun _ _=>jie) (fun d l=>hkY [.int] l [13] (fun q=>∃rest,LVi d (q++rest)) (fun _=>none)))=gO:=by kernel_rfl
def zI:jgQ:=⟨[.val (.slice .int)],fun _=>[],152,[.slice .int],fun d=>(d.1,())⟩
def jco:Prop:=∀(d:List Int×Unit),d=d
theorem jfB:(jAX (ctx 4 [] []) (fun _=>none) Tryz.f110 (jd Tryz.f110) zI)=jco:=by kernel_rfl
def gj:jtk [.int]:={ps:=[.own (.box 33 [.row 3 .int .unk]) true],slots:=[2],dst:=20,pre:=fun _=>[],G:=fun d q=>((d.1.1++q.map (·.1),()),()),seq:=fun sv=>match sv with
  | .clo 152 [.ep t m]=>(match zg t (.slice .int) m with
    |some m'=>some (True,fun xs=>xs=asI m')
    |none=>none)
  |_=>none}
def qh:Nat→Option ((ts:List Ty)×jtk ts):=fun r=>match r with
  |3=>some ⟨[.int],gj⟩
  |_=>none
def zY:jgO:=⟨[none,some (152,1)],[.nil false,.ref (.slice .int)],[rwI],fun d=>[d.2.1.length≤12],fun d r=>r.1.1=d.2.1⟩
def kG:jgO:=⟨[some (152,1)],[.ref (.slice .int)],[rwI],fun d=>[d.1.length≤12],fun d r=>r.1.1=d.1⟩
def zO:jgO:=⟨[some (152,1),none],[.ref (.slice .int),.fn [.int,.int] [.int]],[rwI],fun d=>[d.1.length≤12,U.jcB d.2.1.pre d.1,kQ (U.yG d.2.1.F) d.1],fun d r=>r.1.1=U.ja (U.yG d.2.1.F) d.1⟩
def jgJ (d:OD zY.ps):List SV:=[.lit (.slice none 0 0),.clo 152 [.ep (.slice .int) d.2.1]]
def y5:Prop:=∀(d:Unit×List Int×Unit),d.2.1.length≤12∧True→True∧True∧(([]++List.map (fun(x:Int×Unit)=>x.1) [],()),())=(([],()),())∧(∀(q:List (Int×Unit)) (x:Int×Unit) (rest:List (Int×Unit)),q++x::rest=List.map (fun(x:Int)=>(x,())) d.2.1→wv (fun(x:List (Int×Unit))=>false) q→(([]++List.map (fun(x:Int×Unit)=>x.1) q).length+[x.1].length)*8≤140737488355328∧false=false∧(([]++List.map (fun(x:Int×Unit)=>x.1) q++[x.1],()),())=(([]++List.map (fun(x:Int×Unit)=>x.1) (q++[x]),()),()))∧(∀(xs:List (Int×Unit)),xs=List.map (fun(x:Int)=>(x,())) d.2.1→wv (fun(x:List (Int×Unit))=>false) xs→∃(k:Unit),[]++List.map (fun(x:Int×Unit)=>x.1) xs=d.2.1)∧∀(q:List (Int×Unit)) (x:Int×Unit) (rest:List (Int×Unit)),q++x::rest=List.map (fun(x:Int)=>(x,())) d.2.1→wv (fun(x:List (Int×Unit))=>false) q→false=true→∃(k:Unit),[]=d.2.1
theorem jcO:(jy0 (ctx 13 [] []) (fun _=>none) (hkC (ctx 13 [] []) (fun _=>none) qh [] []) Tryz.f178 (jd Tryz.f178) zY jgJ)=y5:=by kernel_rfl
def jjf (d:OD kG.ps):List SV:=[.clo 152 [.ep (.slice .int) d.1]]
def jaQ:Prop:=∀(d:List Int×Unit),d.1.length≤12∧True→(d.1.length≤12∧True)∧∀(r:(List Int×Unit)×Unit),r.1.1=d.1→∃(k:Unit),r.1.1=d.1
theorem jeP:(jy0 (ctx 5 [] []) (fun _=>none) (hkC (ctx 5 [] []) (fun _=>none) jDH [4] [(178,20,zY)]) Tryz.f150 (jd Tryz.f150) kG jjf)=jaQ:=by kernel_rfl
def je5 (d:OD zO.ps):List SV:=[.clo 152 [.ep (.slice .int) d.1],.fn [.int,.int] [.int] d.2.1.pre d.2.1.F]
def yu:Prop:=∀(d:List Int×FnD [Ty.int,Ty.int] [Ty.int]×Unit),d.1.length≤12∧U.jcB d.2.1.1 d.1∧kQ (U.yG d.2.1.2) d.1∧True→(d.1.length≤12∧True)∧∀(r:(List Int×Unit)×Unit),r.1.1=d.1→r.1.1.length≤12∧U.jcB d.2.1.1 r.1.1∧kQ (U.yG d.2.1.2) r.1.1∧∃(k:Unit),U.ja (U.yG d.2.1.2) r.1.1=U.ja (U.yG d.2.1.2) d.1
theorem jbB:(jy0 (ctx 12 [] [(151,zj)]) (fun _=>none) (hkC (ctx 12 [] [(151,zj)]) (fun _=>none) jDH [7] [(150,20,kG)]) Tryz.f109 (jd Tryz.f109) zO je5)=yu:=by kernel_rfl
end Go.X
namespace Go.X
open Go.Proofs
theorem jyb {γ:Bool} {l:List Prop} {k:Prop} (h:γ=true→U.jE l) (hk:k):jA2 γ l k:=by
  induction l with
  |nil=>exact hk
  |cons p l ih=>exact⟨fun hg=>(h hg).1,ih (fun hg=>(h hg).2)⟩
theorem jGF:∀n:Nat,n<13→qY U.len8tab n=U.jgH (n:Int):=by decide+kernel
theorem jEL (n:Int):0≤U.jgH n∧U.jgH n≤4:=by
  unfold U.jgH
  split
  · omega
  split
  · omega
  split
  · omega
  split<;>omega
theorem jsD:jha:=by
  unfold jha q74_7 q74_6 q74_5 q74_4 q74_3 q74_2 q74_1 q74_0;rintro⟨n,⟨⟩⟩ ⟨h0,h1⟩;have h0:0≤n:=h0;have h1:n≤12:=h1;refine⟨fun h=>absurd (of_decide_eq_true h) (by simp only;omega),fun _=>⟨fun h=>absurd (of_decide_eq_true h) (by simp only;omega),fun _=>⟨fun h=>absurd (of_decide_eq_true h) (by simp only;omega),fun _=> ?_⟩⟩⟩;have ht:=jGF n.toNat (by omega);rw[Int.toNat_of_nonneg h0] at ht;have hb:=jEL n;simp only;rw[ht];refine⟨by omega,by omega,by omega,?_,by unfold jx;omega,by unfold jx;omega,by rw[Int.zero_add]⟩;have:U.len8tab.size=256:=(by decide+kernel);omega
theorem jqi:ze PR 176 jbP:=zv (jkf.mpr jsD) Tryz.func176 (by kernel_rfl) (by kernel_rfl) (by kernel_rfl) (by kernel_rfl) trivial trivial
theorem jxA:jlH:=by
  rintro⟨n,⟨⟩⟩ h;exact⟨fun e=>(by cases e),fun _=>⟨h,rfl⟩⟩
theorem juo:ze PR 143 jfY:=zv (jnQ.mpr jxA) Tryz.func143 (by kernel_rfl) (by kernel_rfl) (by kernel_rfl) (by kernel_rfl) ⟨fun _=>jqi,trivial⟩ trivial
theorem yq:kS:=by
  unfold kS q76_2 q76_1 q76_0;rintro⟨l,a,b,⟨pre,c⟩,⟨⟩⟩ h0 h1;obtain⟨ha,hb,hl⟩:a=0∧b=(l.length:Int)∧l.length≤12:=h0;have hok:U.jcB pre l:=h1;subst ha hb;simp only;refine⟨by unfold jx;omega,⟨1,⟨⟨rfl,trivial⟩,rfl,trivial⟩,jGU _,by omega⟩,fun i hi=>⟨fun h=> ?_,fun h=> ?_⟩⟩
  · have h:i<l.length:=(by have:=of_decide_eq_true h;omega);have hp:=IS.part_perm (lt:=U.yG c) (l:=l) i (by omega);refine⟨⟨(i,U.jaE (U.yG c) l i),⟨⟨rfl,trivial⟩,rfl,trivial⟩,jHT _,List.Perm.refl _,rfl⟩,?_⟩;rintro⟨j,m⟩ ⟨k1,k2,k3⟩;have k1:(j:Int)≤i:=k1;have k2:m.Perm (U.jaE (U.yG c) l i):=k2;have k3:U.jeV (U.yG c) m j=U.jeV (U.yG c) (U.jaE (U.yG c) l i) i:=k3;have hml:m.length=l.length:=(k2.trans hp).length_eq;have hmem:∀{k:Nat},k<m.length→nth m k∈l:=fun hk=>(k2.trans hp).mem_iff.1 (L.mem_nth hk)
    simp only[jGX];refine⟨fun _=>by omega,fun hj=>by have:=of_decide_eq_true hj;omega,fun hj=>by have:=of_decide_eq_true hj;unfold jx;omega,fun hj=>by have:=of_decide_eq_true hj;omega,fun hj=>by have:=of_decide_eq_true hj;omega,jyb (fun hj=> ?_) ⟨fun hb=> ?_,fun hb=> ?_⟩⟩
    · have hj:=of_decide_eq_true hj;exact hok _ (hmem (by omega)) _ (hmem (by omega))
    · simp only[jGT,decide_eq_true_eq] at hb;obtain⟨b1,b2⟩:=hb;obtain⟨j',rfl⟩:∃j',j=j'+1:=⟨j-1,by omega⟩;have e1:((j'+1:Nat):Int)-1=(j':Int):=(by omega);rw[e1] at b2⊢;simp only[jGX] at b2⊢;have hsw:=IS.swap_perm (l:=m) (j:=j'+1) (k:=j') (by omega) (by omega);have hi64:jx (j':Int):=(by unfold jx;omega);refine⟨hi64,hi64,by omega,by omega,by omega,by omega,by omega,by omega,by omega,by simp;omega,hi64,⟨(j',U.jwK m (j'+1) j'),⟨⟨rfl,trivial⟩,rfl,trivial⟩,⟨by simp only;omega,hsw.trans k2,?_⟩,by simp⟩⟩;rw[←k3];show _=(if U.yG c (nth m (j'+1)) (nth m j')=true then U.jeV (U.yG c) (U.jwK m (j'+1) j') j' else m);have b3:U.yG c (nth m (j'+1)) (nth m j')=true:=decide_eq_true b2;rw[if_pos b3]
    · have hm:m=U.jaE (U.yG c) l (i+1):=by
        rw[IS.part_succ,←k3];cases j with
        |zero=>rfl
        |succ j'=>
          unfold U.jeV;rw[if_neg];intro hc;refine absurd hb (by
            rw[Bool.and_eq_false_iff];rintro(h|h)
            · exact absurd (of_decide_eq_false h) (by simp)
            · refine of_decide_eq_false h ?_;have e1:((j'+1:Nat):Int)-1=(j':Int):=(by omega);rw[e1];exact of_decide_eq_true hc)
      exact⟨by unfold jx;omega,i+1,⟨⟨by simp,trivial⟩,hm,trivial⟩,by omega,by omega⟩
  · have h:l.length≤i:=(by have:=of_decide_eq_false h;omega);exact⟨trivial,by rw[IS.part_isort hi.1 hi.2 h]⟩
theorem vW:yf PR 200 zA:=jgj (qE.mpr yq) Tryz.func200 (by kernel_rfl) (by kernel_rfl) (by kernel_rfl) (by kernel_rfl) (by kernel_rfl) trivial trivial
theorem jb6:qv:=by
  rintro⟨l,a,b,lim,⟨pre,c⟩,⟨⟩⟩ h0 hok;obtain⟨ha,hb,hl⟩:a=0∧b=(l.length:Int)∧l.length≤12:=h0;subst ha hb;refine⟨by unfold jx;simp only;omega,fun _=>⟨⟨rfl,rfl,by simp only;omega⟩,hok,rfl,rfl⟩,fun h=>absurd (of_decide_eq_false h) (by simp only;omega)⟩
theorem ja4:yf PR 179 kE:=jgj (yU.mpr jb6) Tryz.func179 (by kernel_rfl) (by kernel_rfl) (by kernel_rfl) (by kernel_rfl) (by kernel_rfl) trivial ⟨vW,trivial⟩
theorem ji2:gP:=by
  rintro⟨l,⟨pre,c⟩,⟨⟩⟩ hl hok ho _;have hl:l.length≤12:=hl;exact⟨by simp only;omega,by simp only;omega,⟨by simp only;omega,by simp only;omega⟩,⟨rfl,rfl,hl⟩,hok,rfl,congrArg (·,()) (IS.isort_sort ho)⟩
theorem jhw:yf PR 151 zj:=jgj (jc5.mpr ji2) Tryz.func151 (by kernel_rfl) (by kernel_rfl) (by kernel_rfl) (by kernel_rfl) (by kernel_rfl) ⟨fun _=>juo,trivial⟩ ⟨ja4,trivial⟩
theorem jCN {l:List Int} {i:Nat} (h:i<l.length):asI (l.take (i+1))=asI (l.take i)++[(nth l i,())]:=by
  unfold asI;rw[L.take_succ h,jHF];rfl
theorem ji1:gO:=by
  rintro⟨l,⟨⟩⟩ y hl;have hl:l.length<4611686018427387904:=hl;refine⟨⟨0,⟨⟨rfl,trivial⟩,trivial⟩,rfl,jG2 _⟩,fun x hx=>⟨fun h=> ?_,fun h _=> ?_⟩⟩
  · have h:(x:Int)<(l.length:Int):=of_decide_eq_true h;have hx2:x<l.length:=(by omega);have e:=jCN hx2;unfold asI at e;simp only[jGX];refine⟨by omega,h,trivial,⟨asI (l.drop (x+1)),?_⟩,⟨fun h=>(by cases h),fun _=>⟨L.in64 (by omega) (by omega),x+1,⟨⟨by simp,trivial⟩,trivial⟩,?_,by show x+1≤l.length;omega,by show l.length-(x+1)<l.length-x;omega⟩⟩,fun _ h=>(by cases h),fun h=>(by cases h)⟩
    · rw[←e];unfold asI;rw[←jHF,jH9]
    · rw[e]
  · have h:¬(x:Int)<(l.length:Int):=of_decide_eq_false h;have hx:x≤l.length:=hx;rw[jHH (by show l.length≤x;omega)]
theorem jwP {H:Imm} {lb:Array Value} {d:PD [.ref (.slice .int)]} (hd:pvs PR H [.ref (.slice .int)] lb.toList d):jCQ PR H [.int] (LVi d) (.func (.func 152) #[] lb):=
  jC1 (C:=ctx 16 [] []) (jna trivial trivial) mixed Tryz.func152 (by kernel_rfl) (by kernel_rfl) (by kernel_rfl) (by kernel_rfl) (by decide) (jc4.mpr ji1) (fun d l B0 R Rx hR hRx hY=>jFq hR hY) hd trivial
theorem jmM:jco:=by intro d;rfl
theorem jkq:jtp PR 110 zI:=jFr (jfB.mpr jmM) Tryz.func110 (by kernel_rfl) (by kernel_rfl) (by kernel_rfl) (by kernel_rfl) trivial trivial
theorem jEQ (l:List Int):(asI l).map (fun(x:Int×Unit)=>x.1)=l:=by
  unfold asI;rw[List.map_map];exact List.map_id l
theorem jhW:y5:=by
  intro d ⟨hm,_⟩;refine⟨trivial,trivial,rfl,fun q x rest h _=>⟨?_,rfl,?_⟩,fun xs h _=>⟨(),?_⟩,fun _ _ _ _ _ h=>(by cases h)⟩
  · have h1:=congrArg List.length h;simp only[jHO,jHa,jHr] at h1;have hm:d.2.1.length≤12:=hm;simp only[jHh,jHO,jHr,jHI];omega
  · simp
  · rw[h,jHh];exact jEQ d.2.1
theorem jky:jaQ:=fun d hm=>⟨hm,fun r h=>⟨(),h⟩⟩
theorem jgr:yu:=fun d ⟨hm,h1,h2,_⟩=>⟨⟨hm,trivial⟩,fun r h=>by rw[h];exact⟨hm,h1,h2,(),rfl⟩⟩
theorem jwk {P:Program} {ρ:Env} {H:Imm} (hρ:ρ.H=H) {g:Nat} {t:Ty} {d:t.Data} {lb:Array Value} {w:World} {bs:List Nat} (ha:jbu P H w [.ref t] lb.toList (d,()) bs):SV.den P ρ (.clo g [.ep t d]) (.func (.func g) #[] lb):=by
  subst hρ
  match e:lb.toList,ha with
  |[],ha=>exact ha.elim
  |[x],⟨_,_,_,⟨h1,_⟩,_⟩=>
    simp only[SV.den,SV.denL];exact⟨lb,rfl,x,[],e,h1,rfl⟩
  |x::y::r,⟨_,_,_,_,h2⟩=>cases h2.1
theorem jub {lb:Array Value} (h:lb.size=1):∃x,lb.toList=[x]:=by
  have h1:lb.toList.length=1:=(by rw[jHm];exact h);exact List.length_eq_one_iff.1 h1
theorem jzp {g n:Nat} {s:jgO} (h:ROK PR g s):∀(f:Nat) (p:Nat×jgO),jF [(g,n,s)] f=some p→ROK PR f p.2:=by
  intro f p hl;simp only[jF] at hl
  split at hl
  · rename_i hb;have:=jGP hb;subst this;simp at hl;subst hl;exact h
  · cases hl
theorem jCI (n:Nat):(ctx n [] []).ok PR:=jna trivial trivial
theorem jeX:ROK PR 178 zY:=by
  refine jyZ (body:=jd Tryz.f178) (C:=ctx 13 [] []) (hk:=hkC (ctx 13 [] []) (fun _=>none) qh [] []) (jCI 13) mixed Tryz.func178 (by kernel_rfl) (by kernel_rfl) (by kernel_rfl) (fun B=>jpg (jCI 13) mixed ?_ jD5 B) rfl (fun H w vals fl d bs hfl ha ρ hρ=> ?_) (fun d=>rfl) (jcO.mpr jhW)
  · intro k t rs sv pr L v ρ hk hs hpr hd;unfold qh at hk
    split at hk
    case h_2=>cases hk
    simp only[Option.some.injEq] at hk;cases hk;simp only[gj] at hs
    split at hs
    case h_2=>cases hs
    rename_i t m
    split at hs
    case h_2=>cases hs
    rename_i m' hm;simp only[Option.some.injEq,Prod.mk.injEq] at hs;obtain⟨rfl,rfl⟩:=hs;obtain⟨e,rfl⟩:=jl hm;subst e;simp only[SV.den,SV.denL] at hd;obtain⟨lb,rfl,x,r,hl,h1,h2⟩:=hd;exact jwP (d:=(m,())) (by rw[hl,h2];exact⟨h1,rfl⟩)
  · obtain⟨v,vs',fl',rfl,rfl,lb,vs2,fl2,rfl,rfl,_,rfl,rfl⟩:=hfl;obtain⟨b1,b2,_,⟨rfl,_⟩,ha⟩:=ha;rw[jHf] at ha;refine⟨_,_,rfl,rfl,_,_,rfl,jwk hρ ha,rfl⟩
theorem jhr:ROK PR 150 kG:=by
  refine jyZ (body:=jd Tryz.f150) (C:=ctx 5 [] []) (hk:=hkC (ctx 5 [] []) (fun _=>none) jDH [4] [(178,20,zY)]) (jCI 5) mixed Tryz.func150 (by kernel_rfl) (by kernel_rfl) (by kernel_rfl) (fun B=>jpg (jCI 5) mixed jtG (jzp jeX) B) rfl (fun H w vals fl d bs hfl ha ρ hρ=> ?_) (fun d=>rfl) (jeP.mpr jky);obtain⟨lb,vs2,fl2,rfl,rfl,_,rfl,rfl⟩:=hfl;rw[jHf] at ha;exact⟨_,_,rfl,jwk hρ ha,rfl⟩
theorem jpo:(ctx 12 [] [(151,zj)]).ok PR:=jna trivial ⟨jhw,trivial⟩
theorem jdC:ROK PR 109 zO:=by
  refine jyZ (body:=jd Tryz.f109) (C:=ctx 12 [] [(151,zj)]) (hk:=hkC (ctx 12 [] [(151,zj)]) (fun _=>none) jDH [7] [(150,20,kG)]) jpo mixed Tryz.func109 (by kernel_rfl) (by kernel_rfl) (by kernel_rfl)
    (fun B=>jpg jpo mixed jtG (jzp jhr) B) rfl (fun H w vals fl d bs hfl ha ρ hρ=> ?_) (fun d=>rfl) (jbB.mpr jgr)
  obtain⟨lb,vs2,fl2,rfl,rfl,hsz,v,vs3,fl3,rfl,rfl,rfl,rfl⟩:=hfl;obtain⟨x,hx⟩:=jub hsz;rw[hx] at ha;obtain⟨b1,b2,_,⟨h1,_⟩,c1,c2,_,⟨h2,_⟩,_⟩:=ha;subst hρ;refine⟨_,_,rfl,⟨lb,rfl,x,[],hx,h1,rfl⟩,_,_,rfl,h2,rfl⟩
end Go.X
namespace Go.X
open Go.Proofs
abbrev tRo:Ty:= .st [tDy,.slice .int,.slice (.slice .int),.slice .int]
abbrev RoD:Type:=DyD×List Int×List (List Int)×List Int×Unit
namespace U
def ro (o:Option RoD):RoD:=jY (Ty.dflt tRo) o
def rd (r:RoD):DyD:=r.1
def jb5 (r:RoD):List Int:=r.2.1
def wP (r:RoD):List (List Int):=r.2.2.1
def jF4 (r:RoD):List Int:=r.2.2.2.1
def qo (d:DyD) (b:Int):Prop:=0≤b∧b<((jv d).length:Int)
def jkv (d:DyD) (l:List Int):Prop:=l.length≤12∧∀b∈l,qo d b
def jn5 (d:DyD):Prop:=jq (jo d)=true∧jxi d=true∧kg d=true
def jsi (r:RoD):Prop:=jn5 (rd r)∧(jb5 r).length=(jv (rd r)).length
def jsh (d:DyD) (p:Int):Prop:=0≤p∧p<((ji (jo d)).length:Int)
def jh8 (d:DyD) (a b:Int):Int:=wV [jbq (jcf (bk d a)) (jcf (bk d b)),jbq a b]
def jr (d:DyD) (l:List Int):List Int:=ja (qC d) l
def zZ (d:DyD) (s:List Int) (n:Nat):Int:=jqp d (s.take n)
def jqj (d:DyD) (jak:List Int) (p:Int) (s:List Int) (i:Nat):Bool:= !(decide (ya (nth jak (nth s i).toNat/2^p.toNat) 1=0)||(s.drop (i+1)).any (fun c=>decide (vR d (nth s i) c<0)))
def jEG (d:DyD) (jak:List Int) (p:Int) (s:List Int):Bool:=(List.range s.length).all (jqj d jak p s)&&decide (jqp d s≤jB2 d)
def jvb (d:DyD) (jak:List Int) (p:Int) (l:List Int):Bool:=jEG d jak p (jr d l)
def jkE (r:RoD) (p:Int) (l:List Int):Bool:=jvb (rd r) (jb5 r) p l
def vi (on:List (List Int)) (b:Int) (n:Nat):Int:=(List.range n).foldl (fun s p=>if(nth on p).any (fun x=>decide (x=b))=true then bor s (1*2^p) else s) 0
def jav (on:List (List Int)) (b:Int):Int:=vi on b on.length
def jh1 (d:DyD) (b t:Int):Bool:=(decide (vP (jo d) (jaL (bk d b)) t=0)&&decide (jE8 (jo d) (jaL (bk d b)) t=0))&&decide (t≠0)
def jcH (l:List PeD) (t:Int) (n:Nat):Int:=(List.range n).foldl (fun s i=>s+ya (t/2^i) 1*fe (nth l i)) 0
def gC (d:DyD) (t:Int):Int:=jcH (ji (jo d)) t (ji (jo d)).length
end U
def vo:jW:=⟨[.val (.ptr tRo),.val .int,.val .int],[.int],false,fun d=>[d.1.isSome=true,U.jn5 (U.rd (U.ro d.1)),U.qo (U.rd (U.ro d.1)) d.2.1,U.qo (U.rd (U.ro d.1)) d.2.2.1],fun d=>(U.vR (U.rd (U.ro d.1)) d.2.1 d.2.2.1,())⟩
def jaT:Prop:=∀(d:Option RoD×Int×Int×Unit),d.1.isSome=true→U.jn5 (U.rd (U.ro d.1))→U.qo (U.rd (U.ro d.1)) d.2.1→U.qo (U.rd (U.ro d.1)) d.2.2.1→d.1.isSome=true∧(0:Int)≤d.2.1∧d.2.1<(↑(jY ((((0:Int),[],[],()),[],[],(0:Int),(0:Int),[],()),[],[],[],()) d.1).1.2.2.1.length:Int)∧d.1.isSome=true∧(0:Int)≤d.2.2.1∧d.2.2.1<(↑(jY ((((0:Int),[],[],()),[],[],(0:Int),(0:Int),[],()),[],[],[],()) d.1).1.2.2.1.length:Int)∧jx ((nth (jY ((((0:Int),[],[],()),[],[],(0:Int),(0:Int),[],()),[],[],[],()) d.1).1.2.2.1 d.2.2.1.toNat).2.2.1-(nth (jY ((((0:Int),[],[],()),[],[],(0:Int),(0:Int),[],()),[],[],[],()) d.1).1.2.2.1 d.2.1.toNat).2.2.2.1)∧d.1.isSome=true∧jx ((nth (jY ((((0:Int),[],[],()),[],[],(0:Int),(0:Int),[],()),[],[],[],()) d.1).1.2.2.1 d.2.2.1.toNat).2.2.1-(nth (jY ((((0:Int),[],[],()),[],[],(0:Int),(0:Int),[],()),[],[],[],()) d.1).1.2.2.1 d.2.1.toNat).2.2.2.1-(jY ((((0:Int),[],[],()),[],[],(0:Int),(0:Int),[],()),[],[],[],()) d.1).1.2.2.2.1)∧d.1.isSome=true∧(0:Int)≤(nth (jY ((((0:Int),[],[],()),[],[],(0:Int),(0:Int),[],()),[],[],[],()) d.1).1.2.2.1 d.2.1.toNat).2.1∧(nth (jY ((((0:Int),[],[],()),[],[],(0:Int),(0:Int),[],()),[],[],[],()) d.1).1.2.2.1 d.2.1.toNat).2.1<(↑(jY ((((0:Int),[],[],()),[],[],(0:Int),(0:Int),[],()),[],[],[],()) d.1).1.2.1.length:Int)∧(0:Int)≤(nth (jY ((((0:Int),[],[],()),[],[],(0:Int),(0:Int),[],()),[],[],[],()) d.1).1.2.2.1 d.2.2.1.toNat).2.1∧(nth (jY ((((0:Int),[],[],()),[],[],(0:Int),(0:Int),[],()),[],[],[],()) d.1).1.2.2.1 d.2.2.1.toNat).2.1<(↑(nth (jY ((((0:Int),[],[],()),[],[],(0:Int),(0:Int),[],()),[],[],[],()) d.1).1.2.1 (nth (jY ((((0:Int),[],[],()),[],[],(0:Int),(0:Int),[],()),[],[],[],()) d.1).1.2.2.1 d.2.1.toNat).2.1.toNat).length:Int)∧jx ((nth (jY ((((0:Int),[],[],()),[],[],(0:Int),(0:Int),[],()),[],[],[],()) d.1).1.2.2.1 d.2.2.1.toNat).2.2.1-(nth (jY ((((0:Int),[],[],()),[],[],(0:Int),(0:Int),[],()),[],[],[],()) d.1).1.2.2.1 d.2.1.toNat).2.2.2.1-(jY ((((0:Int),[],[],()),[],[],(0:Int),(0:Int),[],()),[],[],[],()) d.1).1.2.2.2.1-(nth (nth (jY ((((0:Int),[],[],()),[],[],(0:Int),(0:Int),[],()),[],[],[],()) d.1).1.2.1 (nth (jY ((((0:Int),[],[],()),[],[],(0:Int),(0:Int),[],()),[],[],[],()) d.1).1.2.2.1 d.2.1.toNat).2.1.toNat) (nth (jY ((((0:Int),[],[],()),[],[],(0:Int),(0:Int),[],()),[],[],[],()) d.1).1.2.2.1 d.2.2.1.toNat).2.1.toNat).2.1)∧((nth (jY ((((0:Int),[],[],()),[],[],(0:Int),(0:Int),[],()),[],[],[],()) d.1).1.2.2.1 d.2.2.1.toNat).2.2.1-(nth (jY ((((0:Int),[],[],()),[],[],(0:Int),(0:Int),[],()),[],[],[],()) d.1).1.2.2.1 d.2.1.toNat).2.2.2.1-(jY ((((0:Int),[],[],()),[],[],(0:Int),(0:Int),[],()),[],[],[],()) d.1).1.2.2.2.1-(nth (nth (jY ((((0:Int),[],[],()),[],[],(0:Int),(0:Int),[],()),[],[],[],()) d.1).1.2.1 (nth (jY ((((0:Int),[],[],()),[],[],(0:Int),(0:Int),[],()),[],[],[],()) d.1).1.2.2.1 d.2.1.toNat).2.1.toNat) (nth (jY ((((0:Int),[],[],()),[],[],(0:Int),(0:Int),[],()),[],[],[],()) d.1).1.2.2.1 d.2.2.1.toNat).2.1.toNat).2.1,())=(U.vR (U.rd (U.ro d.1)) d.2.1 d.2.2.1,())
theorem jeS:zq (ctx 51 [] []) (fun _=>none) Tryz.f59 (jd Tryz.f59) vo=jaT:=by kernel_rfl
def jZ:jW:=⟨[.val .int,.val .int,.ref (.ptr tRo)],[.int],false,fun d=>[d.2.2.1.isSome=true,U.qo (U.rd (U.ro d.2.2.1)) d.1,U.qo (U.rd (U.ro d.2.2.1)) d.2.1],fun d=>(U.jh8 (U.rd (U.ro d.2.2.1)) d.1 d.2.1,())⟩
def yw:Prop:=∀(d:Int×Int×Option RoD×Unit),d.2.2.1.isSome=true→U.qo (U.rd (U.ro d.2.2.1)) d.1→U.qo (U.rd (U.ro d.2.2.1)) d.2.1→d.2.2.1.isSome=true∧(0:Int)≤d.1∧d.1<(↑(jY ((((0:Int),[],[],()),[],[],(0:Int),(0:Int),[],()),[],[],[],()) d.2.2.1).1.2.2.1.length:Int)∧d.2.2.1.isSome=true∧(0:Int)≤d.2.1∧d.2.1<(↑(jY ((((0:Int),[],[],()),[],[],(0:Int),(0:Int),[],()),[],[],[],()) d.2.2.1).1.2.2.1.length:Int)∧(U.wV [U.jbq (nth (jY ((((0:Int),[],[],()),[],[],(0:Int),(0:Int),[],()),[],[],[],()) d.2.2.1).1.2.2.1 d.1.toNat).2.2.1 (nth (jY ((((0:Int),[],[],()),[],[],(0:Int),(0:Int),[],()),[],[],[],()) d.2.2.1).1.2.2.1 d.2.1.toNat).2.2.1,U.jbq d.1 d.2.1],())=(U.jh8 (U.rd (U.ro d.2.2.1)) d.1 d.2.1,())
theorem jbD:zq (ctx 30 [(101,kk),(100,qN)] []) (fun _=>none) Tryz.f111 (jd Tryz.f111) jZ=yw:=by kernel_rfl
def qI:jW:=⟨[.val (.ptr tRo),.val (.slice .int)],[.slice .int],false,fun d=>[d.1.isSome=true,U.jkv (U.rd (U.ro d.1)) d.2.1],fun d=>(U.jr (U.rd (U.ro d.1)) d.2.1,())⟩
def gS:Prop:=∀(d:Option RoD×List Int×Unit),d.1.isSome=true→U.jkv (U.rd (U.ro d.1)) d.2.1→(d.2.1.length≤12∧U.jcB (fun(x:Int×Int×Unit)=>[d.1.isSome=true,U.qo (U.rd (U.ro d.1)) x.1,U.qo (U.rd (U.ro d.1)) x.2.1]) d.2.1∧kQ (U.yG fun(x:Int×Int×Unit)=>(U.jh8 (U.rd (U.ro d.1)) x.1 x.2.1,())) d.2.1∧True)∧∀(r:(List Int×Unit)×Unit),r.1.1=U.ja (U.yG fun(x:Int×Int×Unit)=>(U.jh8 (U.rd (U.ro d.1)) x.1 x.2.1,())) d.2.1→r.1=(U.jr (U.rd (U.ro d.1)) d.2.1,())
theorem jc9:(jDS (jtx 9 [(111,jZ)] [] [(110,zI)] []) (fun _=>none) (hkC (jtx 9 [(111,jZ)] [] [(110,zI)] []) (fun _=>none) jDH [8] [(109,20,zO)]) Tryz.f58 (jd Tryz.f58) qI)=gS:=by kernel_rfl
def vp:jW:=⟨[.val .int,.ref (.ptr tRo),.ref .int],[.bool],false,fun d=>[d.2.1.isSome=true,U.jn5 (U.rd (U.ro d.2.1)),U.qo (U.rd (U.ro d.2.1)) d.1,U.qo (U.rd (U.ro d.2.1)) d.2.2.1],fun d=>(decide (U.vR (U.rd (U.ro d.2.1)) d.2.2.1 d.1<0),())⟩
def jaU:Prop:=∀(d:Int×Option RoD×Int×Unit),d.2.1.isSome=true→U.jn5 (U.rd (U.ro d.2.1))→U.qo (U.rd (U.ro d.2.1)) d.1→U.qo (U.rd (U.ro d.2.1)) d.2.2.1→d.2.1.isSome=true∧U.jn5 (U.rd (U.ro d.2.1))∧U.qo (U.rd (U.ro d.2.1)) d.2.2.1∧U.qo (U.rd (U.ro d.2.1)) d.1∧(decide (U.vR (U.rd (U.ro d.2.1)) d.2.2.1 d.1<(0:Int)),())=(decide (U.vR (U.rd (U.ro d.2.1)) d.2.2.1 d.1<(0:Int)),())
theorem jeT:zq (ctx 10 [(59,vo)] []) (fun _=>none) Tryz.f123 (jd Tryz.f123) vp=jaU:=by kernel_rfl
def qJ:jW:=⟨[.val (.ptr tRo),.val .int,.val (.slice .int)],[.bool],false,fun d=>[d.1.isSome=true,U.jsi (U.ro d.1),U.jsh (U.rd (U.ro d.1)) d.2.1,U.jkv (U.rd (U.ro d.1)) d.2.2.1],fun d=>(U.jkE (U.ro d.1) d.2.1 d.2.2.1,())⟩
def jnq:Ann:=fun r=>match r with
  |4=>some fun σ=>{X:=Nat,sl:=fun i=>[(16,.dat .int (i:Int)),(7,.dat .int (U.zZ (U.rd (U.ro (gd (.ptr tRo) σ 0))) (gd (.slice .int) σ 14) i))],ob:=fun _=>[],inv:=fun i=>i≤(gd (.slice .int) σ 14).length∧∀b:Nat,b<i→U.jqj (U.rd (U.ro (gd (.ptr tRo) σ 0))) (U.jb5 (U.ro (gd (.ptr tRo) σ 0))) (gd .int σ 1) (gd (.slice .int) σ 14) b=true,mu:=fun i=>(gd (.slice .int) σ 14).length-i}
  |_=>none
abbrev q88_3 (x:Nat):=((x:Int)+(1:Int))
abbrev q88_4 (d:Option RoD×Int×List Int×Unit):=(U.rd (U.ro d.1))
abbrev q88_0 (d:Option RoD×Int×List Int×Unit):=(U.jr (q88_4 d) d.2.2.1)
abbrev q88_1 (d:Option RoD×Int×List Int×Unit)(x:Nat):=(nth (q88_0 d) (x:Int).toNat)
abbrev q88_2 (d:Option RoD×Int×List Int×Unit):=(↑(q88_0 d).length:Int)
def jdb:Prop:=∀(d:Option RoD×Int×List Int×Unit),d.1.isSome=true→U.jsi (U.ro d.1)→U.jsh (q88_4 d) d.2.1→U.jkv (q88_4 d) d.2.2.1→d.1.isSome=true∧U.jkv (q88_4 d) d.2.2.1∧((q88_0 d).length<4611686018427387904→(∃(x:Nat),(((0:Int)=(x:Int)∧(0:Int)=U.zZ (q88_4 d) (q88_0 d) x∧True)∧True)∧x≤(q88_0 d).length∧∀(b:Nat),b<x→U.jqj (q88_4 d) (U.jb5 (U.ro d.1)) d.2.1 (q88_0 d) b=true)∧∀(x:Nat),(x≤(q88_0 d).length∧∀(b:Nat),b<x→U.jqj (q88_4 d) (U.jb5 (U.ro d.1)) d.2.1 (q88_0 d) b=true)→(decide ((x:Int)<(q88_2 d))=true→(0:Int)≤(x:Int)∧(x:Int)<(q88_2 d)∧d.1.isSome=true∧(0:Int)≤nth (q88_0 d) (x:Int).toNat∧nth (q88_0 d) (x:Int).toNat<(↑(jY ((((0:Int),[],[],()),[],[],(0:Int),(0:Int),[],()),[],[],[],()) d.1).1.2.2.1.length:Int)∧d.1.isSome=true∧(0:Int)≤nth (q88_0 d) (x:Int).toNat∧nth (q88_0 d) (x:Int).toNat<(↑(jY ((((0:Int),[],[],()),[],[],(0:Int),(0:Int),[],()),[],[],[],()) d.1).1.2.2.1.length:Int)∧jx ((nth (jY ((((0:Int),[],[],()),[],[],(0:Int),(0:Int),[],()),[],[],[],()) d.1).1.2.2.1 (q88_1 d x).toNat).2.2.2.1-(nth (jY ((((0:Int),[],[],()),[],[],(0:Int),(0:Int),[],()),[],[],[],()) d.1).1.2.2.1 (q88_1 d x).toNat).2.2.1)∧jx (U.zZ (q88_4 d) (q88_0 d) x+((nth (jY ((((0:Int),[],[],()),[],[],(0:Int),(0:Int),[],()),[],[],[],()) d.1).1.2.2.1 (q88_1 d x).toNat).2.2.2.1-(nth (jY ((((0:Int),[],[],()),[],[],(0:Int),(0:Int),[],()),[],[],[],()) d.1).1.2.2.1 (q88_1 d x).toNat).2.2.1))∧d.1.isSome=true∧(0:Int)≤nth (q88_0 d) (x:Int).toNat∧nth (q88_0 d) (x:Int).toNat<(↑(jY ((((0:Int),[],[],()),[],[],(0:Int),(0:Int),[],()),[],[],[],()) d.1).2.1.length:Int)∧(0:Int)≤d.2.1∧d.2.1≤(64:Int)∧((!decide (ya (nth (jY ((((0:Int),[],[],()),[],[],(0:Int),(0:Int),[],()),[],[],[],()) d.1).2.1 (q88_1 d x).toNat/(2:Int)^d.2.1.toNat) (1:Int)=(0:Int)))=true→jx (q88_3 x))∧((!decide (ya (nth (jY ((((0:Int),[],[],()),[],[],(0:Int),(0:Int),[],()),[],[],[],()) d.1).2.1 (q88_1 d x).toNat/(2:Int)^d.2.1.toNat) (1:Int)=(0:Int)))=true→(0:Int)≤(x:Int)+(1:Int))∧((!decide (ya (nth (jY ((((0:Int),[],[],()),[],[],(0:Int),(0:Int),[],()),[],[],[],()) d.1).2.1 (q88_1 d x).toNat/(2:Int)^d.2.1.toNat) (1:Int)=(0:Int)))=true→(x:Int)+(1:Int)≤(q88_2 d))∧((!decide (ya (nth (jY ((((0:Int),[],[],()),[],[],(0:Int),(0:Int),[],()),[],[],[],()) d.1).2.1 (q88_1 d x).toNat/(2:Int)^d.2.1.toNat) (1:Int)=(0:Int)))=true→(q88_2 d)≤(q88_2 d))∧((!decide (ya (nth (jY ((((0:Int),[],[],()),[],[],(0:Int),(0:Int),[],()),[],[],[],()) d.1).2.1 (q88_1 d x).toNat/(2:Int)^d.2.1.toNat) (1:Int)=(0:Int)))=true→∀(g:Int),g∈List.take ((q88_2 d).toNat-(q88_3 x).toNat) (List.drop (q88_3 x).toNat (q88_0 d))→U.jE [d.1.isSome=true,U.jn5 (q88_4 d),U.qo (q88_4 d) g,U.qo (q88_4 d) (q88_1 d x)])∧((decide (ya (nth (jY ((((0:Int),[],[],()),[],[],(0:Int),(0:Int),[],()),[],[],[],()) d.1).2.1 (q88_1 d x).toNat/(2:Int)^d.2.1.toNat) (1:Int)=(0:Int))||(List.take ((q88_2 d).toNat-(q88_3 x).toNat) (List.drop (q88_3 x).toNat (q88_0 d))).any (U.jb fun(x_3:Int×Unit)=>(decide (U.vR (q88_4 d) (q88_1 d x) x_3.1<(0:Int)),())))=true→(false,())=(U.jkE (U.ro d.1) d.2.1 d.2.2.1,()))∧((decide (ya (nth (jY ((((0:Int),[],[],()),[],[],(0:Int),(0:Int),[],()),[],[],[],()) d.1).2.1 (q88_1 d x).toNat/(2:Int)^d.2.1.toNat) (1:Int)=(0:Int))||(List.take ((q88_2 d).toNat-(q88_3 x).toNat) (List.drop (q88_3 x).toNat (q88_0 d))).any (U.jb fun(x_3:Int×Unit)=>(decide (U.vR (q88_4 d) (q88_1 d x) x_3.1<(0:Int)),())))=false→jx (q88_3 x)∧∃(x':Nat),(((x:Int)+(1:Int)=(x':Int)∧U.zZ (q88_4 d) (q88_0 d) x+((nth (jY ((((0:Int),[],[],()),[],[],(0:Int),(0:Int),[],()),[],[],[],()) d.1).1.2.2.1 (q88_1 d x).toNat).2.2.2.1-(nth (jY ((((0:Int),[],[],()),[],[],(0:Int),(0:Int),[],()),[],[],[],()) d.1).1.2.2.1 (q88_1 d x).toNat).2.2.1)=U.zZ (q88_4 d) (q88_0 d) x'∧True)∧True)∧(x'≤(q88_0 d).length∧∀(b:Nat),b<x'→U.jqj (q88_4 d) (U.jb5 (U.ro d.1)) d.2.1 (q88_0 d) b=true)∧(q88_0 d).length-x'<(q88_0 d).length-x))∧(decide ((x:Int)<(q88_2 d))=false→d.1.isSome=true∧(decide (U.zZ (q88_4 d) (q88_0 d) x≤(jY ((((0:Int),[],[],()),[],[],(0:Int),(0:Int),[],()),[],[],[],()) d.1).1.2.2.2.2.1),())=(U.jkE (U.ro d.1) d.2.1 d.2.2.1,())))
theorem jg1:zq (ctx 70 [(58,qI),(123,vp),(124,z7)] []) (jnq) Tryz.f83 (jd Tryz.f83) qJ=jdb:=by kernel_rfl
def qc:jW:=⟨[.val (.ptr tRo),.val .int],[.int],false,fun d=>[d.1.isSome=true,(U.wP (U.ro d.1)).length≤60],fun d=>(U.jav (U.wP (U.ro d.1)) d.2.1,())⟩
def jkI:Ann:=fun r=>match r with
  |2=>some fun σ=>{X:=Nat,sl:=fun i=>[(12,.dat .int (i:Int)),(4,.dat .int (U.vi (U.wP (U.ro (gd (.ptr tRo) σ 0))) (gd .int σ 1) i))],ob:=fun _=>[],inv:=fun i=>i≤(U.wP (U.ro (gd (.ptr tRo) σ 0))).length,mu:=fun i=>(U.wP (U.ro (gd (.ptr tRo) σ 0))).length-i}
  |_=>none
abbrev q89_0 (d:Option RoD×Int×Unit):=(U.wP (U.ro d.1))
def jcr:Prop:=∀(d:Option RoD×Int×Unit),d.1.isSome=true→(q89_0 d).length≤60→d.1.isSome=true∧((jY ((((0:Int),[],[],()),[],[],(0:Int),(0:Int),[],()),[],[],[],()) d.1).2.2.1.length<4611686018427387904→(∃(x:Nat),(((0:Int)=(x:Int)∧(0:Int)=U.vi (q89_0 d) d.2.1 x∧True)∧True)∧x≤(q89_0 d).length)∧∀(x:Nat),x≤(q89_0 d).length→(decide ((x:Int)<(↑(jY ((((0:Int),[],[],()),[],[],(0:Int),(0:Int),[],()),[],[],[],()) d.1).2.2.1.length:Int))=true→(0:Int)≤(x:Int)∧(x:Int)<(↑(jY ((((0:Int),[],[],()),[],[],(0:Int),(0:Int),[],()),[],[],[],()) d.1).2.2.1.length:Int)∧(((nth (jY ((((0:Int),[],[],()),[],[],(0:Int),(0:Int),[],()),[],[],[],()) d.1).2.2.1 (x:Int).toNat).any fun(x:Int)=>decide (x=d.2.1))=true→(0:Int)≤(x:Int)∧(x:Int)≤(64:Int)∧jx ((1:Int)*(2:Int)^(x:Int).toNat)∧jx ((x:Int)+(1:Int))∧∃(x':Nat),(((x:Int)+(1:Int)=(x':Int)∧bor (U.vi (q89_0 d) d.2.1 x) ((1:Int)*(2:Int)^(x:Int).toNat)=U.vi (q89_0 d) d.2.1 x'∧True)∧True)∧x'≤(q89_0 d).length∧(q89_0 d).length-x'<(q89_0 d).length-x)∧(((nth (jY ((((0:Int),[],[],()),[],[],(0:Int),(0:Int),[],()),[],[],[],()) d.1).2.2.1 (x:Int).toNat).any fun(x:Int)=>decide (x=d.2.1))=false→jx ((x:Int)+(1:Int))∧∃(x':Nat),((U.vi (q89_0 d) d.2.1 x=U.vi (q89_0 d) d.2.1 x'∧(x:Int)+(1:Int)=(x':Int)∧True)∧True)∧x'≤(q89_0 d).length∧(q89_0 d).length-x'<(q89_0 d).length-x))∧(decide ((x:Int)<(↑(jY ((((0:Int),[],[],()),[],[],(0:Int),(0:Int),[],()),[],[],[],()) d.1).2.2.1.length:Int))=false→(U.vi (q89_0 d) d.2.1 x,())=(U.jav (q89_0 d) d.2.1,())))
theorem jfE:zq (ctx 26 [(105,ww)] []) (jkI) Tryz.f53 (jd Tryz.f53) qc=jcr:=by kernel_rfl
def qd:jW:=⟨[.val (.ptr tRo),.val .int,.val .int],[.bool],false,fun d=>[d.1.isSome=true,U.qo (U.rd (U.ro d.1)) d.2.1],fun d=>(U.jh1 (U.rd (U.ro d.1)) d.2.1 d.2.2.1,())⟩
def jcs:Prop:=∀(d:Option RoD×Int×Int×Unit),d.1.isSome=true→U.qo (U.rd (U.ro d.1)) d.2.1→d.1.isSome=true∧d.1.isSome=true∧(0:Int)≤d.2.1∧d.2.1<(↑(jY ((((0:Int),[],[],()),[],[],(0:Int),(0:Int),[],()),[],[],[],()) d.1).1.2.2.1.length:Int)∧(decide (U.vP (jY ((((0:Int),[],[],()),[],[],(0:Int),(0:Int),[],()),[],[],[],()) d.1).1.1 (nth (jY ((((0:Int),[],[],()),[],[],(0:Int),(0:Int),[],()),[],[],[],()) d.1).1.2.2.1 d.2.1.toNat).1 d.2.2.1=(0:Int))&&decide (U.jE8 (jY ((((0:Int),[],[],()),[],[],(0:Int),(0:Int),[],()),[],[],[],()) d.1).1.1 (nth (jY ((((0:Int),[],[],()),[],[],(0:Int),(0:Int),[],()),[],[],[],()) d.1).1.2.2.1 d.2.1.toNat).1 d.2.2.1=(0:Int))&&decide (d.2.2.1≠(0:Int)),())=(U.jh1 (U.rd (U.ro d.1)) d.2.1 d.2.2.1,())
theorem jfF:zq (ctx 38 [(81,jfO)] []) (fun _=>none) Tryz.f40 (jd Tryz.f40) qd=jcs:=by kernel_rfl
def ga:jW:=⟨[.val (.ptr tRo),.val .int],[.int],false,fun d=>[d.1.isSome=true,U.jq (U.jo (U.rd (U.ro d.1)))=true,0≤d.2.1,d.2.1≤1000000],fun d=>(U.gC (U.rd (U.ro d.1)) d.2.1,())⟩
def jnp:Ann:=fun r=>match r with
  |2=>some fun σ=>{X:=Nat,sl:=fun i=>[(14,.dat .int (i:Int)),(4,.dat .int (U.jcH (U.ji (U.jo (U.rd (U.ro (gd (.ptr tRo) σ 0))))) (gd .int σ 1) i))],ob:=fun _=>[],inv:=fun i=>i≤(U.ji (U.jo (U.rd (U.ro (gd (.ptr tRo) σ 0))))).length,mu:=fun i=>(U.ji (U.jo (U.rd (U.ro (gd (.ptr tRo) σ 0))))).length-i}
  |_=>none
abbrev q91_0 (d:Option RoD×Int×Unit):=(U.ji (U.jo (U.rd (U.ro d.1))))
def jda:Prop:=∀(d:Option RoD×Int×Unit),d.1.isSome=true→U.jq (U.jo (U.rd (U.ro d.1)))=true→(0:Int)≤d.2.1→d.2.1≤(1000000:Int)→d.1.isSome=true∧((jY ((((0:Int),[],[],()),[],[],(0:Int),(0:Int),[],()),[],[],[],()) d.1).1.1.2.1.length<4611686018427387904→(∃(x:Nat),(((0:Int)=(x:Int)∧(0:Int)=U.jcH (q91_0 d) d.2.1 x∧True)∧True)∧x≤(q91_0 d).length)∧∀(x:Nat),x≤(q91_0 d).length→(decide ((x:Int)<(↑(jY ((((0:Int),[],[],()),[],[],(0:Int),(0:Int),[],()),[],[],[],()) d.1).1.1.2.1.length:Int))=true→(0:Int)≤(x:Int)∧(x:Int)<(↑(jY ((((0:Int),[],[],()),[],[],(0:Int),(0:Int),[],()),[],[],[],()) d.1).1.1.2.1.length:Int)∧(0:Int)≤(x:Int)∧(x:Int)≤(64:Int)∧jx (ya (d.2.1/(2:Int)^(x:Int).toNat) (1:Int)*(nth (jY ((((0:Int),[],[],()),[],[],(0:Int),(0:Int),[],()),[],[],[],()) d.1).1.1.2.1 (x:Int).toNat).2.2.2.2.2.1)∧jx (U.jcH (q91_0 d) d.2.1 x+ya (d.2.1/(2:Int)^(x:Int).toNat) (1:Int)*(nth (jY ((((0:Int),[],[],()),[],[],(0:Int),(0:Int),[],()),[],[],[],()) d.1).1.1.2.1 (x:Int).toNat).2.2.2.2.2.1)∧jx ((x:Int)+(1:Int))∧∃(x':Nat),(((x:Int)+(1:Int)=(x':Int)∧U.jcH (q91_0 d) d.2.1 x+ya (d.2.1/(2:Int)^(x:Int).toNat) (1:Int)*(nth (jY ((((0:Int),[],[],()),[],[],(0:Int),(0:Int),[],()),[],[],[],()) d.1).1.1.2.1 (x:Int).toNat).2.2.2.2.2.1=U.jcH (q91_0 d) d.2.1 x'∧True)∧True)∧x'≤(q91_0 d).length∧(q91_0 d).length-x'<(q91_0 d).length-x)∧(decide ((x:Int)<(↑(jY ((((0:Int),[],[],()),[],[],(0:Int),(0:Int),[],()),[],[],[],()) d.1).1.1.2.1.length:Int))=false→(U.jcH (q91_0 d) d.2.1 x,())=(U.gC (U.rd (U.ro d.1)) d.2.1,())))
theorem jg0:zq (ctx 30 [] []) (jnp) Tryz.f68 (jd Tryz.f68) ga=jda:=by kernel_rfl
end Go.X
