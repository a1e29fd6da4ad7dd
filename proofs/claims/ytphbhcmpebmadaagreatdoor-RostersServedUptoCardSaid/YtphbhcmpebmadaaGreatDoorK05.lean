/-
  Part 5 of the road: a checked reading of bodies, and what the functions on it do (T L BT BS NL DF RC FX A1 P1 A2 P2 A4 P4 A5 P5 A3 P6 CM MP O1 B1 P7 IS B2 P8 B3 P9 DI).
-/
import Derived.Test.YtphbhcmpebmadaaGreatDoorK04
import Derived.Test.YtphbhcmpebmadaaGreatDoorProg
import Derived.KernelRfl
import Derived.Shelf.SlSortCmp.WholeK
import Derived.Shelf.Sort.Plain
namespace Go.X
open Go.Proofs
abbrev bT:=true
abbrev bF:=false
abbrev vO:Value:=.int .i64 0
abbrev qy0:Ty:=.ptr (.uint .u8)
abbrev qy1:Ty:=.st [.int,.int]
abbrev qy2:Ty:=.ptr (.uint .u64)
abbrev qy3:Ty:=.slice (.slice .int)
abbrev qy4:Ty:=.st [.int,.int,.bool]
abbrev qy5:Ty:=.slice qy1
abbrev qy6:Ty:=.slice qy4
abbrev qy7:Ty:=.slice qy5
abbrev qy8:Ty:=.st [.int,.int,.bool,.uint .u8]
abbrev qy9:Ty:=.st [.int,.int,.int,.int,.int]
abbrev qy10:Ty:=.st [.int,.int,.int,.int,.int,.int]
abbrev qy11:Ty:=.slice qy9
abbrev qy12:Ty:=.slice qy10
abbrev qy13:Ty:=.slice qy11
abbrev qy14:Ty:=.st [.slice .int,.int,.int,.slice .int,.bool,.int]
abbrev qy15:Ty:=.map qy1 qy9
abbrev qy16:Ty:=.st [qy10,.int,.int,.int]
abbrev qy17:Ty:=.slice qy14
abbrev qy18:Ty:=.slice qy16
abbrev qy19:Ty:=.st [.int,qy17,qy6]
abbrev qy20:Ty:=.st [qy19,qy10,qy4]
abbrev qy21:Ty:=.ptr qy20
abbrev qy22:Ty:=.st [qy19,qy7,qy18,.int,.int,qy11]
abbrev qy23:Ty:=.slice qy22
abbrev qy24:Ty:=.st [qy22,.slice .int,qy3,.slice .int]
abbrev qy25:Ty:=.ptr qy24
abbrev qy26:Ty:=.st [qy25,qy3,.slice .int,.slice .int,.int,.bool]
abbrev qy27:Ty:=.ptr qy26
def rr (i:Nat)(t:Ty)(n:Nat)(a:Bool)(f:List (Nat×Nat))(s:Bool)(e b:Nat)(z:List Value)(c m:Bool)(k:Nat)(q:Bool):TI:=⟨i,t,n,a,f,s,e,b,z,c,m,k,q,false,false,false⟩
def rf (i:Nat):TI:=⟨i,.unit,1,false,[],false,0,8,[.nilFunc],false,false,0,false,false,false,true⟩
def rq (i:Nat):TI:=⟨i,.unit,1,false,[],false,0,8,[.pointer none],false,false,0,false,false,true,false⟩
def ti:List TI:=[
 rf 1,
 rr 2 .int 1 bF [] bF 0 8 [vO] bF bF 0 bT,
 rr 3 .int 1 bF [] bF 0 8 [vO] bF bF 0 bT,
 rr 4 .bool 1 bF [] bF 0 1 [.bool false] bT bF 0 bF,
 rr 5 (.uint .u8) 1 bF [] bF 0 1 [.int .u8 0] bF bF 0 bF,
 rr 6 (.uint .u8) 1 bF [] bF 0 1 [.int .u8 0] bF bF 0 bF,
 rr 7 qy8 4 bT [(0,2),(1,3),(2,4),(3,6)] bF 0 24 [vO,vO,.bool false,.int .u8 0] bT bF 0 bT,
 rr 8 qy8 4 bT [(0,2),(1,3),(2,4),(3,6)] bF 0 24 [vO,vO,.bool false,.int .u8 0] bT bF 0 bT,
 rr 12 (.uint .u64) 1 bF [] bF 0 8 [.int .u64 0] bF bF 0 bF,
 rq 15,
 rq 16,
 rq 17,
 rr 18 .unit 1 bT [(0,17)] bF 0 8 [.pointer none] bF bF 0 bF,
 rr 19 .unit 1 bT [(0,17)] bF 0 8 [.pointer none] bF bF 0 bF,
 rr 21 (.uint .i32) 1 bF [] bF 0 4 [.int .i32 0] bF bF 0 bF,
 rr 22 qy17 1 bF [] bT 92 24 [.slice none 0 0] bF bF 0 bF,
 rr 23 qy6 1 bF [] bT 116 24 [.slice none 0 0] bF bF 0 bF,
 rr 24 qy19 3 bT [(0,3),(1,22),(2,23)] bF 0 56 [vO,.slice none 0 0,.slice none 0 0] bF bF 0 bF,
 rr 25 qy19 3 bT [(0,3),(1,22),(2,23)] bF 0 56 [vO,.slice none 0 0,.slice none 0 0] bF bF 0 bF,
 rr 26 qy7 1 bF [] bT 37 24 [.slice none 0 0] bF bF 0 bF,
 rr 27 qy18 1 bF [] bT 49 24 [.slice none 0 0] bF bF 0 bF,
 rr 28 qy11 1 bF [] bT 55 24 [.slice none 0 0] bF bF 0 bF,
 rr 29 qy22 8 bT [(0,25),(3,26),(4,27),(5,3),(6,3),(7,28)] bF 0 144 [vO,.slice none 0 0,.slice none 0 0,.slice none 0 0,.slice none 0 0,vO,vO,.slice none 0 0] bF bF 0 bF,
 rr 30 qy22 8 bT [(0,25),(3,26),(4,27),(5,3),(6,3),(7,28)] bF 0 144 [vO,.slice none 0 0,.slice none 0 0,.slice none 0 0,.slice none 0 0,vO,vO,.slice none 0 0] bF bF 0 bF,
 rr 31 qy3 1 bF [] bT 34 24 [.slice none 0 0] bF bF 0 bF,
 rf 32,
 rf 33,
 rr 34 (.slice .int) 1 bF [] bT 3 24 [.slice none 0 0] bF bF 0 bF,
 rr 35 qy1 2 bT [(0,3),(1,3)] bF 0 16 [vO,vO] bT bF 0 bT,
 rr 36 qy1 2 bT [(0,3),(1,3)] bF 0 16 [vO,vO] bT bF 0 bT,
 rr 37 qy5 1 bF [] bT 36 24 [.slice none 0 0] bF bF 0 bF,
 rr 38 .int 1 bF [] bF 0 8 [vO] bF bF 0 bT,
 rf 40,
 rf 42,
 rf 43,
 rf 44,
 rf 45,
 rr 46 qy10 6 bT [(0,3),(1,3),(2,3),(3,3),(4,3),(5,3)] bF 0 48 [vO,vO,vO,vO,vO,vO] bT bF 0 bT,
 rr 47 qy10 6 bT [(0,3),(1,3),(2,3),(3,3),(4,3),(5,3)] bF 0 48 [vO,vO,vO,vO,vO,vO] bT bF 0 bT,
 rr 48 qy16 9 bT [(0,47),(6,3),(7,3),(8,3)] bF 0 72 [vO,vO,vO,vO,vO,vO,vO,vO,vO] bT bF 0 bT,
 rr 49 qy16 9 bT [(0,47),(6,3),(7,3),(8,3)] bF 0 72 [vO,vO,vO,vO,vO,vO,vO,vO,vO] bT bF 0 bT,
 rf 50,
 rf 51,
 rf 52,
 rf 53,
 rr 54 qy9 5 bT [(0,3),(1,3),(2,3),(3,3),(4,3)] bF 0 40 [vO,vO,vO,vO,vO] bT bF 0 bT,
 rr 55 qy9 5 bT [(0,3),(1,3),(2,3),(3,3),(4,3)] bF 0 40 [vO,vO,vO,vO,vO] bT bF 0 bT,
 rf 56,
 rf 57,
 rf 58,
 rf 59,
 rf 60,
 rf 62,
 rf 63,
 rr 64 (.uint .u64) 1 bF [] bF 0 8 [.int .u64 0] bF bF 0 bF,
 rf 65,
 rf 66,
 rf 67,
 rf 68,
 rf 70,
 rf 71,
 rf 72,
 rf 73,
 {rr 74 qy25 1 bF [] bF 0 8 [.pointer none] bF bF 0 bF with pt:=true},
 rf 76,
 rf 77,
 rf 78,
 rf 79,
 rf 80,
 rr 81 qy24 11 bT [(0,30),(8,34),(9,31),(10,34)] bF 0 216 [vO,.slice none 0 0,.slice none 0 0,.slice none 0 0,.slice none 0 0,vO,vO,.slice none 0 0,.slice none 0 0,.slice none 0 0,.slice none 0 0] bF bF 0 bF,
 rr 82 qy24 11 bT [(0,30),(8,34),(9,31),(10,34)] bF 0 216 [vO,.slice none 0 0,.slice none 0 0,.slice none 0 0,.slice none 0 0,vO,vO,.slice none 0 0,.slice none 0 0,.slice none 0 0,.slice none 0 0] bF bF 0 bF,
 rf 83,
 rf 84,
 {rr 85 qy27 1 bF [] bF 0 8 [.pointer none] bF bF 0 bF with pt:=true},
 rr 86 qy26 6 bT [(0,74),(1,31),(2,34),(3,34),(4,3),(5,4)] bF 0 96 [.pointer none,.slice none 0 0,.slice none 0 0,.slice none 0 0,vO,.bool false] bF bF 0 bF,
 rr 87 qy26 6 bT [(0,74),(1,31),(2,34),(3,34),(4,3),(5,4)] bF 0 96 [.pointer none,.slice none 0 0,.slice none 0 0,.slice none 0 0,vO,.bool false] bF bF 0 bF,
 rf 88,
 rf 89,
 rf 90,
 rr 91 qy14 6 bT [(0,34),(1,3),(2,3),(3,34),(4,4),(5,3)] bF 0 80 [.slice none 0 0,vO,vO,.slice none 0 0,.bool false,vO] bF bF 0 bF,
 rr 92 qy14 6 bT [(0,34),(1,3),(2,3),(3,34),(4,4),(5,3)] bF 0 80 [.slice none 0 0,vO,vO,.slice none 0 0,.bool false,vO] bF bF 0 bF,
 rf 93,
 rr 94 qy23 1 bF [] bT 30 24 [.slice none 0 0] bF bF 0 bF,
 rf 95,
 rf 96,
 rf 97,
 rf 98,
 rf 99,
 rf 100,
 rr 101 qy12 1 bF [] bT 47 24 [.slice none 0 0] bF bF 0 bF,
 rf 103,
 rf 104,
 rf 105,
 rf 106,
 rf 107,
 rf 108,
 rf 109,
 rf 110,
 rf 112,
 rf 113,
 rf 114,
 rr 115 qy4 3 bT [(0,3),(1,3),(2,4)] bF 0 24 [vO,vO,.bool false] bT bF 0 bT,
 rr 116 qy4 3 bT [(0,3),(1,3),(2,4)] bF 0 24 [vO,vO,.bool false] bT bF 0 bT,
 rf 117,
 rf 118,
 rf 119,
 rr 120 qy13 1 bF [] bT 28 24 [.slice none 0 0] bF bF 0 bF,
 rf 121,
 rr 122 (.map .int .int) 1 bF [] bF 3 8 [.map none] bF bT 3 bF,
 rf 123,
 rf 124,
 rf 125,
 rf 126,
 rf 127,
 rf 128,
 {rr 129 qy21 1 bF [] bF 0 8 [.pointer none] bF bF 0 bF with pt:=true},
 rf 131,
 rr 132 (.uint .u64) 1 bF [] bF 0 8 [.int .u64 0] bF bF 0 bF,
 rf 133,
 rr 134 qy15 1 bF [] bF 55 8 [.map none] bF bT 136 bF,
 rr 135 qy1 2 bT [(0,3),(1,3)] bF 0 16 [vO,vO] bT bF 0 bT,
 rr 136 qy1 2 bT [(0,3),(1,3)] bF 0 16 [vO,vO] bT bF 0 bT,
 rf 137,
 rf 138,
 rf 139,
 rf 140,
 rf 141,
 rf 142,
 rf 143,
 rf 144,
 rf 145,
 rf 146,
 rf 147,
 rf 148,
 rf 149,
 rf 150,
 rf 151,
 rf 152,
 rf 153,
 rf 154,
 rr 155 qy20 12 bT [(0,25),(3,47),(9,116)] bF 0 128 [vO,.slice none 0 0,.slice none 0 0,vO,vO,vO,vO,vO,vO,vO,vO,.bool false] bF bF 0 bF,
 rr 156 qy20 12 bT [(0,25),(3,47),(9,116)] bF 0 128 [vO,.slice none 0 0,.slice none 0 0,vO,vO,vO,vO,vO,vO,vO,vO,.bool false] bF bF 0 bF,
 rf 157,
 rf 158,
 rf 159,
 rf 160,
 rf 161,
 rf 162,
 rf 163,
 rf 164,
 rf 165,
 rf 166,
 rf 167,
 rf 168,
 rf 169,
 rf 170,
 rr 171 .int 1 bF [] bF 0 8 [vO] bF bF 0 bT,
 rf 173,
 rf 174,
 rf 175,
 rf 177,
 rf 178,
 rr 179 (.uint .u32) 1 bF [] bF 0 4 [.int .u32 0] bF bF 0 bF,
 rf 180,
 rr 181 (.uint .u64) 1 bF [] bF 0 8 [.int .u64 0] bF bF 0 bF,
 rf 182,
 rf 183,
 rf 184,
 rf 185,
 rf 186,
 rf 187,
 rf 188,
 rf 189,
 rf 190,
 rf 191,
 rf 192,
 rf 193,
 rf 194,
 rf 195,
 rf 196,
 rr 197 (.uint .u64) 1 bF [] bF 0 8 [.int .u64 0] bF bF 0 bF,
 rf 198,
 rf 199,
 rf 200,
 {rr 201 (.ptr .int) 1 bF [] bF 0 8 [.pointer none] bF bF 0 bF with pt:=true},
 rf 202,
 rf 203,
 rf 204,
 rf 205,
 rf 206,
 rf 208,
 rf 209,
 rf 210,
 {rr 211 qy2 1 bF [] bF 0 8 [.pointer none] bF bF 0 bF with pt:=true},
 rf 213,
 rf 214,
 rf 215,
 rf 217,
 rf 219,
 rf 220,
 rr 224 .unit 0 bT [(0,223)] bF 0 0 [] bF bF 0 bF,
 rr 225 .unit 0 bT [(0,223)] bF 0 0 [] bF bF 0 bF,
 rr 226 (.uint .u8) 1 bF [] bF 0 1 [.int .u8 0] bF bF 0 bF,
 rr 227 (.uint .u8) 1 bF [] bF 0 1 [.int .u8 0] bF bF 0 bF,
 rf 228,
 {rr 229 qy0 1 bF [] bF 0 8 [.pointer none] bF bF 0 bF with pt:=true},
 rr 230 (.uint .i32) 1 bF [] bF 0 4 [.int .i32 0] bF bF 0 bF,
 rr 231 (.uint .i32) 1 bF [] bF 0 4 [.int .i32 0] bF bF 0 bF,
 rr 232 .unit 11 bT [(0,12),(1,12),(2,179),(3,226),(4,5),(5,5),(6,227),(7,228),(8,229),(9,230),(10,231)] bF 0 48 [.int .u64 0,.int .u64 0,.int .u32 0,.int .u8 0,.int .u8 0,.int .u8 0,.int .u8 0,.nilFunc,.pointer none,.int .i32 0,.int .i32 0] bF bF 0 bF,
 rr 233 .unit 11 bT [(0,12),(1,12),(2,179),(3,226),(4,5),(5,5),(6,227),(7,228),(8,229),(9,230),(10,231)] bF 0 48 [.int .u64 0,.int .u64 0,.int .u32 0,.int .u8 0,.int .u8 0,.int .u8 0,.int .u8 0,.nilFunc,.pointer none,.int .i32 0,.int .i32 0] bF bF 0 bF,
 rf 234,
 rf 236]
def strs:List Nat:=[9,10,11]
noncomputable abbrev PR:Program:=Tryz.prog
theorem jDF:ti.all (jF9 PR)=true:=by kernel_rfl
def jEi (P:Program) (k:Nat):Bool:=match P.underlying k with|some .string=>true|_=>false
theorem jzt {P:Program} {l:List Nat} (a:l.all (jEi P)=true) (T:Nat) (h:yx l T=true):P.underlying T=some .string:=by
 have:=jHE.1 a T ((kA _ _).1 h);unfold jEi at this
 split at this
 .assumption
 .cases this
theorem jDI:strs.all (jEi PR)=true:=by kernel_rfl
theorem jxU:∀T,yx strs T=true->PR.underlying T=some .string:=jzt jDI
theorem mixed:PR.follows .mixedOrders=true:=by kernel_rfl
def jGw (n:Nat) (fs:List (Nat×j7)):Ctx:=⟨n,ti,fs,fun _ _ _ _=>none,strs,false⟩
def ctx (n:Nat) (fs:List (Nat×j7)) (os:List (Nat×zP)):Ctx:=⟨n,ti,fs,jGq (jGw n fs) os,strs,false⟩
def je4:List (Nat×j7)->Prop
 |[]=>True
 |p::r=>(p.2.own=false->zu PR p.1 p.2)/\je4 r
def gg:List (Nat×zP)->Prop
 |[]=>True
 |p::r=>qa PR p.1 p.2/\gg r
theorem jc4:∀{l:List (Nat×j7)},je4 l->∀f s,jD l f=some s->s.own=false->zu PR f s
 |[],_,f,s,h,_=>by simp[jD] at h
 | (j,x)::r,hk,f,s,h,ho=>by
  simp only[jD] at h
  cases a:Nat.beq j f with
  |true=>rw[a] at h;simp at h;subst h;have:=jG0 a;subst this;exact hk.1 ho
  |false=>rw[a] at h;exact jc4 hk.2 f s h ho
theorem jeA:∀{l:List (Nat×zP)},gg l->∀f s,jD l f=some s->qa PR f s
 |[],_,f,s,h=>by simp[jD] at h
 | (j,x)::r,hk,f,s,h=>by
  simp only[jD] at h
  cases a:Nat.beq j f with
  |true=>rw[a] at h;simp at h;subst h;have:=jG0 a;subst this;exact hk.1
  |false=>rw[a] at h;exact jeA hk.2 f s h
theorem jAn {n:Nat} {fs:List (Nat×j7)} (h:je4 fs):(jGw n fs).ok PR:=
 ⟨jxO jDF,jc4 h,jxU,rfl,fun _ _ _ _ _ a=>by cases a⟩
theorem jkZ {n:Nat} {fs:List (Nat×j7)} {os:List (Nat×zP)} (h:je4 fs) (b:gg os):(ctx n fs os).ok PR:=
 ⟨jxO jDF,jc4 h,jxU,rfl,fun f dst σ svs out a=>jwj (jAn h) (jeA b) a⟩
def gd (t:Ty) (σ:St) (s:Nat):t.Data:=match σ.get s with
 | .dat a d=>(match zz a t d with|some x=>x|none=>t.dflt)
 |_=>t.dflt
def gr (t:Ty) (σ:St) (o:Nat):List t.Data:=match σ.obj o with
 |some (.row _ a _ _ l)=>(match zz (.slice a) (.slice t) l with|some l'=>l'|none=>[])
 |_=>[]
def gfn (ps rs:List Ty) (σ:St) (s:Nat):(Ty.st ps).Data->(Ty.st rs).Data:=match σ.get s with
 | .fn a b _ F=>if h:a=ps/\b=rs then h.1▸h.2▸F else fun _=>(Ty.st rs).dflt
 |_=>fun _=>(Ty.st rs).dflt
def zZ (fn:Func):Code:=match fn.body with|some c=>c|none=> .skip
theorem jGN {f:Nat} {fn:Func} {n:Nat} {fs:List (Nat×j7)} {os:List (Nat×zP)} {s:j7} {A:Ann} (h:jFL (ctx n fs os) A fn (zZ fn) s) (d:PR.funcs[f]? =some fn) (c:fn.body=some (zZ fn)) (a:(fn.name== "runtime.NumGoroutine")=false)
 (e:fn.ntmps=n) (b:Nat.ble s.ps.length n=true) (hk:je4 fs) (g:gg os):zu PR f s:=
 jGu (jkZ hk g) mixed d c a e (jHg b) A h
theorem jEb {f:Nat} {fn:Func} {n:Nat} {fs:List (Nat×j7)} {os:List (Nat×zP)} {s:zP} {A:Ann} (h:jwi (ctx n fs os) A fn (zZ fn) s) (e:PR.funcs[f]? =some fn) (d:fn.body=some (zZ fn)) (a:(fn.name== "runtime.NumGoroutine")=false)
 (g:fn.ntmps=n) (c:Nat.ble s.ps.length n=true) (b:qh (js2 s.ps 0)=true) (hk:je4 fs) (i:gg os):qa PR f s:=
 jFp (jkZ hk i) mixed e d a g (jHg c) b A h
theorem kcC {f:Nat} {s:j7} {fs:List (Nat×j7)} (h:zu PR f s) (hk:je4 fs):je4 ((f,s)::fs):=⟨fun _=>h,hk⟩
theorem kcN:je4 []:=trivial
theorem koC {f:Nat} {s:zP} {fs:List (Nat×zP)} (h:qa PR f s) (hk:gg fs):gg ((f,s)::fs):=⟨h,hk⟩
theorem koN:gg []:=trivial
theorem wi (A:Ann) {f:Nat} {fn:Func} {fs:List (Nat×j7)} {os:List (Nat×zP)} {s:j7} {P:Prop} (h:P) (e:PR.funcs[f]? =some fn) (hk:je4 fs) (g:gg os) (d:jFL (ctx fn.ntmps fs os) A fn (zZ fn) s=P:=by kernel_rfl) (c:fn.body=some (zZ fn):=by kernel_rfl) (a:(fn.name== "runtime.NumGoroutine")=false:=by kernel_rfl) (b:Nat.ble s.ps.length fn.ntmps=true:=by kernel_rfl):zu PR f s:=jGN (d.mpr h) e c a rfl b hk g
theorem jZ {f:Nat} {fn:Func} {fs:List (Nat×j7)} {os:List (Nat×zP)} {s:j7} {P:Prop} (h:P) (e:PR.funcs[f]? =some fn) (hk:je4 fs) (g:gg os) (d:jFL (ctx fn.ntmps fs os) (fun _=>none) fn (zZ fn) s=P:=by kernel_rfl) (c:fn.body=some (zZ fn):=by kernel_rfl) (a:(fn.name== "runtime.NumGoroutine")=false:=by kernel_rfl) (b:Nat.ble s.ps.length fn.ntmps=true:=by kernel_rfl):zu PR f s:=jGN (d.mpr h) e c a rfl b hk g
theorem jdH (A:Ann) {f:Nat} {fn:Func} {fs:List (Nat×j7)} {os:List (Nat×zP)} {s:zP} {P:Prop} (h:P) (g:PR.funcs[f]? =some fn) (hk:je4 fs) (i:gg os) (e:jwi (ctx fn.ntmps fs os) A fn (zZ fn) s=P:=by kernel_rfl) (d:fn.body=some (zZ fn):=by kernel_rfl) (a:(fn.name== "runtime.NumGoroutine")=false:=by kernel_rfl) (c:Nat.ble s.ps.length fn.ntmps=true:=by kernel_rfl) (b:qh (js2 s.ps 0)=true:=by kernel_rfl):qa PR f s:=jEb (e.mpr h) g d a rfl c b hk i
theorem jka {f:Nat} {fn:Func} {fs:List (Nat×j7)} {os:List (Nat×zP)} {s:zP} {P:Prop} (h:P) (g:PR.funcs[f]? =some fn) (hk:je4 fs) (i:gg os) (e:jwi (ctx fn.ntmps fs os) (fun _=>none) fn (zZ fn) s=P:=by kernel_rfl) (d:fn.body=some (zZ fn):=by kernel_rfl) (a:(fn.name== "runtime.NumGoroutine")=false:=by kernel_rfl) (c:Nat.ble s.ps.length fn.ntmps=true:=by kernel_rfl) (b:qh (js2 s.ps 0)=true:=by kernel_rfl):qa PR f s:=jEb (e.mpr h) g d a rfl c b hk i
def jry (n:Nat) (fs:List (Nat×j7)) (os:List (Nat×zP)) (cs:List (Nat×je5)) (vs:List (Nat×joP)):Ctx:=⟨n,ti,fs,jGk (jGw n fs) os cs vs,strs,false⟩
def jAW:List (Nat×je5)->Prop
 |[]=>True
 |p::r=>jrr PR p.1 p.2/\jAW r
def jAV:List (Nat×joP)->Prop
 |[]=>True
 |p::r=>VOK PR p.1 p.2/\jAV r
theorem jkm:∀{l:List (Nat×je5)},jAW l->∀f s,jD l f=some s->jrr PR f s
 |[],_,f,s,h=>by simp[jD] at h
 | (j,x)::r,hk,f,s,h=>by
  simp only[jD] at h
  cases a:Nat.beq j f with
  |true=>rw[a] at h;simp at h;subst h;have:=jG0 a;subst this;exact hk.1
  |false=>rw[a] at h;exact jkm hk.2 f s h
theorem jkl:∀{l:List (Nat×joP)},jAV l->∀f s,jD l f=some s->VOK PR f s
 |[],_,f,s,h=>by simp[jD] at h
 | (j,x)::r,hk,f,s,h=>by
  simp only[jD] at h
  cases a:Nat.beq j f with
  |true=>rw[a] at h;simp at h;subst h;have:=jG0 a;subst this;exact hk.1
  |false=>rw[a] at h;exact jkl hk.2 f s h
theorem jtM {n:Nat} {fs:List (Nat×j7)} {os:List (Nat×zP)} {cs:List (Nat×je5)} {vs:List (Nat×joP)} (h:je4 fs) (c:gg os) (a:jAW cs) (d:jAV vs):(jry n fs os cs vs).ok PR:=
 ⟨jxO jDF,jc4 h,jxU,rfl,fun f dst σ svs out b=>jvq (jAn h) (jeA c) (jkm a) (jkl d) b⟩
theorem jFu {f:Nat} {fn:Func} {n:Nat} {fs:List (Nat×j7)} {os:List (Nat×zP)} {s:je5} {A:Ann} (h:jAw (ctx n fs os) A fn (zZ fn) s) (d:PR.funcs[f]? =some fn) (c:fn.body=some (zZ fn)) (a:(fn.name== "runtime.NumGoroutine")=false)
 (e:fn.ntmps=n) (b:Nat.ble s.ps.length n=true) (hk:je4 fs) (g:gg os):jrr PR f s:=
 jFY (jkZ hk g) mixed d c a e (jHg b) A h
end Go.X
namespace Go.X
namespace L
theorem nth_lt {α:Type} [Inhabited α] {l:List α} {i:Nat} (h:i<l.length):nth l i=l[i]:=by
 unfold nth;simp[h]
theorem take_succ {α:Type} [Inhabited α] {l:List α} {i:Nat} (h:i<l.length):l.take (i+1)=l.take i++[nth l i]:=by
 rw[nth_lt h];exact List.take_succ_eq_append_getElem h
theorem mem_nth {α:Type} [Inhabited α] {l:List α} {i:Nat} (h:i<l.length):nth l i∈l:=by
 rw[nth_lt h];exact List.getElem_mem h
theorem mem_iff {α:Type} [Inhabited α] {l:List α} {x:α}:x∈l↔∃i,i<l.length/\nth l i=x:=by
 constructor
 .intro h;obtain⟨i,hi,e⟩:=List.getElem_of_mem h;exact⟨i,hi,by rw[nth_lt hi,e]⟩
 .rintro⟨i,hi,rfl⟩;exact mem_nth hi
theorem all_false {α:Type} [Inhabited α] {l:List α} {i:Nat} {p:α->Bool} (h:i<l.length) (a:p (nth l i)=false):l.all p=false:=by
 rw[jId];exact⟨nth l i,mem_nth h,by simp[a]⟩
theorem in64 {x:Int} (a: -9223372036854775808<=x) (b:x<=9223372036854775807):jy x:=⟨a,b⟩
end L
end Go.X
namespace Go.X
namespace BT
theorem two_nat (k:Nat):(2:Int)^k=((2^k:Nat):Int):=by simp
theorem div_nat (n k:Nat):(n:Int)/2^k=((n/2^k:Nat):Int):=by simp
theorem pow63 {k:Nat} (h:k<=62):2^k<2^63:=Nat.pow_lt_pow_right (by decide) (by omega)
theorem ofInt_nat {n:Nat} (a:n<2^63):(BitVec.ofInt 64 (n:Int)).toNat=n:=by
 simp only[BitVec.toNat_ofInt];omega
theorem wrap_nat {n:Nat} (h:n<2^63):IntKind.i64.wrap (n:Int)=(n:Int):=by
 unfold IntKind.wrap;simp[IntKind.signed,IntKind.bits];omega
theorem wrapU_nat {n:Nat} (h:n<2^63):IntKind.u64.wrap (n:Int)=(n:Int):=by
 unfold IntKind.wrap;simp[IntKind.signed,IntKind.bits];omega
theorem band_nat {a b:Nat} (c:a<2^63) (d:b<2^63):qH (a:Int) (b:Int)=((a&&&b:Nat):Int):=by
 unfold qH;rw[BitVec.toNat_and,ofInt_nat c,ofInt_nat d];exact wrap_nat (jIx Nat.and_le_left c)
theorem uand_nat {a b:Nat} (c:a<2^63) (d:b<2^63):wY (a:Int) (b:Int)=((a&&&b:Nat):Int):=by
 unfold wY;rw[BitVec.toNat_and,ofInt_nat c,ofInt_nat d];exact wrapU_nat (jIx Nat.and_le_left c)
theorem bor_nat {a b:Nat} (c:a<2^63) (d:b<2^63):bor (a:Int) (b:Int)=((a|||b:Nat):Int):=by
 unfold bor;rw[BitVec.toNat_or,ofInt_nat c,ofInt_nat d,wrap_nat (Nat.or_lt_two_pow c d)]
def sdiff (a b:Nat):Nat:=a&&&(2^64-(b+1))
theorem sdiff_bit {a b:Nat} (c:a<2^63) (d:b<2^63) (i:Nat):(sdiff a b).testBit i=(a.testBit i&& !b.testBit i):=by
 unfold sdiff;rw[Nat.testBit_and,Nat.testBit_two_pow_sub_succ (by omega)];by_cases hi:i<64
 .rw[decide_eq_true hi,Bool.true_and]
 .have:a.testBit i=false:=Nat.testBit_lt_two_pow (jH1 c (jIc (by decide) (by omega)));rw[this];simp
theorem bandn_nat {a b:Nat} (c:a<2^63) (d:b<2^63):zx (a:Int) (b:Int)=((sdiff a b:Nat):Int):=by
 unfold zx;rw[BitVec.toNat_and,BitVec.toNat_not,ofInt_nat c,ofInt_nat d];have:2^64-1-b=2^64-(b+1):=(by omega);rw[this];exact wrap_nat (jIx Nat.and_le_left c)
def Set' (s:Int):Prop:=0<=s/\s<2^62
def has (s:Int) (p:Nat):Bool:=s.toNat.testBit p
theorem nat_of {s:Int} (h:Set' s):∃n:Nat,s=(n:Int)/\n<2^62:=⟨s.toNat,by unfold Set' at h;omega,by unfold Set' at h;omega⟩
theorem lt63 {n:Nat} (h:n<2^62):n<2^63:=by omega
theorem has_shr {s:Int} (h:Set' s) (p:Nat):decide (qH (s/2^p) 1=1)=has s p:=by
 obtain⟨n,rfl,b⟩:=nat_of h;unfold has;rw[jG7,div_nat];have a:n/2^p<2^63:=jIx (Nat.div_le_self _ _) (lt63 b);rw[show(1:Int)=((1:Nat):Int) from rfl,band_nat a (by decide),Nat.and_one_is_mod,Nat.testBit_eq_decide_div_mod_eq];exact decide_eq_decide.2 ⟨fun h=>by omega,fun h=>by omega⟩
theorem has_ushr {s:Int} (h:Set' s) (p:Nat):decide (wY (s/2^p) 1=1)=has s p:=by
 obtain⟨n,rfl,b⟩:=nat_of h;unfold has;rw[jG7,div_nat];have a:n/2^p<2^63:=jIx (Nat.div_le_self _ _) (lt63 b);rw[show(1:Int)=((1:Nat):Int) from rfl,uand_nat a (by decide),Nat.and_one_is_mod,Nat.testBit_eq_decide_div_mod_eq];exact decide_eq_decide.2 ⟨fun h=>by omega,fun h=>by omega⟩
theorem bit_num {s:Int} (h:Set' s) (p:Nat):qH (s/2^p) 1=if has s p=true then 1 else 0:=by
 obtain⟨n,rfl,b⟩:=nat_of h;unfold has;rw[jG7,div_nat];have a:n/2^p<2^63:=jIx (Nat.div_le_self _ _) (lt63 b);rw[show(1:Int)=((1:Nat):Int) from rfl,band_nat a (by decide),Nat.and_one_is_mod,Nat.testBit_eq_decide_div_mod_eq]
 split
 .rename_i h;have:=of_decide_eq_true h;omega
 .rename_i h;have:¬(n/2^p%2=1):=fun e=>h (decide_eq_true e);omega
theorem has_zero (p:Nat):has 0 p=false:=by unfold has;simp
theorem has_two (k p:Nat):has ((2:Int)^k) p=decide (k=p):=by
 unfold has;rw[two_nat,jG7,Nat.testBit_two_pow]
theorem has_band {a b:Int} (c:Set' a) (d:Set' b) (p:Nat):has (qH a b) p=(has a p&&has b p):=by
 obtain⟨n,rfl,f⟩:=nat_of c;obtain⟨m,rfl,e⟩:=nat_of d;unfold has;rw[band_nat (lt63 f) (lt63 e)];simp only[jG7,Nat.testBit_and]
theorem has_bor {a b:Int} (c:Set' a) (d:Set' b) (p:Nat):has (bor a b) p=(has a p||has b p):=by
 obtain⟨n,rfl,f⟩:=nat_of c;obtain⟨m,rfl,e⟩:=nat_of d;unfold has;rw[bor_nat (lt63 f) (lt63 e)];simp only[jG7,Nat.testBit_or]
theorem has_bandn {a b:Int} (e:Set' a) (f:Set' b) (p:Nat):has (zx a b) p=(has a p&& !has b p):=by
 obtain⟨n,rfl,d⟩:=nat_of e;obtain⟨m,rfl,c⟩:=nat_of f;unfold has;rw[bandn_nat (lt63 d) (lt63 c)];simp only[jG7];exact sdiff_bit (lt63 d) (lt63 c) p
theorem band_set {a b:Int} (c:Set' a) (d:Set' b):Set' (qH a b):=by
 obtain⟨n,rfl,f⟩:=nat_of c;obtain⟨m,rfl,e⟩:=nat_of d;rw[band_nat (lt63 f) (lt63 e)];have:n&&&m<=n:=Nat.and_le_left;unfold Set';omega
theorem bor_set {a b:Int} (e:Set' a) (f:Set' b):Set' (bor a b):=by
 obtain⟨n,rfl,d⟩:=nat_of e;obtain⟨m,rfl,c⟩:=nat_of f;rw[bor_nat (lt63 d) (lt63 c)];have:n|||m<2^62:=Nat.or_lt_two_pow d c;unfold Set';omega
theorem bandn_set {a b:Int} (c:Set' a) (d:Set' b):Set' (zx a b):=by
 obtain⟨n,rfl,f⟩:=nat_of c;obtain⟨m,rfl,e⟩:=nat_of d;rw[bandn_nat (lt63 f) (lt63 e)];have:sdiff n m<=n:=Nat.and_le_left;unfold Set';omega
theorem zero_set:Set' 0:=by unfold Set';omega
theorem two_set {k:Nat} (h:k<=61):Set' ((2:Int)^k):=by
 rw[two_nat];have:2^k<2^62:=Nat.pow_lt_pow_right (by decide) (by omega);obtain⟨q,a⟩:∃q,q=2^k:=⟨_,rfl⟩;rw[<-a] at this⊢;unfold Set';omega
theorem ext {a b:Int} (c:Set' a) (d:Set' b) (h:∀p,has a p=has b p):a=b:=by
 obtain⟨n,rfl,f⟩:=nat_of c;obtain⟨m,rfl,e⟩:=nat_of d;have:n=m:=jIs (fun i=>by have:=h i;unfold has at this;simpa using this);rw[this]
theorem has_lt {s:Int} {k:Nat} (c:0<=s) (h:s<2^k) {p:Nat} (b:has s p=true):p<k:=by
 obtain⟨n,rfl⟩:∃n:Nat,s=(n:Int):=⟨s.toNat,by omega⟩;rw[two_nat] at h;unfold has at b;rw[jG7] at b;have d:=Nat.ge_two_pow_of_testBit b;rcases Nat.lt_or_ge p k with a|a
 .exact a
 .have:=jIc (n:=2) (by decide) a;omega
theorem lt_of_has {s:Int} {k:Nat} (a:Set' s) (h:∀p,has s p=true->p<k):s<2^k:=by
 obtain⟨n,rfl,b⟩:=nat_of a;rw[two_nat];have:n<2^k:=Nat.lt_pow_two_of_testBit n (fun i hi=>by
  cases e:n.testBit i with
  |false=>rfl
  |true=>have:=h i (by unfold has;simpa using e);omega)
 omega
theorem or_two {n p:Nat} (h:n.testBit p=false):n+2^p=n|||2^p:=by
 have g:n=2^(p+1)*(n/2^(p+1))+n%2^(p+1):=(Nat.div_add_mod _ _).symm;have c:n%2^(p+1)<2^p:=by
  have b:n%2^(p+1)<2^(p+1):=Nat.mod_lt _ (Nat.pow_pos (by decide));rcases Nat.lt_or_ge (n%2^(p+1)) (2^p) with a|a
  .exact a
  .exfalso;have:(n%2^(p+1)).testBit p=true:=Nat.testBit_of_two_pow_le_and_two_pow_add_one_gt a b;rw[Nat.testBit_mod_two_pow,h] at this;simp at this
 apply jIs;intro i;rw[Nat.testBit_or,Nat.testBit_two_pow];have e:n+2^p=2^(p+1)*(n/2^(p+1))+(2^p+n%2^(p+1)):=(by omega);have j:2^p+n%2^(p+1)<2^(p+1):=jH1 (Nat.add_lt_add_left c _) (by rw[Nat.pow_succ];omega);rw[e,Nat.testBit_two_pow_mul_add _ j]
 conv=>rhs;rw[g,Nat.testBit_two_pow_mul_add _ (Nat.mod_lt _ (Nat.pow_pos (by decide)))]
 have f:2^p+n%2^(p+1)=2^p*1+n%2^(p+1):=(by omega);by_cases hi:i<p+1
 .rw[if_pos hi,if_pos hi,f,Nat.testBit_two_pow_mul_add _ c];by_cases d:i<p
  .rw[if_pos d,decide_eq_false (by omega),Bool.or_false]
  .have:i=p:=(by omega);subst this;rw[if_neg d,Nat.sub_self,decide_eq_true rfl,Bool.or_true];simp
 .rw[if_neg hi,if_neg hi,decide_eq_false (by omega),Bool.or_false]
theorem add_two {s:Int} (b:Set' s) {p:Nat} (c:p<=61) (h:has s p=false):s+2^p=bor s (2^p):=by
 obtain⟨n,rfl,a⟩:=nat_of b;rw[two_nat,bor_nat (lt63 a) (pow63 (by omega))];unfold has at h;rw[jG7] at h;rw[<-or_two h];omega
def size (s:Int):Int:=(((List.range 62).countP (fun p=>has s p):Nat):Int)
theorem size_zero:size 0=0:=by
 unfold size;have:(List.range 62).countP (fun p=>has 0 p)=0:=jIm.2 (fun p _=>by rw[has_zero];simp);rw[this];rfl
theorem size_le (s:Int):0<=size s/\size s<=62:=by
 have:=List.countP_le_length (l:=List.range 62) (p:=fun p=>has s p);rw[List.length_range] at this;unfold size;omega
theorem has_half {s:Int} (a:Set' s) (p:Nat):has (s/2) p=has s (p+1):=by
 obtain⟨n,rfl,b⟩:=nat_of a;unfold has;have:((n:Int)/2).toNat=n/2:=(by omega);rw[this,jG7,Nat.testBit_succ]
theorem size_half {s:Int} (d:Set' s):size s=s%2+size (s/2):=by
 obtain⟨n,e,i⟩:=nat_of d;have b:has (s/2) 61=false:=by
  rw[has_half d];subst e;unfold has;rw[jG7];exact Nat.testBit_lt_two_pow i
 have j:(List.range 62)=0::(List.range 61).map (·+1):=by
  rw[show(62:Nat)=61+1 from rfl,List.range_succ_eq_map]
 have c:(List.range 62)=List.range 61++[61]:=(by rw[show(62:Nat)=61+1 from rfl,jHq]);have f:(has s 0=true)↔s%2=1:=by
  subst e;unfold has;rw[jG7,Nat.testBit_zero];simp only[decide_eq_true_eq];omega
 have g:(List.range 62).countP (fun p=>has (s/2) p)=(List.range 61).countP (fun p=>has s (p+1)):=by
  rw[c,jIw];simp only[jIu,List.countP_nil,b];simp only[has_half d];simp
 unfold size;rw[g]
 conv=>lhs;rw[j]
 rw[jIu,List.countP_map];have h:((fun p=>has s p)∘fun(x:Nat)=>x+1)=fun p=>has s (p+1):=rfl
 rw[h];by_cases a:has s 0=true
 .rw[if_pos a];have:=f.1 a;omega
 .rw[if_neg a];have:¬s%2=1:=fun e=>a (f.2 e);omega
end BT
end Go.X
namespace Go.X
namespace BT
theorem uor_nat {a b:Nat} (c:a<2^63) (d:b<2^63):uor (a:Int) (b:Int)=((a|||b:Nat):Int):=by
 unfold uor;rw[BitVec.toNat_or,ofInt_nat c,ofInt_nat d,wrapU_nat (Nat.or_lt_two_pow c d)]
theorem has_uor {a b:Int} (c:Set' a) (d:Set' b) (p:Nat):has (uor a b) p=(has a p||has b p):=by
 obtain⟨n,rfl,f⟩:=nat_of c;obtain⟨m,rfl,e⟩:=nat_of d;unfold has;rw[uor_nat (lt63 f) (lt63 e)];simp only[jG7,Nat.testBit_or]
theorem uor_set {a b:Int} (e:Set' a) (f:Set' b):Set' (uor a b):=by
 obtain⟨n,rfl,d⟩:=nat_of e;obtain⟨m,rfl,c⟩:=nat_of f;rw[uor_nat (lt63 d) (lt63 c)];have:n|||m<2^62:=Nat.or_lt_two_pow d c;unfold Set';omega
theorem pred_odd (k:Nat):(2*k+1)&&&(2*k+1-1)=2*k:=by
 apply jIs;intro i;rw[Nat.testBit_and,Nat.add_sub_cancel];cases i with
 |zero=>simp
 |succ i=>
  rw[Nat.testBit_succ,Nat.testBit_succ];have:(2*k+1)/2=k:=(by omega);have a:(2*k)/2=k:=(by omega);rw[this,a,Bool.and_self]
theorem pred_even (k:Nat) (h:k≠0):(2*k)&&&(2*k-1)=2*(k&&&(k-1)):=by
 apply jIs;intro i;rw[Nat.testBit_and];cases i with
 |zero=>simp
 |succ i=>
  rw[Nat.testBit_succ,Nat.testBit_succ,Nat.testBit_succ];have:(2*k)/2=k:=(by omega);have a:(2*k-1)/2=k-1:=(by omega);have b:(2*(k&&&(k-1)))/2=k&&&(k-1):=(by omega);rw[this,a,b,Nat.testBit_and]
theorem size_dbl {k:Nat} (h:k<2^61):size ((2*k:Nat):Int)=size (k:Int):=by
 rw[size_half (s:=((2*k:Nat):Int)) (by unfold Set';omega)];have a:((2*k:Nat):Int)%2=0:=(by omega);have b:((2*k:Nat):Int)/2=(k:Int):=(by omega);rw[a,b];omega
theorem size_odd {k:Nat} (h:k<2^61):size ((2*k+1:Nat):Int)=1+size (k:Int):=by
 rw[size_half (s:=((2*k+1:Nat):Int)) (by unfold Set';omega)];have a:((2*k+1:Nat):Int)%2=1:=(by omega);have b:((2*k+1:Nat):Int)/2=(k:Int):=(by omega);rw[a,b]
theorem pred_nat:∀(n:Nat),n≠0->n<2^62->(n&&&(n-1))<n/\size ((n&&&(n-1):Nat):Int)+1=size (n:Int)
 |n,b,d=>by
  rcases Nat.mod_two_eq_zero_or_one n with e|e
  .obtain⟨k,rfl⟩:∃k,n=2*k:=⟨n/2,by omega⟩
   have hk:k≠0:=by omega
   obtain⟨c,a⟩:=pred_nat k hk (by omega)
   rw[pred_even k hk]
   exact⟨by omega,by rw[size_dbl (by omega),size_dbl (by omega)];exact a⟩
  .obtain⟨k,rfl⟩:∃k,n=2*k+1:=⟨n/2,by omega⟩
   rw[pred_odd]
   exact⟨by omega,by rw[size_dbl (by omega),size_odd (by omega)];omega⟩
termination_by n=>n
theorem pred {s:Int} (d:Set' s) (h:s≠0):Set' (wY s (s-1))/\wY s (s-1)<s/\size (wY s (s-1))+1=size s:=by
 obtain⟨n,rfl,a⟩:=nat_of d;have b:n≠0:=(by omega);have e:(n:Int)-1=((n-1:Nat):Int):=(by omega);rw[e,uand_nat (lt63 a) (by omega)];obtain⟨f,c⟩:=pred_nat n b a;exact⟨by unfold Set';omega,by omega,c⟩
end BT
end Go.X
namespace Go.X
namespace U
def jay {α:Type} (eq:α->α->Bool) (p:α):List α->List α
 |[]=>[]
 |y::r=>if eq y p=true then jay eq y r else y::jay eq y r
def vL {α:Type} (eq:α->α->Bool):List α->List α
 |[]=>[]
 |x::r=>x::jay eq x r
def jEj {α:Type} (eq:α->α->Bool) (l:List α) (i:Nat):Prop:=1<=i/\i<=l.length/\vL eq (l.take i)=l.take i
def jdG {α:Type} (eq:α->α->Bool) (l:List α) (n:Nat):Int:=((vL eq (l.take n)).length:Int)
def jta {α:Type} (eq:α->α->Bool) (l:List α) (i k:Nat) (r:List α):Prop:=1<=k/\i+k<=l.length/\r.length=l.length/\vL eq (l.take (i+k))=r.take (vL eq (l.take (i+k))).length/\r.drop (i+k-1)=l.drop (i+k-1)/\(vL eq (l.take (i+k))).length<i+k
end U
namespace L
theorem nodup_len {α:Type}:∀(a b:List α),a.Nodup->(∀x∈a,x∈b)->a.length<=b.length
 |[],_,_,_=>by simp
 |x::a,b,hn,h=>by
  obtain⟨e,f,rfl⟩:=List.append_of_mem (h x (by simp))
  rw[jHV] at hn
  have:=nodup_len a (e++f) hn.2 (fun y d=>by
   have:=h y (by simp[d])
   rw[jHa,jG4] at this
   rw[jHa]
   rcases this with c|c|c
   .exact .inl c
   .subst c;exact absurd d hn.1
   .exact .inr c)
  simp at this⊢
  omega
theorem perm_of_nodup {α:Type} [DecidableEq α]:∀{a b:List α},a.Nodup->b.Nodup->(∀n,n∈a↔n∈b)->a.Perm b
 |[],b,_,_,h=>by
  have:b=[]:=by
   cases b with
   |nil=>rfl
   |cons x r=>exact absurd ((h x).2 (by simp)) (by simp)
  rw[this]
 |x::r,b,ha,hb,h=>by
  have i:x∈b:=(h x).1 (by simp);have f:=List.perm_cons_erase i;refine(List.Perm.cons x (perm_of_nodup (jHV.1 ha).2 (hb.erase x) (fun n=> ?_))).trans f.symm;rw[hb.mem_erase_iff];constructor
  .intro c;exact⟨fun e=>by subst e;exact(jHV.1 ha).1 c,(h n).1 (jHb _ c)⟩
  .rintro⟨d,c⟩;rcases jG4.1 ((h n).2 c) with e|g
   .exact absurd e d
   .exact g
theorem nodup_inj {α d:Type} {f:α->d}:∀{l:List α},(l.map f).Nodup->∀{x y:α},x∈l->y∈l->f x=f y->x=y
 |[],_,_,_,h,_,_=>by simp at h
 |a::r,hn,x,y,hx,hy,e=>by
  simp only[jH8,jHV] at hn
  rcases jG4.1 hx with rfl|c
  .rcases jG4.1 hy with rfl|b
   .rfl
   .exact absurd (jHy.2 ⟨y,b,e.symm⟩) hn.1
  .rcases jG4.1 hy with rfl|b
   .exact absurd (jHy.2 ⟨x,c,e⟩) hn.1
   .exact nodup_inj hn.2 c b e
theorem nth_take {α:Type} [Inhabited α] {l:List α} {i n:Nat} (h:i<n):nth (l.take n) i=nth l i:=by
 unfold nth;rw[jHG,jHG,jHr h]
theorem nth_drop {α:Type} [Inhabited α] {l r:List α} {a n:Nat} (h:l.drop a=r.drop a) (b:a<=n):nth l n=nth r n:=by
 have e:=congrArg (fun x=>x[n-a]?) h;simp only[jHI] at e;rw[show a+(n-a)=n by omega] at e;unfold nth;rw[jHG,jHG,e]
theorem nth_map {α a:Type} [Inhabited α] [Inhabited a] {f:α->a} {l:List α} {i:Nat} (h:i<l.length):nth (l.map f) i=f (nth l i):=by
 rw[nth_lt (by simpa using h),nth_lt h];simp
theorem nth_set {α:Type} [Inhabited α] {l:List α} {i j:Nat} {x:α} (h:i<l.length):nth (l.set i x) j=if i=j then x else nth l j:=by
 unfold nth;rw[jHG,jHG,List.getElem?_set]
 split
 .rename_i e;subst e;simp[h]
 .rfl
theorem nth_rep {α:Type} [Inhabited α] {n i:Nat} {x:α} (h:i<n):nth (List.replicate n x) i=x:=by
 unfold nth;rw[jHG,List.getElem?_replicate,if_pos h];rfl
theorem ext_nth {α:Type} [Inhabited α] {a b:List α} (h:a.length=b.length) (d:∀i,i<a.length->nth a i=nth b i):a=b:=by
 apply List.ext_getElem h;intro i c e;rw[<-nth_lt c,<-nth_lt e];exact d i c
theorem range_map_nth {α:Type} [Inhabited α] (l:List α):(List.range l.length).map (nth l)=l:=by
 apply ext_nth
 .simp
 .intro i hi;rw[nth_map (by simpa using hi)];congr 1;rw[nth_lt (by simpa using hi)];simp
section
variable {α:Type} [Inhabited α] {eq:α->α->Bool}
theorem compT_snoc (y:α):∀(r:List α) (p:α),U.jay eq p (r++[y])=U.jay eq p r++(if eq y (nth (p::r) r.length)=true then[] else[y])
 |[],p=>rfl
 |z::r,p=>by
  have e:nth (p::z::r) (z::r).length=nth (z::r) r.length:=rfl
  rw[e]
  simp only[jHx,U.jay]
  split
  .exact compT_snoc y r z
  .rw[compT_snoc y r z];rfl
theorem comp_snoc (y:α) {l:List α} (h:l≠[]):U.vL eq (l++[y])=U.vL eq l++(if eq y (nth l (l.length-1))=true then[] else[y]):=by
 cases l with
 |nil=>exact absurd rfl h
 |cons x r=>
  show x::U.jay eq x (r++[y])=_;rw[compT_snoc];have:(x::r).length-1=r.length:=(by simp);rw[this];rfl
theorem comp_take {l:List α} {n:Nat} (b:1<=n) (a:n<l.length):U.vL eq (l.take (n+1))=U.vL eq (l.take n)++(if eq (nth l n) (nth l (n-1))=true then[] else[nth l n]):=by
 rw[L.take_succ a,comp_snoc]
 .have e:(l.take n).length-1=n-1:=(by rw[jHC];omega);rw[e,nth_take (by omega)]
 .intro e;have:=congrArg List.length e;rw[jHC,jHJ] at this;omega
end
theorem comp_short {α:Type} {eq:α->α->Bool} {l:List α} (h:l.length<2):U.vL eq l=l:=by
 match l,h with
 |[],_=>rfl
 |[x],_=>rfl
theorem comp_len {α:Type} {eq:α->α->Bool} (l:List α):(U.vL eq l).length<=l.length:=by
 have:∀(r:List α) (p:α),(U.jay eq p r).length<=r.length:=by
  intro r
  induction r with
  |nil=>intro p;simp[U.jay]
  |cons y r a=>
   intro p;unfold U.jay
   split
   .have:=a y;simp;omega
   .have:=a y;simp;omega
 cases l with
 |nil=>simp[U.vL]
 |cons x r=>have:=this r x;simp[U.vL];omega
theorem inv9_next {α:Type} [Inhabited α] {eq:α->α->Bool} {l r:List α} {i k:Nat} (hi:1<=i) (h:U.jta eq l i k r) (g:i+k<l.length):
 (eq (nth r (i+k)) (nth r (i+k-1))=false->U.jdG eq l (i+(k+1))=U.jdG eq l (i+k)+1/\U.jta eq l i (k+1) (r.set (U.jdG eq l (i+k)).toNat (nth r (i+k))))/\
 (eq (nth r (i+k)) (nth r (i+k-1))=true->U.jdG eq l (i+(k+1))=U.jdG eq l (i+k)/\U.jta eq l i (k+1) r):=by
 obtain⟨t,u,j,d,e,q⟩:=h;have o:nth r (i+k)=nth l (i+k):=nth_drop e (by omega);have p:nth r (i+k-1)=nth l (i+k-1):=nth_drop e (by omega);have a:=comp_take (eq:=eq) (l:=l) (n:=i+k) (by omega) g;rw[show i+k+1=i+(k+1) by omega] at a;have m:r.drop (i+k)=l.drop (i+k):=by
  have:=congrArg (List.drop 1) e;rw[List.drop_drop,List.drop_drop,show i+k-1+1=i+k by omega] at this;exact this
 rw[o,p];obtain⟨c,b⟩:∃c,c=U.vL eq (l.take (i+k)):=⟨_,rfl⟩;rw[<-b] at a d q;have s:(U.jdG eq l (i+k))=(c.length:Int):=(by unfold U.jdG;rw[<-b]);rw[s];refine⟨fun f=> ?_,fun f=> ?_⟩
 .rw[if_neg (by rw[f];simp)] at a;refine⟨by unfold U.jdG;rw[a];simp,by omega,by omega,by simpa using j,?_,?_,?_⟩
  .rw[a];simp only[jG7,jHo,jHD,jHJ];rw[List.take_add_one,List.getElem?_set_self (by omega)];rw[List.take_set_of_le (by omega),<-d];rfl
  .rw[show i+(k+1)-1=i+k by omega];simp only[jG7];rw[List.drop_set_of_lt (by omega)];exact m
  .rw[a];simp;omega
 .rw[if_pos f,jHw] at a;refine⟨by unfold U.jdG;rw[a],by omega,by omega,j,?_,?_,?_⟩
  .rw[a];exact d
  .rw[show i+(k+1)-1=i+k by omega];exact m
  .rw[a];omega
theorem compT_sub {α:Type} {eq:α->α->Bool}:∀(r:List α) (p x:α),x∈U.jay eq p r->x∈r
 |[],_,_,h=>by simp[U.jay] at h
 |y::r,p,x,h=>by
  unfold U.jay at h
  split at h
  .exact jHb _ (compT_sub r y x h)
  .rcases jG4.1 h with rfl|h
   .simp
   .exact jHb _ (compT_sub r y x h)
theorem comp_sub {α:Type} {eq:α->α->Bool} {l:List α} {x:α} (h:x∈U.vL eq l):x∈l:=by
 cases l with
 |nil=>simp[U.vL] at h
 |cons y r=>
  unfold U.vL at h;rcases jG4.1 h with rfl|h
  .simp
  .exact jHb _ (compT_sub r y x h)
theorem compT_mem {α:Type} [DecidableEq α]:∀(r:List α) (p x:α),x∈r->x=p\/x∈U.jay (fun a b=>decide (a=b)) p r
 |y::r,p,x,h=>by
  unfold U.jay
  rcases jG4.1 h with rfl|h
  .by_cases e:x=p
   .exact .inl e
   .rw[if_neg (by simpa using e)];right;simp
  .rcases compT_mem r y x h with rfl|c
   .by_cases e:x=p
    .exact .inl e
    .rw[if_neg (by simpa using e)];right;simp
   .right
    split
    .exact c
    .exact jHb _ c
theorem comp_mem {α:Type} [DecidableEq α] {l:List α} {x:α}:x∈U.vL (fun a b=>decide (a=b)) l↔x∈l:=by
 refine⟨comp_sub,fun h=> ?_⟩;cases l with
 |nil=>simp at h
 |cons y r=>
  unfold U.vL;rcases jG4.1 h with rfl|h
  .simp
  .rcases compT_mem r y x h with rfl|c
   .simp
   .exact jHb _ c
theorem comp_asc {α:Type} [DecidableEq α] {lt:α->α->Bool}:∀{l:List α},kZ lt l->jvo lt l->(U.vL (fun a b=>decide (a=b)) l).Pairwise (fun a b=>lt a b=true):=by
 have i:∀(r:List α) (p:α),kZ lt (p::r)->jvo lt (p::r)->(p::U.jay (fun a b=>decide (a=b)) p r).Pairwise (fun a b=>lt a b=true):=by
  intro r
  induction r with
  |nil=>intro p _ _;exact List.pairwise_singleton _ _
  |cons y r n=>
   intro p f j;have d:=jHS.1 j;have k:kZ lt (y::r):=f.sub (fun z c=>jHb _ c);have hi:=n y k d.2;unfold U.jay;by_cases e:y=p
   .rw[if_pos (by simpa using e)];subst e;exact hi
   .rw[if_neg (by simpa using e)];refine jHS.2 ⟨fun z c=> ?_,hi⟩;have g:lt p y=true:=by
     cases h:lt p y with
     |true=>rfl
     |false=>exact absurd (f.total p y (by simp) (by simp) h (d.1 y (by simp))).symm e
    rcases jG4.1 c with rfl|c
    .exact g
    .have m:=compT_sub r y z c;exact f.trans p y z (by simp) (by simp) (by simp[m]) g ((jHS.1 hi).1 z c)
 intro l f j;cases l with
 |nil=>exact List.Pairwise.nil
 |cons p r=>exact i r p f j
theorem asc_nodup {α:Type} {lt:α->α->Bool} {l:List α} (hi:∀x,lt x x=false) (h:l.Pairwise (fun a b=>lt a b=true)):l.Nodup:=
 h.imp (fun{a b} h e=>by subst e;rw[hi] at h;cases h)
theorem filter_take {α:Type} [Inhabited α] {p:α->Bool} {l:List α} {i:Nat} (h:i<l.length):(l.take (i+1)).filter p=(l.take i).filter p++(if p (nth l i)=true then[nth l i] else[]):=by
 rw[take_succ h,List.filter_append];congr 1;by_cases e:p (nth l i)=true<;>simp[e]
theorem range_filter_succ {p:Nat->Bool} {n:Nat}:(List.range (n+1)).filter p=(List.range n).filter p++(if p n=true then[n] else[]):=by
 rw[jHq,List.filter_append];congr 1;by_cases e:p n=true<;>simp[e]
end L
end Go.X
namespace Go.X
abbrev tSp:Ty:= .st [.int,.int]
abbrev tPe:Ty:= .st [.slice .int,.int,.int,.slice .int,.bool,.int]
abbrev tLw:Ty:= .st [.int,.int,.bool]
abbrev tCr:Ty:= .st [.int,.slice tPe,.slice tLw]
abbrev tJb:Ty:= .st [.int,.int,.int,.int,.int,.int]
abbrev tBk:Ty:= .st [tJb,.int,.int,.int]
abbrev tSh:Ty:= .st [.int,.int,.int,.int,.int]
abbrev tDy:Ty:= .st [tCr,.slice (.slice tSp),.slice tBk,.int,.int,.slice tSh]
abbrev SpD:Type:=Int×Int×Unit
abbrev PeD:Type:=List Int×Int×Int×List Int×Bool×Int×Unit
abbrev LwD:Type:=Int×Int×Bool×Unit
abbrev CrD:Type:=Int×List PeD×List LwD×Unit
abbrev JbD:Type:=Int×Int×Int×Int×Int×Int×Unit
abbrev BkD:Type:=JbD×Int×Int×Int×Unit
abbrev ShD:Type:=Int×Int×Int×Int×Int×Unit
abbrev DyD:Type:=CrD×List (List SpD)×List BkD×Int×Int×List ShD×Unit
namespace U
def lo (s:SpD):Int:=s.1
def hi (s:SpD):Int:=s.2.1
def ja (n a b:Int):Bool:=decide (a<=n)&&decide (n<=b)
def lv (p:PeD):List Int:=p.1
def fd (p:PeD):Int:=p.2.1
def cl (p:PeD):Int:=p.2.2.1
def zR (p:PeD):List Int:=p.2.2.2.1
def jEC (p:PeD):Bool:=p.2.2.2.2.1
def fe (p:PeD):Int:=p.2.2.2.2.2.1
def jxu (l:LwD):Int:=l.1
def jEe (l:LwD):Int:=l.2.1
def jGe (l:LwD):Bool:=l.2.2.1
def la (c:CrD):Int:=c.1
def je (c:CrD):List PeD:=c.2.1
def wk (c:CrD):List LwD:=c.2.2.1
def jrx (j:JbD):Int:=j.1
def jmC (j:JbD):Int:=j.2.1
def jAZ (j:JbD):Int:=j.2.2.1
def js7 (j:JbD):Int:=j.2.2.2.1
def jrw (j:JbD):Int:=j.2.2.2.2.1
def jBS (j:JbD):Int:=j.2.2.2.2.2.1
def yJ (b:BkD):JbD:=b.1
def jxd (b:BkD):Int:=b.2.1
def jbg (b:BkD):Int:=b.2.2.1
def jrh (b:BkD):Int:=b.2.2.2.1
def wo (s:ShD):Int:=s.1
def jjq (s:ShD):Int:=s.2.1
def jyd (s:ShD):Int:=s.2.2.1
def jdq (s:ShD):Int:=s.2.2.2.1
def qE (s:ShD):Int:=s.2.2.2.2.1
def jb (d:DyD):CrD:=d.1
def jL (d:DyD):List (List SpD):=d.2.1
def jq (d:DyD):List BkD:=d.2.2.1
def jej (d:DyD):Int:=d.2.2.2.1
def jxv (d:DyD):Int:=d.2.2.2.2.1
def zc (d:DyD):List ShD:=d.2.2.2.2.2.1
def j8 (d:DyD) (l:List ShD):DyD:=(jb d,jL d,jq d,jej d,jxv d,l,())
def gy (L:Int) (p:PeD):Bool:=decide (((lv p).length:Int)=L/\0<=fd p/\fd p<=255/\0<=cl p/\cl p<=255/\(zR p).length<=10/\0<=fe p/\fe p<=1000)&&((lv p).all (fun n=>ja n 0 5)&&(zR p).all (fun n=>ja n 0 99))
def jah (l:LwD):Bool:=ja (jxu l) 1 5&&ja (jEe l) 1 8
def jl (c:CrD):Bool:=decide (2<=la c/\la c<=5/\(je c).length<=8/\(wk c).length=4)&&((je c).all (gy (la c))&&(wk c).all jah)
def jW (c:CrD) (j:JbD):Bool:=decide (0<=jrx j/\jrx j<=la c-1/\0<=jmC j/\jmC j<=la c-1/\jrx j≠jmC j/\0<=jAZ j/\jAZ j<=99/\0<=js7 j/\js7 j<=7/\0<=jrw j/\jrw j<=3/\1<=jBS j/\jBS j<=8)
def kj (c:CrD) (j:JbD):Int:=if jl c=false then 30 else if jW c j=false then 31 else 0
def jfP (s:SpD):Bool:=decide (0<=lo s/\lo s<=hi s/\hi s<=300)
def vR (n:Nat) (r:List SpD):Bool:=decide (r.length=n)&&r.all jfP
def jco (n:Nat) (b:BkD):Bool:=decide (0<=jxd b/\jxd b<=(n:Int)-1/\0<=jbg b/\jbg b<jrh b/\jrh b<=1440)
def jaf (nb a:Nat) (s:ShD):Bool:=decide (0<=wo s/\wo s<=99/\0<=jjq s/\jjq s<=9999/\1<=jyd s/\jyd s<=2/\0<=jdq s/\jdq s<=(nb:Int)-1/\0<=qE s/\qE s<=(a:Int)-1)
def zL (d:DyD):Bool:=decide ((jq d).length<=4/\1<=(jL d).length/\(jL d).length<=5/\0<=jej d/\jej d<=300/\0<=jxv d/\jxv d<=1440/\(zc d).length<=30)&&
 ((jL d).all (vR (jL d).length)&&((jq d).all (jco (jL d).length)&&(zc d).all (jaf (jq d).length (je (jb d)).length)))
def jk2 (a b:ShD):Bool:=decide (wo a=wo b)&& !decide (a=b)
def jiW (l:List ShD) (i:Nat):Bool:=(l.take i).any (jk2 (nth l i))
def qv (l:List ShD) (n:Nat):Bool:=(List.range n).any (jiW l)
def vU (l:List ShD):Bool:=qv l l.length
def jwq (d:DyD):Bool:=(jq d).all (fun b=>jW (jb d) (yJ b))
def w5 (d:DyD):Int:=if jl (jb d)=false then 30 else if jwq d=false then 31 else if zL d=false then 50 else if vU (zc d)=true then 51 else 0
def jow (l:List ShD) (i:Nat):Bool:= !((l.take i).any (fun x=>decide (x=nth l i)))
def jCF (l:List ShD) (n m:Nat):List ShD:=((List.range n).filter (fun i=>decide (wo (nth l i)=(m:Int))&&jow l i)).map (nth l)
def jAi (l:List ShD) (n:Nat):List ShD:=(List.range n).flatMap (jCF l l.length)
def jiC (l:List ShD):List ShD:=jAi l 100
def yf (p:PeD) (a:Int):Bool:=(zR p).any (fun t=>decide (t=a))
def jH (s n:Int):Bool:=decide (qH (s/2^n.toNat) 1=1)
def zw (c:CrD) (j:JbD) (p:Int):Bool:= !(yf (nth (je c) p.toNat) (jAZ j))&&jH (fd (nth (je c) p.toNat)) (js7 j)&&jH (cl (nth (je c) p.toNat)) (jrw j)
def bk (d:DyD) (b:Int):BkD:=nth (jq d) b.toNat
def jtz (d:DyD) (a b:Int):Int:=hi (nth (nth (jL d) (jxd (bk d a)).toNat) (jxd (bk d b)).toNat)
def qm (d:DyD) (a b:Int):Bool:=decide (jbg (bk d a)<jbg (bk d b)\/(jbg (bk d a)=jbg (bk d b)/\a<b))
def vb (d:DyD) (a b:Int):Int:=jbg (bk d b)-jrh (bk d a)-jej d-jtz d a b
def jS (d:DyD) (a b:Int):Bool:=if qm d b a=true then decide (0<=vb d b a) else decide (0<=vb d a b)
def jn8 (d:DyD) (l:List Int):Int:=(l.map (fun b=>jrh (bk d b)-jbg (bk d b))).foldl (·+·) 0
def jC6 (d:DyD) (l:List Int):Bool:=(List.range l.length).all (fun i=>(l.take i).all (fun b=>jS d (nth l i) b))
def ke (d:DyD) (p:Int) (l:List Int):Bool:=l.all (fun b=>zw (jb d) (yJ (bk d b)) p)&&(jC6 d l&&decide (jn8 d l<=jxv d))
def wJ (a b:ShD):Bool:=decide (jjq b<jjq a\/(jjq a=jjq b/\wo b<wo a))
def jiU (l:List ShD) (s:ShD):Bool:=decide (jyd s=1)&& !(l.any (fun t=>decide (jdq t=jdq s)&&decide (qE t=qE s)&&wJ t s))
def jAC (a b:ShD):Bool:=wJ b a
def jdt (t:List Int) (p:Int) (n:Nat):List Int:=((List.range n).filter (fun b=>jH (nth t b) p)).map (fun(b:Nat)=>(b:Int))
def on (t:List Int) (p:Int):List Int:=jdt t p t.length
def jcS (d:DyD) (x:List Int×List Int) (s:ShD):List Int×List Int:=
 if ke d (qE s) (on x.1 (qE s)++[jdq s])=true then(x.1.set (jdq s).toNat (nth x.1 (jdq s).toNat+2^(qE s).toNat),x.2) else(x.1,x.2++[wo s])
def jby (c:CrD) (t:Int) (d a b:Int):Bool:=(List.range (je c).length).any (fun i=>jH t (i:Int)&&decide (d<=nth (lv (nth (je c) i)) a.toNat)&&decide (d<=nth (lv (nth (je c) i)) b.toNat))
def yP (c:CrD) (j:JbD):LwD:=nth (wk c) (jrw j).toNat
end U
end Go.X
namespace Go.X
inductive Rch (J:Nat->Nat->Bool) (n s:Nat):Nat->Prop where
 |base:Rch J n s s
 |step {a b:Nat}:Rch J n s a->b<n->J a b=true->Rch J n s b
theorem Rch.lt {J:Nat->Nat->Bool} {n s t:Nat} (a:s<n) (h:Rch J n s t):t<n:=by
 cases h with
 |base=>exact a
 |step _ h _=>exact h
theorem Rch.trans {J:Nat->Nat->Bool} {n s t u:Nat} (a:Rch J n s t) (b:Rch J n t u):Rch J n s u:=by
 induction b with
 |base=>exact a
 |step _ c d e=>exact .step e c d
theorem Rch.symm {J:Nat->Nat->Bool} {n s t:Nat} (c:∀a b,J a b=J b a) (f:s<n) (h:Rch J n s t):Rch J n t s:=by
 induction h with
 |base=>exact .base
 |step d i e g=>
  rename_i a b;have:Rch J n b a:= .step .base (d.lt f) (by rw[c];exact e);exact this.trans g
theorem Rch.closed {J:Nat->Nat->Bool} {n s t:Nat} {S:Nat->Prop} (i:s<n) (c:S s) (f:∀a b,a<n->S a->b<n->J a b=true->S b) (h:Rch J n s t):S t:=by
 induction h with
 |base=>exact c
 |step d e g j=>exact f _ _ (d.lt i) j e g
namespace U
def jda (J:Nat->Nat->Bool) (r a:Nat) (out:List Int) (b:Nat):List Int:=if nth out a=(r:Int)/\nth out b<0/\J a b=true then out.set b ((r:Int)+1) else out
def kX (J:Nat->Nat->Bool) (r a:Nat) (out:List Int) (k:Nat):List Int:=(List.range k).foldl (jda J r a) out
def kF (J:Nat->Nat->Bool) (n r:Nat) (out:List Int) (k:Nat):List Int:=(List.range k).foldl (fun o a=>kX J r a o n) out
def wA (n s:Nat):List Int:=(List.replicate n (-1:Int)).set s 0
def zy (J:Nat->Nat->Bool) (n s k:Nat):List Int:=(List.range k).foldl (fun o r=>kF J n r o n) (wA n s)
def jgr (J:Nat->Nat->Bool) (q:Nat) (x:List Int×List Int) (b:Nat):List Int×List Int:=if nth x.1 b<0/\J q b=true then(x.1.set b (nth x.1 q+1),x.2++[(b:Int)]) else x
def jgs (J:Nat->Nat->Bool) (q:Nat) (x:List Int×List Int) (k:Nat):List Int×List Int:=(List.range k).foldl (jgr J q) x
def qx (J:Nat->Nat->Bool) (n:Nat) (x:List Int×List Int):List Int×List Int:=match x.2 with
 |[]=>x
 |q::_=>((jgs J q.toNat x n).1,(jgs J q.toNat x n).2.drop 1)
def qN (J:Nat->Nat->Bool) (n s:Nat):Nat->List Int×List Int
 |0=>(wA n s,[(s:Int)])
 |k+1=>qx J n (qN J n s k)
def jF2 (J:Nat->Nat->Bool) (n s:Nat):List Int:=(qN J n s (n+1)).1
end U
theorem jeL (n s:Nat):(U.wA n s).length=n:=by unfold U.wA;simp
theorem jkP {n s x:Nat} (a:s<n) (b:x<n):nth (U.wA n s) x=if s=x then 0 else-1:=by
 unfold U.wA;rw[L.nth_set (by simpa using a),L.nth_rep b]
structure jxz (J:Nat->Nat->Bool) (n s r a b:Nat) (out:List Int):Prop where
 len:out.length=n
 val:∀x,x<n->nth out x= -1\/(0<=nth out x/\nth out x<=(r:Int)+1)
 top:(a=0/\b=0)->∀x,x<n->nth out x<=(r:Int)
 zero:0<=nth out s
 rch:∀x,x<n->0<=nth out x->Rch J n s x
 lev:∀x,x<n->0<nth out x->∃y,y<n/\nth out y=nth out x-1
 cls:∀x y,x<n->y<n->0<=nth out x->(nth out x<(r:Int)\/(nth out x=(r:Int)/\(x<a\/(x=a/\y<b))))->J x y=true->0<=nth out y
theorem jz3 {J:Nat->Nat->Bool} {n s r a b:Nat} {out:List Int} (B:s<n) (t:a<n) (u:b<n) (h:jxz J n s r a b out):jxz J n s r a (b+1) (U.jda J r a out b):=by
 unfold U.jda
 split
 .rename_i q;obtain⟨c1,c2,v⟩:=q;have p:b<out.length:=(by rw[h.len];exact u);have c:∀j,nth (out.set b ((r:Int)+1)) j=if b=j then(r:Int)+1 else nth out j:=fun j=>L.nth_set p
  have o:b≠a:=fun e=>by subst e;omega
  refine⟨by simpa using h.len,fun x g=> ?_,fun e=>by omega,?_,fun x g f=> ?_,fun x g f=> ?_,fun x y g k f d l=> ?_⟩
  .rw[c];split
   .right;omega
   .exact h.val x g
  .rw[c];split
   .omega
   .exact h.zero
  .rw[c] at f
   split at f
   .rename_i e;subst e;exact .step (h.rch a t (by omega)) u v
   .exact h.rch x g f
  .rw[c] at f⊢
   split at f
   .rename_i e;subst e;rw[if_pos rfl];exact⟨a,t,by rw[c,if_neg o];omega⟩
   .rename_i e;rw[if_neg e];obtain⟨y,k,w⟩:=h.lev x g f;refine⟨y,k,?_⟩;rw[c,if_neg (fun e=>by subst e;omega)];exact w
  .rw[c] at f d⊢
   split
   .omega
   .rename_i A
    split at f
    .rename_i e;rw[if_pos e] at d;omega
    .rename_i e;rw[if_neg e] at d;refine h.cls x y g k f ?_ l;rcases d with d|⟨d,i|⟨i,z⟩⟩
     .exact .inl d
     .exact .inr ⟨d,.inl i⟩
     .exact .inr ⟨d,.inr ⟨i,by omega⟩⟩
 .rename_i q;refine⟨h.len,h.val,fun e=>by omega,h.zero,h.rch,h.lev,fun x y g k f d l=> ?_⟩;rcases d with d|⟨d,i|⟨i,z⟩⟩
  .exact h.cls x y g k f (.inl d) l
  .exact h.cls x y g k f (.inr ⟨d,.inl i⟩) l
  .by_cases e:y=b
   .subst e;subst i;rcases Int.lt_or_le (nth out y) 0 with m|m
    .exact absurd ⟨d,m,l⟩ q
    .exact m
   .exact h.cls x y g k f (.inr ⟨d,.inr ⟨i,by omega⟩⟩) l
theorem jDh {J:Nat->Nat->Bool} {n s r a:Nat} {out:List Int} (c:s<n) (b:a<n) (h:jxz J n s r a 0 out):∀k,k<=n->jxz J n s r a k (U.kX J r a out k)
 |0,_=>h
 |k+1,hk=>by
  have:=jz3 c b (show k<n by omega) (jDh c b h k (by omega))
  unfold U.kX at this⊢
  rw[jHq,jHk];exact this
theorem jEx {J:Nat->Nat->Bool} {n s r a:Nat} {out:List Int} (k:0<n) (h:jxz J n s r a n out):jxz J n s r (a+1) 0 out:=by
 refine⟨h.len,h.val,fun e=>by omega,h.zero,h.rch,h.lev,fun x y i c d b g=>h.cls x y i c d ?_ g⟩;rcases b with b|⟨b,f|⟨f,j⟩⟩
 .exact .inl b
 .by_cases e:x=a
  .exact .inr ⟨b,.inr ⟨e,c⟩⟩
  .exact .inr ⟨b,.inl (by omega)⟩
 .omega
theorem jDi {J:Nat->Nat->Bool} {n s r:Nat} {out:List Int} (a:s<n) (h:jxz J n s r 0 0 out):∀k,k<=n->jxz J n s r k 0 (U.kF J n r out k)
 |0,_=>h
 |k+1,hk=>by
  have:=jEx (by omega) (jDh a (show k<n by omega) (jDi a h k (by omega)) n (jG5 _))
  unfold U.kF at this⊢
  rw[jHq,jHk];exact this
theorem jEw {J:Nat->Nat->Bool} {n s r:Nat} {out:List Int} (h:jxz J n s r n 0 out):jxz J n s (r+1) 0 0 out:=by
 refine⟨h.len,fun x a=> ?_,fun _ x a=> ?_,h.zero,h.rch,h.lev,fun x y a j f b i=>h.cls x y a j f ?_ i⟩
 .rcases h.val x a with e|⟨c,d⟩
  .exact .inl e
  .exact .inr ⟨c,by omega⟩
 .rcases h.val x a with e|⟨c,d⟩<;>omega
 .rcases b with b|⟨b,g|⟨g,k⟩⟩
  .by_cases e:nth out x=(r:Int)
   .exact .inr ⟨e,.inl a⟩
   .exact .inl (by omega)
  .omega
  .omega
theorem jDg {J:Nat->Nat->Bool} {n s:Nat} (c:s<n):∀k,jxz J n s k 0 0 (U.zy J n s k)
 |0=>by
  have hi:∀x,x<n->nth (U.zy J n s 0) x=if s=x then 0 else-1:=fun x a=>jkP c a
  refine⟨jeL n s,fun x a=> ?_,fun _ x a=> ?_,by rw[hi s c,if_pos rfl];omega,fun x a b=> ?_,fun x a b=> ?_,fun x y a g b f d=> ?_⟩
  .rw[hi x a];split<;>simp
  .rw[hi x a];split<;>simp
  .rw[hi x a] at b
   split at b
   .rename_i e;subst e;exact .base
   .omega
  .rw[hi x a] at b;split at b<;>omega
  .omega
 |k+1=>by
  have:=jEw (jDi c (jDg (J:=J) c k) n (jG5 _))
  unfold U.zy at this⊢
  rw[jHq,jHk];exact this
theorem jzm {J:Nat->Nat->Bool} {n s r a b:Nat} {out:List Int} (h:jxz J n s r a b out):∀(k:Nat) x,x<n->nth out x=(k:Int)->∀j,j<=k->∃y,y<n/\nth out y=(j:Int)
 |0,x,c,e,j,f=>⟨x,c,by rw[e];omega⟩
 |k+1,x,c,e,j,f=>by
  by_cases g:j=k+1
  .exact⟨x,c,by rw[e];omega⟩
  .obtain⟨y,i,d⟩:=h.lev x c (by omega)
   exact jzm h k y i (by rw[d];omega) j (by omega)
theorem jFQ {J:Nat->Nat->Bool} {n s x:Nat} (o:s<n) (u:x<n):nth (U.zy J n s n) x<0↔¬Rch J n s x:=by
 have h:=jDg (J:=J) o n;have i:∀y,y<n->nth (U.zy J n s n) y<(n:Int):=by
  intro y p;have c:=h.top ⟨rfl,rfl⟩ y p;rcases Int.lt_or_le (nth (U.zy J n s n) y) (n:Int) with l|l
  .exact l
  .exfalso;have e:nth (U.zy J n s n) y=(n:Int):=(by omega);have d:=jzm h n y p e;have:=L.nodup_len ((List.range (n+1)).map (fun(j:Nat)=>(j:Int))) (U.zy J n s n) (List.Pairwise.map _ (fun a b f=>by intro A;exact f (by omega)) List.nodup_range) (fun z v=>by
    obtain⟨j,g,rfl⟩:=jHy.1 v;obtain⟨w,t,q⟩:=d j (by have:=jHj.1 g;omega);rw[<-q];exact L.mem_nth (by rw[h.len];exact t))
   rw[h.len] at this;simp at this;omega
 constructor
 .intro B k;have:=k.closed (S:=fun y=>0<=nth (U.zy J n s n) y) o h.zero (fun a b m c r g=>h.cls a b m r c (.inl (i a m)) g);have this:0<=nth (U.zy J n s n) x:=this;omega
 .intro k;rcases Int.lt_or_le (nth (U.zy J n s n) x) 0 with c|c
  .exact c
  .exact absurd (h.rch x u c) k
def jql (out:List Int):Nat:=out.countP (fun z=>decide (z<0))
theorem jn6:∀{out:List Int} {b:Nat} {v:Int},b<out.length->nth out b<0->0<=v->jql (out.set b v)+1=jql out
 |[],b,v,h,_,_=>by simp at h
 |z::r,0,v,_,a,h2=>by
  have a:z<0:=a
  unfold jql
  rw[List.set_cons_zero,jIu,jIu,if_neg (by simpa using h2),if_pos (by simpa using a)]
 |z::r,b+1,v,h,a,h2=>by
  have:=jn6 (out:=r) (b:=b) (v:=v) (by simpa using h) a h2
  unfold jql at this⊢
  rw[List.set_cons_succ,jIu,jIu]
  omega
structure jGH (J:Nat->Nat->Bool) (n s:Nat) (ex:Nat->Nat->Prop) (x:List Int×List Int):Prop where
 len:x.1.length=n
 low:∀y,y<n->-1<=nth x.1 y/\nth x.1 y<=(n:Int)*2
 zero:0<=nth x.1 s
 rch:∀y,y<n->0<=nth x.1 y->Rch J n s y
 que:∀q,q∈x.2->0<=q/\q<(n:Int)/\0<=nth x.1 q.toNat
 cls:∀y z,y<n->z<n->0<=nth x.1 y->(y:Int)∉x.2\/ex y z->J y z=true->0<=nth x.1 z
def jrZ (n:Nat) (x:List Int×List Int):Prop:=∀y,y<n->nth x.1 y+(jql x.1:Int)<=(n:Int)-1
theorem jmZ (J:Nat->Nat->Bool) (q:Nat) (x:List Int×List Int) (k:Nat):U.jgs J q x (k+1)=U.jgr J q (U.jgs J q x k) k:=by
 unfold U.jgs;rw[jHq,jHk];rfl
structure InI (J:Nat->Nat->Bool) (n s q k:Nat) (x0 x:List Int×List Int):Prop where
 i:jGH J n s (fun y z=>y=q/\z<k) x
 le:jrZ n x
 mu:jql x.1+x.2.length=jql x0.1+x0.2.length
 pre:∃l,x.2=x0.2++l
 keep:∀y,y<n->0<=nth x0.1 y->nth x.1 y=nth x0.1 y
theorem jEk {J:Nat->Nat->Bool} {n s q k:Nat} {x0 x:List Int×List Int} (M:s<n) (p:q<n) (w:0<=nth x0.1 q) (hk:k<n) (h:InI J n s q k x0 x):InI J n s q (k+1) x0 (U.jgr J q x k):=by
 have G:nth x.1 q=nth x0.1 q:=h.keep q p w;unfold U.jgr
 split
 .rename_i t;obtain⟨c1,c2⟩:=t;have m:k<x.1.length:=(by rw[h.i.len];exact hk);have b:∀j,nth (x.1.set k (nth x.1 q+1)) j=if k=j then nth x.1 q+1 else nth x.1 j:=fun j=>L.nth_set m
  have E:=jn6 (v:=nth x.1 q+1) m c1 (by omega);have F:=h.le q p;have u:k≠q:=fun e=>by subst e;omega
  obtain⟨l,C⟩:=h.pre;refine⟨⟨by simpa using h.i.len,fun y d=> ?_,?_,fun y d c=> ?_,fun z f=> ?_,fun y z d f c a g=> ?_⟩,fun y d=> ?_,?_,⟨l++[(k:Int)],by simp only[C,jHn]⟩,fun y d c=> ?_⟩
  .simp only;rw[b];split
   .have:=h.i.low q p;omega
   .exact h.i.low y d
  .simp only;rw[b];split
   .omega
   .exact h.i.zero
  .simp only at c⊢;rw[b] at c
   split at c
   .rename_i e;subst e;exact .step (h.i.rch q p (by omega)) hk c2
   .exact h.i.rch y d c
  .simp only at f⊢;rcases jHa.1 f with f|f
   .obtain⟨H,I,K⟩:=h.i.que z f;refine⟨H,I,?_⟩;rw[b];split
    .omega
    .exact K
   .simp at f;subst f;refine⟨by omega,by omega,?_⟩;rw[jG7,b,if_pos rfl];omega
  .simp only at c a⊢;rw[b] at c⊢
   split
   .omega
   .rename_i B;by_cases e:k=y
    .subst e;rcases a with a|⟨a,_⟩
     .exact absurd (jG1 _ (by simp)) a
     .exact absurd a u
    .rw[if_neg e] at c;refine h.i.cls y z d f c ?_ g;rcases a with a|⟨o,A⟩
     .exact .inl (fun D=>a (jG2 _ D))
     .exact .inr ⟨o,by omega⟩
  .simp only;rw[b];split
   .omega
   .have:=h.le y d;omega
  .have:=h.mu;simp only[jHo,jHD,jHJ];omega
  .have:=h.keep y d c;simp only;rw[b,if_neg (fun e=>by subst e;omega)];exact this
 .rename_i t;refine⟨⟨h.i.len,h.i.low,h.i.zero,h.i.rch,h.i.que,fun y z d f c a g=> ?_⟩,h.le,h.mu,h.pre,h.keep⟩;rcases a with a|⟨o,A⟩
  .exact h.i.cls y z d f c (.inl a) g
  .by_cases e:z=k
   .subst e;subst o;rcases Int.lt_or_le (nth x.1 z) 0 with r|r
    .exact absurd ⟨r,g⟩ t
    .exact r
   .exact h.i.cls y z d f c (.inr ⟨o,by omega⟩) g
theorem jzA {J:Nat->Nat->Bool} {n s q:Nat} {x:List Int×List Int} (e:s<n) (d:q<n) (b:0<=nth x.1 q) (hi:jGH J n s (fun _ _=>False) x) (a:jrZ n x):∀k,k<=n->InI J n s q k x (U.jgs J q x k)
 |0,_=>⟨⟨hi.len,hi.low,hi.zero,hi.rch,hi.que,fun y z i j f c g=>hi.cls y z i j f (by rcases c with h|⟨_,h⟩;exact .inl h;omega) g⟩,a,rfl,⟨[],by simp[U.jgs]⟩,fun _ _ _=>rfl⟩
 |k+1,hk=>by rw[jmZ];exact jEk e d b (by omega) (jzA e d b hi a k (by omega))
structure jFa (J:Nat->Nat->Bool) (n s:Nat) (x:List Int×List Int):Prop where
 i:jGH J n s (fun _ _=>False) x
 le:jrZ n x
theorem jBn {J:Nat->Nat->Bool} {n s:Nat} {x:List Int×List Int} (m:s<n) (h:jFa J n s x):jFa J n s (U.qx J n x)/\(x.2≠[]->jql (U.qx J n x).1+(U.qx J n x).2.length+1=jql x.1+x.2.length):=by
 obtain⟨st,p⟩:=x;cases p with
 |nil=>exact⟨h,fun h=>absurd rfl h⟩
 |cons q r=>
  obtain⟨t,u,o⟩:=h.i.que q (by simp);have hi:=jzA m (q:=q.toNat) (by omega) o h.i h.le n (jG5 _);obtain⟨l,d⟩:=hi.pre;have f:(U.qx J n (st,q::r))=((U.jgs J q.toNat (st,q::r) n).1,r++l):=by
   show((U.jgs J q.toNat (st,q::r) n).1,(U.jgs J q.toNat (st,q::r) n).2.drop 1)=_;rw[d];rfl
  rw[f];have b:=hi.mu;rw[d] at b;refine⟨⟨⟨hi.i.len,hi.i.low,hi.i.zero,hi.i.rch,fun z c=>hi.i.que z (by rw[d];simp only at c⊢;exact jHb _ c),fun y z k c g a j=> ?_⟩,hi.le⟩,fun _=> ?_⟩
  .rcases a with a|a
   .by_cases e:y=q.toNat
    .exact hi.i.cls y z k c g (.inr ⟨e,c⟩) j
    .refine hi.i.cls y z k c g (.inl ?_) j;rw[d];intro b;rcases jG4.1 b with f|b
     .omega
     .exact a b
   .exact a.elim
  .simp only[jHx,jHD] at b⊢;omega
theorem jus {J:Nat->Nat->Bool} {n s:Nat} (f:s<n):jFa J n s (U.qN J n s 0)/\jql (U.qN J n s 0).1+(U.qN J n s 0).2.length=n:=by
 have hi:∀x,x<n->nth (U.wA n s) x=if s=x then 0 else-1:=fun x i=>jkP f i
 have h:jql (U.wA n s)+1=n:=by
  have:=jn6 (out:=List.replicate n (-1:Int)) (b:=s) (v:=0) (by simpa using f) (by rw[L.nth_rep f];decide) (by decide);unfold U.wA;rw[this];unfold jql;rw[List.countP_replicate];simp
 refine⟨⟨⟨jeL n s,fun y d=> ?_,?_,fun y d c=> ?_,fun q g=> ?_,fun y z d k c a j=> ?_⟩,fun y d=> ?_⟩,?_⟩
 .show-1<=nth (U.wA n s) y/\_;rw[show nth (U.qN J n s 0).1 y=_ from hi y d,hi y d];split<;>omega
 .show 0<=nth (U.wA n s) s;rw[hi s f,if_pos rfl];omega
 .have c:0<=nth (U.wA n s) y:=c;rw[hi y d] at c
  split at c
  .rename_i e;subst e;exact .base
  .omega
 .have g:q∈[(s:Int)]:=g;simp at g;subst g;refine⟨by omega,by omega,?_⟩;show 0<=nth (U.wA n s) (s:Int).toNat;rw[jG7,hi s f,if_pos rfl];omega
 .have c:0<=nth (U.wA n s) y:=c;rw[hi y d] at c
  split at c
  .rename_i e;subst e;rcases a with a|a
   .exact absurd (show(s:Int)∈[(s:Int)] by simp) a
   .exact a.elim
  .omega
 .show nth (U.wA n s) y+(jql (U.wA n s):Int)<=(n:Int)-1;rw[hi y d];split<;>omega
 .show jql (U.wA n s)+1=n;exact h
theorem jjG {J:Nat->Nat->Bool} {n s:Nat} (b:s<n):∀k,jFa J n s (U.qN J n s k)/\((U.qN J n s k).2=[]\/jql (U.qN J n s k).1+(U.qN J n s k).2.length+k=n)
 |0=>⟨(jus b).1,.inr (jus b).2⟩
 |k+1=>by
  obtain⟨d,a⟩:=jjG b k
  obtain⟨f,g⟩:=jBn b d
  refine⟨f,?_⟩
  by_cases e:(U.qN J n s k).2=[]
  .left
   show(U.qx J n (U.qN J n s k)).2=[]
   unfold U.qx
   split
   .exact e
   .rename_i c;rw[e] at c;cases c
  .right
   have:=g e
   rcases a with a|a
   .exact absurd a e
   .show jql (U.qx J n (U.qN J n s k)).1+(U.qx J n (U.qN J n s k)).2.length+(k+1)=n
    omega
theorem jER {J:Nat->Nat->Bool} {n s:Nat} (a:s<n):(U.qN J n s (n+1)).2=[]:=by
 rcases(jjG (J:=J) a (n+1)).2 with h|h
 .exact h
 .omega
theorem jCD {J:Nat->Nat->Bool} {n s k:Nat} (h:(U.qN J n s k).2=[]):∀m,k<=m->U.qN J n s m=U.qN J n s k:=by
 intro m d
 induction m with
 |zero=>have:k=0:=by omega
        subst this;rfl
 |succ m c=>
  by_cases e:k=m+1
  .rw[e]
  .have b:=c (by omega);show U.qx J n (U.qN J n s m)=_;rw[b];unfold U.qx
   split
   .rfl
   .rename_i a;rw[h] at a;cases a
theorem jF1 {J:Nat->Nat->Bool} {n s x:Nat} (e:s<n) (l:x<n):nth (U.jF2 J n s) x<0↔¬Rch J n s x:=by
 have h:=(jjG (J:=J) e (n+1)).1;have j:=jER (J:=J) e;constructor
 .intro m d;have:=d.closed (S:=fun y=>0<=nth (U.jF2 J n s) y) e h.i.zero (fun a b f c g k=>h.i.cls a b f g c (.inl (by rw[j];simp)) k);have this:0<=nth (U.jF2 J n s) x:=this;omega
 .intro d;rcases Int.lt_or_le (nth (U.jF2 J n s) x) 0 with c|c
  .exact c
  .exact absurd (h.i.rch x l c) d
theorem jEv {J:Nat->Nat->Bool} {n a b:Nat} (e:∀x y,J x y=J y x) (c:a<n) (d:b<n):nth (U.zy J n a n) b<0↔nth (U.jF2 J n b) a<0:=by
 rw[jFQ c d,jF1 d c];exact not_congr ⟨fun h=>h.symm e c,fun h=>h.symm e d⟩
end Go.X
namespace Go.X
namespace U
def jaH {α:Type} (p:α->Bool) (l:List α):Int:=match l.findIdx? p with|some i=>(i:Int)|none=> -1
def jc {α:Type} (F:α×Unit->Bool×Unit) (g:α):Bool:=(F (g,())).1
end U
def gfb (t:Ty) (σ:St) (s:Nat):(Ty.st [t]).Data->(Ty.st [.bool]).Data:=gfn [t] [.bool] σ s
theorem w4:∀(l:List Prop) {k:Prop},U.jG l->k->asks l k
 |[],_,_,hk=>hk
 |_::r,_,h,hk=>⟨h.1,w4 r h.2 hk⟩
theorem qk {α:Type} [Inhabited α] {l:List α} {p:α->Bool} {i:Nat} (h:i<l.length) (a:∀b:Nat,b<i->p (nth l b)=false) (c:p (nth l i)=true):U.jaH p l=i:=by
 have:l.findIdx? p=some i:=by
  rw[List.findIdx?_eq_some_iff_getElem];refine⟨h,by rw[<-L.nth_lt h];exact c,fun j d=> ?_⟩;have:=a j d;rw[L.nth_lt (by omega)] at this;simp[this]
 unfold U.jaH;rw[this]
theorem wa {α:Type} [Inhabited α] {l:List α} {p:α->Bool} {i:Nat} (h:l.length<=i) (a:∀b:Nat,b<i->p (nth l b)=false):U.jaH p l= -1:=by
 have:l.findIdx? p=none:=by
  rw[List.findIdx?_eq_none_iff];intro x c;obtain⟨k,hk,rfl⟩:=L.mem_iff.1 c;exact a k (by omega)
 unfold U.jaH;rw[this]
theorem jcz {α:Type} (p:α->Bool) (l:List α):decide (0<=U.jaH p l)=l.any p:=by
 rw[jHs];unfold U.jaH;simp only[decide_eq_true_eq]
 split
 .rename_i i e;rw[List.findIdx?_eq_some_iff_getElem] at e;obtain⟨h,a,_⟩:=e;exact⟨fun _=>jHF.2 ⟨_,List.getElem_mem h,a⟩,fun _=>by omega⟩
 .rename_i e;rw[List.findIdx?_eq_none_iff] at e;refine⟨fun h=>by omega,fun h=> ?_⟩;obtain⟨x,b,a⟩:=jHF.1 h;have:=e x b;exact absurd (a.symm.trans this) (by simp)
theorem jj6 {α:Type} (F:α×Unit->Bool×Unit) (l:List α):(!l.any (U.jc fun(x:α×Unit)=>(!U.jc F x.fst,())))=l.all (U.jc F):=by
 induction l with
 |nil=>rfl
 |cons a r b=>
  simp only[List.any_cons,List.all_cons,Bool.not_or,b];have:(!U.jc (fun(x:α×Unit)=>(!U.jc F x.fst,())) a)=U.jc F a:=by
   show(!(!U.jc F a))=_;rw[Bool.not_not]
  rw[this]
end Go.X
namespace Go.X
open Go.Proofs
namespace U
def jf1 (s n:Int):Bool:=decide (wY (s/2^n.toNat) 1=1)
def jE6 (b:Bool):Int:=if b=true then 1 else 0
def jqi (c:CrD) (f g:Int->Bool) (p:PeD):Bool:=((((((decide (((lv p).length:Int)=la c)&&(lv p).all f)&&ja (fd p) 0 255)&&ja (cl p) 0 255)&&decide (((zR p).length:Int)<=10))&&(zR p).all g)&&ja (fe p) 0 1000)
end U
def jr6:j7:=⟨[.val .int,.val .int,.val .int],[.bool],false,fun _=>[],fun d=>(U.ja d.1 d.2.1 d.2.2.1,())⟩
def jrD:Prop:=∀(d:Int×Int×Int×Unit),(decide (d.2.1<=d.1)&&decide (d.1<=d.2.2.1),())=(U.ja d.1 d.2.1 d.2.2.1,())
def jb3:j7:=⟨[.val (.uint .u64),.val .int],[.bool],false,fun d=>[0<=d.2.1,d.2.1<=64],fun d=>(U.jf1 d.1 d.2.1,())⟩
def joV:Prop:=∀(d:Int×Int×Unit),0<=d.2.1->d.2.1<=64->0<=d.2.1/\d.2.1<=64/\(decide (wY (d.1/(2:Int)^d.2.1.toNat) (1:Int)=1),())=(U.jf1 d.1 d.2.1,())
def wR:j7:=⟨[.val (.uint .u64)],[.int],false,fun d=>[BT.Set' d.1],fun d=>(BT.size d.1,())⟩
def joM:Ann:=fun r=>match r with
 |1=>some fun σ=>{X:=Int×Int,sl:=fun x=>[(0,.dat (.uint .u64) x.1),(2,.dat .int x.2)],ob:=fun _=>[],inv:=fun x=>BT.Set' x.1/\x.2+BT.size x.1=BT.size (gd (.uint .u64) σ 0),mu:=fun x=>x.1.toNat}
 |_=>none
def jnb:Prop:=∀(d:Int×Unit),BT.Set' d.1->(∃(x:Int×Int),((d.1=x.1/\0=x.2/\True)/\True)/\BT.Set' x.1/\x.2+BT.size x.1=BT.size d.1)/\∀(x:Int×Int),BT.Set' x.1/\x.2+BT.size x.1=BT.size d.1->(decide (x.1≠0)=true->jy (x.2+1)/\0<=x.1-1/\x.1-1<=18446744073709551615/\∃(a:Int×Int),((wY x.1 (x.1-1)=a.1/\x.2+1=a.2/\True)/\True)/\(BT.Set' a.1/\a.2+BT.size a.1=BT.size d.1)/\a.1.toNat<x.1.toNat)/\(decide (x.1≠0)=false->(x.2,())=(BT.size d.1,()))
def jvN:j7:=⟨[.val .bool],[.int],false,fun _=>[],fun d=>(U.jE6 d.1,())⟩
def jvt:Prop:=∀(d:Bool×Unit),(d.1=true->((1:Int),())=(U.jE6 d.1,()))/\(d.1=false->((0:Int),())=(U.jE6 d.1,()))
def jec:j7:=⟨[.val (.slice .int),.fn [.int] [.bool]],[.int],false,fun d=>[∀g∈d.1,U.jG (d.2.1.pre (g,()))],fun d=>(U.jaH (U.jc (α:=Int) d.2.1.F) d.1,())⟩
def jeY:Ann:=fun r=>match r with
 |2=>some fun σ=>{X:=Nat,sl:=fun i=>[(8,.dat .int (i:Int))],ob:=fun _=>[],inv:=fun i=>i<=(gd (.slice .int) σ 0).length/\∀b:Nat,b<i->U.jc (gfb .int σ 1) (nth (gd (.slice .int) σ 0) b)=false,mu:=fun i=>(gd (.slice .int) σ 0).length-i}
 |_=>none
def jd0:Prop:=∀(d:List Int×FnD [Ty.int] [Ty.bool]×Unit),(∀(g:Int),g∈d.1->U.jG (d.2.1.1 (g,())))->d.1.length<4611686018427387904->(∃(x:Nat),((0=(x:Int)/\True)/\True)/\x<=d.1.length/\∀(b:Nat),b<x->U.jc d.2.1.2 (nth d.1 b)=false)/\∀(x:Nat),(x<=d.1.length/\∀(b:Nat),b<x->U.jc d.2.1.2 (nth d.1 b)=false)->(decide ((x:Int)<(d.1.length:Int))=true->0<=(x:Int)/\(x:Int)<(d.1.length:Int)/\asks (d.2.1.1 (nth d.1 (x:Int).toNat,())) (((d.2.1.2 (nth d.1 (x:Int).toNat,())).1=true->((x:Int),())=(U.jaH (U.jc d.2.1.2) d.1,()))/\((d.2.1.2 (nth d.1 (x:Int).toNat,())).1=false->jy ((x:Int)+1)/\∃(a:Nat),(((x:Int)+1=(a:Int)/\True)/\True)/\(a<=d.1.length/\∀(b:Nat),b<a->U.jc d.2.1.2 (nth d.1 b)=false)/\d.1.length-a<d.1.length-x)))/\(decide ((x:Int)<(d.1.length:Int))=false->((-1:Int),())=(U.jaH (U.jc d.2.1.2) d.1,()))
def jbK:j7:=⟨[.val (.slice .int),.fn [.int] [.bool]],[.bool],false,fun d=>[∀g∈d.1,U.jG (d.2.1.pre (g,()))],fun d=>(d.1.any (U.jc (α:=Int) d.2.1.F),())⟩
def jbG:Prop:=∀(d:List Int×FnD [Ty.int] [Ty.bool]×Unit),(∀(g:Int),g∈d.1->U.jG (d.2.1.1 (g,())))->(∀(g:Int),g∈d.1->U.jG (d.2.1.1 (g,())))/\(decide (0<=U.jaH (U.jc d.2.1.2) d.1),())=(d.1.any (U.jc d.2.1.2),())
def jed:j7:=⟨[.val (.slice tLw),.fn [tLw] [.bool]],[.int],false,fun d=>[∀g∈d.1,U.jG (d.2.1.pre (g,()))],fun d=>(U.jaH (U.jc (α:=LwD) d.2.1.F) d.1,())⟩
def jeZ:Ann:=fun r=>match r with
 |2=>some fun σ=>{X:=Nat,sl:=fun i=>[(8,.dat .int (i:Int))],ob:=fun _=>[],inv:=fun i=>i<=(gd (.slice tLw) σ 0).length/\∀b:Nat,b<i->U.jc (gfb tLw σ 1) (nth (gd (.slice tLw) σ 0) b)=false,mu:=fun i=>(gd (.slice tLw) σ 0).length-i}
 |_=>none
def jd1:Prop:=∀(d:List LwD×FnD [tLw] [Ty.bool]×Unit),(∀(g:LwD),g∈d.1->U.jG (d.2.1.1 (g,())))->d.1.length<4611686018427387904->(∃(x:Nat),((0=(x:Int)/\True)/\True)/\x<=d.1.length/\∀(b:Nat),b<x->U.jc d.2.1.2 (nth d.1 b)=false)/\∀(x:Nat),(x<=d.1.length/\∀(b:Nat),b<x->U.jc d.2.1.2 (nth d.1 b)=false)->(decide ((x:Int)<(d.1.length:Int))=true->0<=(x:Int)/\(x:Int)<(d.1.length:Int)/\asks (d.2.1.1 (nth d.1 (x:Int).toNat,())) (((d.2.1.2 (nth d.1 (x:Int).toNat,())).1=true->((x:Int),())=(U.jaH (U.jc d.2.1.2) d.1,()))/\((d.2.1.2 (nth d.1 (x:Int).toNat,())).1=false->jy ((x:Int)+1)/\∃(a:Nat),(((x:Int)+1=(a:Int)/\True)/\True)/\(a<=d.1.length/\∀(b:Nat),b<a->U.jc d.2.1.2 (nth d.1 b)=false)/\d.1.length-a<d.1.length-x)))/\(decide ((x:Int)<(d.1.length:Int))=false->((-1:Int),())=(U.jaH (U.jc d.2.1.2) d.1,()))
def jbL:j7:=⟨[.val (.slice tLw),.fn [tLw] [.bool]],[.bool],false,fun d=>[∀g∈d.1,U.jG (d.2.1.pre (g,()))],fun d=>(d.1.any (U.jc (α:=LwD) d.2.1.F),())⟩
def jbH:Prop:=∀(d:List LwD×FnD [tLw] [Ty.bool]×Unit),(∀(g:LwD),g∈d.1->U.jG (d.2.1.1 (g,())))->(∀(g:LwD),g∈d.1->U.jG (d.2.1.1 (g,())))/\(decide (0<=U.jaH (U.jc d.2.1.2) d.1),())=(d.1.any (U.jc d.2.1.2),())
def jbJ:j7:=⟨[.val (.slice tPe),.fn [tPe] [.bool]],[.int],false,fun d=>[∀g∈d.1,U.jG (d.2.1.pre (g,()))],fun d=>(U.jaH (U.jc (α:=PeD) d.2.1.F) d.1,())⟩
def jbR:Ann:=fun r=>match r with
 |2=>some fun σ=>{X:=Nat,sl:=fun i=>[(8,.dat .int (i:Int))],ob:=fun _=>[],inv:=fun i=>i<=(gd (.slice tPe) σ 0).length/\∀b:Nat,b<i->U.jc (gfb tPe σ 1) (nth (gd (.slice tPe) σ 0) b)=false,mu:=fun i=>(gd (.slice tPe) σ 0).length-i}
 |_=>none
def jbF:Prop:=∀(d:List PeD×FnD [tPe] [Ty.bool]×Unit),(∀(g:PeD),g∈d.1->U.jG (d.2.1.1 (g,())))->d.1.length<4611686018427387904->(∃(x:Nat),((0=(x:Int)/\True)/\True)/\x<=d.1.length/\∀(b:Nat),b<x->U.jc d.2.1.2 (nth d.1 b)=false)/\∀(x:Nat),(x<=d.1.length/\∀(b:Nat),b<x->U.jc d.2.1.2 (nth d.1 b)=false)->(decide ((x:Int)<(d.1.length:Int))=true->0<=(x:Int)/\(x:Int)<(d.1.length:Int)/\asks (d.2.1.1 (nth d.1 (x:Int).toNat,())) (((d.2.1.2 (nth d.1 (x:Int).toNat,())).1=true->((x:Int),())=(U.jaH (U.jc d.2.1.2) d.1,()))/\((d.2.1.2 (nth d.1 (x:Int).toNat,())).1=false->jy ((x:Int)+1)/\∃(a:Nat),(((x:Int)+1=(a:Int)/\True)/\True)/\(a<=d.1.length/\∀(b:Nat),b<a->U.jc d.2.1.2 (nth d.1 b)=false)/\d.1.length-a<d.1.length-x)))/\(decide ((x:Int)<(d.1.length:Int))=false->((-1:Int),())=(U.jaH (U.jc d.2.1.2) d.1,()))
def gm:j7:=⟨[.val (.slice tPe),.fn [tPe] [.bool]],[.bool],false,fun d=>[∀g∈d.1,U.jG (d.2.1.pre (g,()))],fun d=>(d.1.any (U.jc (α:=PeD) d.2.1.F),())⟩
def gi:Prop:=∀(d:List PeD×FnD [tPe] [Ty.bool]×Unit),(∀(g:PeD),g∈d.1->U.jG (d.2.1.1 (g,())))->(∀(g:PeD),g∈d.1->U.jG (d.2.1.1 (g,())))/\(decide (0<=U.jaH (U.jc d.2.1.2) d.1),())=(d.1.any (U.jc d.2.1.2),())
def jh8:j7:=⟨[.val .int,.rfn [.int] [.bool]],[.bool],false,fun d=>[U.jG (d.2.1.pre (d.1,()))],fun d=>(!(U.jc (α:=Int) d.2.1.F d.1),())⟩
def jhX:Prop:=∀(d:Int×FnD [Ty.int] [Ty.bool]×Unit),U.jG (d.2.1.1 (d.1,()))->asks (d.2.1.1 (d.1,())) ((!(d.2.1.2 (d.1,())).1,())=(!U.jc d.2.1.2 d.1,()))
def jlt:j7:=⟨[.val (.slice .int),.fn [.int] [.bool]],[.bool],false,fun d=>[∀g∈d.1,U.jG (d.2.1.pre (g,()))],fun d=>(d.1.all (U.jc (α:=Int) d.2.1.F),())⟩
def jlm:Prop:=∀(d:List Int×FnD [Ty.int] [Ty.bool]×Unit),(∀(g:Int),g∈d.1->U.jG (d.2.1.1 (g,())))->(∀(g:Int),g∈d.1->U.jG [U.jG (d.2.1.1 (g,()))])/\(!d.1.any (U.jc fun(a:Int×Unit)=>(!U.jc d.2.1.2 a.1,())),())=(d.1.all (U.jc d.2.1.2),())
def jh9:j7:=⟨[.val tLw,.rfn [tLw] [.bool]],[.bool],false,fun d=>[U.jG (d.2.1.pre (d.1,()))],fun d=>(!(U.jc (α:=LwD) d.2.1.F d.1),())⟩
def jhY:Prop:=∀(d:LwD×FnD [tLw] [Ty.bool]×Unit),U.jG (d.2.1.1 (d.1,()))->asks (d.2.1.1 (d.1,())) ((!(d.2.1.2 (d.1,())).1,())=(!U.jc d.2.1.2 d.1,()))
def jlu:j7:=⟨[.val (.slice tLw),.fn [tLw] [.bool]],[.bool],false,fun d=>[∀g∈d.1,U.jG (d.2.1.pre (g,()))],fun d=>(d.1.all (U.jc (α:=LwD) d.2.1.F),())⟩
def jln:Prop:=∀(d:List LwD×FnD [tLw] [Ty.bool]×Unit),(∀(g:LwD),g∈d.1->U.jG (d.2.1.1 (g,())))->(∀(g:LwD),g∈d.1->U.jG [U.jG (d.2.1.1 (g,()))])/\(!d.1.any (U.jc fun(a:LwD×Unit)=>(!U.jc d.2.1.2 a.1,())),())=(d.1.all (U.jc d.2.1.2),())
def jeb:j7:=⟨[.val tPe,.rfn [tPe] [.bool]],[.bool],false,fun d=>[U.jG (d.2.1.pre (d.1,()))],fun d=>(!(U.jc (α:=PeD) d.2.1.F d.1),())⟩
def jdY:Prop:=∀(d:PeD×FnD [tPe] [Ty.bool]×Unit),U.jG (d.2.1.1 (d.1,()))->asks (d.2.1.1 (d.1,())) ((!(d.2.1.2 (d.1,())).1,())=(!U.jc d.2.1.2 d.1,()))
def jgL:j7:=⟨[.val (.slice tPe),.fn [tPe] [.bool]],[.bool],false,fun d=>[∀g∈d.1,U.jG (d.2.1.pre (g,()))],fun d=>(d.1.all (U.jc (α:=PeD) d.2.1.F),())⟩
def jgF:Prop:=∀(d:List PeD×FnD [tPe] [Ty.bool]×Unit),(∀(g:PeD),g∈d.1->U.jG (d.2.1.1 (g,())))->(∀(g:PeD),g∈d.1->U.jG [U.jG (d.2.1.1 (g,()))])/\(!d.1.any (U.jc fun(a:PeD×Unit)=>(!U.jc d.2.1.2 a.1,())),())=(d.1.all (U.jc d.2.1.2),())
def jpr:j7:=⟨[.val .int],[.bool],false,fun _=>[],fun d=>(U.ja d.1 0 5,())⟩
def jo0:Prop:=∀(d:Int×Unit),(U.ja d.1 (0:Int) (5:Int),())=(U.ja d.1 (0:Int) (5:Int),())
def jpq:j7:=⟨[.val .int],[.bool],false,fun _=>[],fun d=>(U.ja d.1 0 99,())⟩
def joZ:Prop:=∀(d:Int×Unit),(U.ja d.1 (0:Int) (99:Int),())=(U.ja d.1 (0:Int) (99:Int),())
def jpp:j7:=⟨[.val tPe,.ref tCr,.rfn [.int] [.bool],.rfn [.int] [.bool]],[.bool],false,fun d=>[∀g∈U.lv d.1,U.jG (d.2.2.1.pre (g,())),∀g∈U.zR d.1,U.jG (d.2.2.2.1.pre (g,()))],fun d=>(U.jqi d.2.1 (U.jc d.2.2.1.F) (U.jc d.2.2.2.1.F) d.1,())⟩
def joY:Prop:=∀(d:PeD×CrD×FnD [Ty.int] [Ty.bool]×FnD [Ty.int] [Ty.bool]×Unit),(∀(g:Int),g∈U.lv d.1->U.jG (d.2.2.1.1 (g,())))->(∀(g:Int),g∈U.zR d.1->U.jG (d.2.2.2.1.1 (g,())))->d.1.1.length<4611686018427387904->(decide ((d.1.1.length:Int)=d.2.1.1)=true->∀(g:Int),g∈d.1.1->U.jG (d.2.2.1.1 (g,())))/\(((decide ((d.1.1.length:Int)=d.2.1.1)&&d.1.1.all (U.jc d.2.2.1.2)&&U.ja d.1.2.1 (0:Int) (255:Int)&&U.ja d.1.2.2.1 (0:Int) (255:Int))=true->d.1.2.2.2.1.length<4611686018427387904)->((decide ((d.1.1.length:Int)=d.2.1.1)&&d.1.1.all (U.jc d.2.2.1.2)&&U.ja d.1.2.1 (0:Int) (255:Int)&&U.ja d.1.2.2.1 (0:Int) (255:Int)&&decide ((d.1.2.2.2.1.length:Int)<=10))=true->∀(g:Int),g∈d.1.2.2.2.1->U.jG (d.2.2.2.1.1 (g,())))/\(decide ((d.1.1.length:Int)=d.2.1.1)&&d.1.1.all (U.jc d.2.2.1.2)&&U.ja d.1.2.1 (0:Int) (255:Int)&&U.ja d.1.2.2.1 (0:Int) (255:Int)&&decide ((d.1.2.2.2.1.length:Int)<=10)&&d.1.2.2.2.1.all (U.jc d.2.2.2.1.2)&&U.ja d.1.2.2.2.2.2.1 (0:Int) (1000:Int),())=(U.jqi d.2.1 (U.jc d.2.2.1.2) (U.jc d.2.2.2.1.2) d.1,()))
def jpo:j7:=⟨[.val tLw],[.bool],false,fun _=>[],fun d=>(U.jah d.1,())⟩
def joX:Prop:=∀(d:LwD×Unit),(U.ja d.1.1 (1:Int) (5:Int)&&U.ja d.1.2.1 (1:Int) (8:Int),())=(U.jah d.1,())
def jpn:j7:=⟨[.val .int,.ref tCr],[.bool],false,fun d=>[jy (U.la d.2.1-1)],fun d=>(U.ja d.1 0 (U.la d.2.1-1),())⟩
def joW:Prop:=∀(d:Int×CrD×Unit),jy (U.la d.2.1-1)->jy (d.2.1.1-1)/\(U.ja d.1 (0:Int) (d.2.1.1-1),())=(U.ja d.1 (0:Int) (U.la d.2.1-1),())
def jvO:j7:=⟨[.val tCr,.val tJb],[.int],false,fun _=>[],fun d=>(U.kj d.1 d.2.1,())⟩
abbrev q22_0 (d:CrD×JbD×Unit):=(!U.ja d.2.1.1 (0:Int) (U.la d.1-1)|| !U.ja d.2.1.2.1 (0:Int) (U.la d.1-1)||decide (d.2.1.1=d.2.1.2.1)|| !U.ja d.2.1.2.2.1 (0:Int) (99:Int)|| !U.ja d.2.1.2.2.2.1 (0:Int) (7:Int)|| !U.ja d.2.1.2.2.2.2.1 (0:Int) (3:Int)|| !U.ja d.2.1.2.2.2.2.2.1 (1:Int) (8:Int))
abbrev q22_1 (d:CrD×JbD×Unit):=(8<(d.1.2.1.length:Int))
def jvu:Prop:=∀(d:CrD×JbD×Unit),((!!U.ja d.1.1 (2:Int) (5:Int))=true->d.1.2.1.length<4611686018427387904)->((!(!U.ja d.1.1 (2:Int) (5:Int)||decide (q22_1 d)))=true->∀(g:PeD),g∈d.1.2.1->U.jG [∀(b:Int),b∈U.lv g->U.jG [],∀(b:Int),b∈U.zR g->U.jG []])/\(((!(!U.ja d.1.1 (2:Int) (5:Int)||decide (q22_1 d)|| !d.1.2.1.all (U.jc fun(a:PeD×Unit)=>(U.jqi d.1 (U.jc fun(a:Int×Unit)=>(U.ja a.1 (0:Int) (5:Int),())) (U.jc fun(a:Int×Unit)=>(U.ja a.1 (0:Int) (99:Int),())) a.1,()))))=true->d.1.2.2.1.length<4611686018427387904)->((!(!U.ja d.1.1 (2:Int) (5:Int)||decide (q22_1 d)|| !d.1.2.1.all (U.jc fun(c:PeD×Unit)=>(U.jqi d.1 (U.jc fun(c:Int×Unit)=>(U.ja c.1 (0:Int) (5:Int),())) (U.jc fun(c:Int×Unit)=>(U.ja c.1 (0:Int) (99:Int),())) c.1,()))||decide ((d.1.2.2.1.length:Int)≠4)))=true->∀(g:LwD),g∈d.1.2.2.1->U.jG [])/\((!U.ja d.1.1 (2:Int) (5:Int)||decide (q22_1 d)|| !d.1.2.1.all (U.jc fun(e:PeD×Unit)=>(U.jqi d.1 (U.jc fun(e:Int×Unit)=>(U.ja e.1 (0:Int) (5:Int),())) (U.jc fun(e:Int×Unit)=>(U.ja e.1 (0:Int) (99:Int),())) e.1,()))||decide ((d.1.2.2.1.length:Int)≠4)|| !d.1.2.2.1.all (U.jc fun(h:LwD×Unit)=>(U.jah h.1,())))=true->((30:Int),())=(U.kj d.1 d.2.1,()))/\((!U.ja d.1.1 (2:Int) (5:Int)||decide (q22_1 d)|| !d.1.2.1.all (U.jc fun(f:PeD×Unit)=>(U.jqi d.1 (U.jc fun(f:Int×Unit)=>(U.ja f.1 (0:Int) (5:Int),())) (U.jc fun(f:Int×Unit)=>(U.ja f.1 (0:Int) (99:Int),())) f.1,()))||decide ((d.1.2.2.1.length:Int)≠4)|| !d.1.2.2.1.all (U.jc fun(i:LwD×Unit)=>(U.jah i.1,())))=false->jy (U.la d.1-1)/\((!!U.ja d.2.1.1 (0:Int) (U.la d.1-1))=true->jy (U.la d.1-1))/\((q22_0 d)=true->((31:Int),())=(U.kj d.1 d.2.1,()))/\((q22_0 d)=false->((0:Int),())=(U.kj d.1 d.2.1,()))))
end Go.X
namespace Go.X
open Go.Proofs
theorem jwt:jrD:=by
 intro d;rfl
theorem qf:zu PR 124 jr6:=jZ jwt Tryz.func124 kcN koN
theorem jtb:joV:=by
 intro d a b;exact⟨a,b,rfl⟩
theorem jp3:zu PR 172 jb3:=jZ jtb Tryz.func172 kcN koN
theorem jqy:jnb:=by
 rintro⟨s,⟨⟩⟩ e;refine⟨⟨(s,0),⟨⟨rfl,rfl,trivial⟩,trivial⟩,e,by simp⟩,?_⟩;rintro⟨x,n⟩ ⟨a,b⟩;have a:BT.Set' x:=a;have g:=BT.size_le s;have f:=BT.size_le x;refine⟨fun h=> ?_,fun h=> ?_⟩
 .have h:x≠0:=of_decide_eq_true h;obtain⟨d,i,j⟩:=BT.pred a h;have c:=a;unfold BT.Set' at c;simp only at b⊢;exact⟨L.in64 (by omega) (by omega),by omega,by omega,(wY x (x-1),n+1),⟨⟨rfl,rfl,trivial⟩,trivial⟩,⟨d,(by omega:n+1+BT.size (wY x (x-1))=BT.size s)⟩,(by unfold BT.Set' at d;omega:(wY x (x-1)).toNat<x.toNat)⟩
 .have h:x=0:=(by simpa using h);subst h;simp only[BT.size_zero] at b;simp only at b⊢;rw[show n=BT.size s by omega]
theorem jnV:zu PR 126 wR:=wi joM jqy Tryz.func126 kcN koN
theorem jzE:jvt:=by
 rintro⟨b,⟨⟩⟩;exact⟨fun h=>by simp only at h;subst h;rfl,fun h=>by simp only at h;subst h;rfl⟩
theorem jwa:zu PR 120 jvN:=jZ jzE Tryz.func120 kcN koN
theorem jf5:jd0:=by
 rintro⟨l,f,⟨⟩⟩ a g;refine⟨⟨0,⟨⟨rfl,trivial⟩,trivial⟩,jHd _,fun b c=>by omega⟩,fun i hi=>⟨fun h=> ?_,fun h=> ?_⟩⟩
 .have h:i<l.length:=(by simpa using h);simp only[jG7] at*;refine⟨by omega,by omega,w4 _ (a _ (L.mem_nth h)) ⟨fun c=> ?_,fun c=>⟨L.in64 (by omega) (by omega),i+1,⟨⟨by simp,trivial⟩,trivial⟩,⟨by omega,fun b d=> ?_⟩,by omega⟩⟩⟩
  .rw[qk (p:=U.jc (α:=Int) f.F) h hi.2 c]
  .by_cases e:b=i
   .subst e;exact c
   .exact hi.2 b (by omega)
 .have h:l.length<=i:=(by simpa using h);rw[wa (p:=U.jc (α:=Int) f.F) h hi.2]
theorem jet:zu PR 128 jec:=wi jeY jf5 Tryz.func128 kcN koN
theorem jcB:jbG:=by
 rintro⟨l,f,⟨⟩⟩ a;refine⟨a,?_⟩;exact congrArg (·,()) (jcz (U.jc (α:=Int) f.F) l)
theorem qK:zu PR 106 jbK:=jZ jcB Tryz.func106 (kcC jet kcN) koN
theorem jf6:jd1:=by
 rintro⟨l,f,⟨⟩⟩ a g;refine⟨⟨0,⟨⟨rfl,trivial⟩,trivial⟩,jHd _,fun b c=>by omega⟩,fun i hi=>⟨fun h=> ?_,fun h=> ?_⟩⟩
 .have h:i<l.length:=(by simpa using h);simp only[jG7] at*;refine⟨by omega,by omega,w4 _ (a _ (L.mem_nth h)) ⟨fun c=> ?_,fun c=>⟨L.in64 (by omega) (by omega),i+1,⟨⟨by simp,trivial⟩,trivial⟩,⟨by omega,fun b d=> ?_⟩,by omega⟩⟩⟩
  .rw[qk (p:=U.jc (α:=LwD) f.F) h hi.2 c]
  .by_cases e:b=i
   .subst e;exact c
   .exact hi.2 b (by omega)
 .have h:l.length<=i:=(by simpa using h);rw[wa (p:=U.jc (α:=LwD) f.F) h hi.2]
theorem jeu:zu PR 196 jed:=wi jeZ jf6 Tryz.func196 kcN koN
theorem jcC:jbH:=by
 rintro⟨l,f,⟨⟩⟩ a;refine⟨a,?_⟩;exact congrArg (·,()) (jcz (U.jc (α:=LwD) f.F) l)
theorem jbN:zu PR 178 jbL:=jZ jcC Tryz.func178 (kcC jeu kcN) koN
theorem jcA:jbF:=by
 rintro⟨l,f,⟨⟩⟩ a g;refine⟨⟨0,⟨⟨rfl,trivial⟩,trivial⟩,jHd _,fun b c=>by omega⟩,fun i hi=>⟨fun h=> ?_,fun h=> ?_⟩⟩
 .have h:i<l.length:=(by simpa using h);simp only[jG7] at*;refine⟨by omega,by omega,w4 _ (a _ (L.mem_nth h)) ⟨fun c=> ?_,fun c=>⟨L.in64 (by omega) (by omega),i+1,⟨⟨by simp,trivial⟩,trivial⟩,⟨by omega,fun b d=> ?_⟩,by omega⟩⟩⟩
  .rw[qk (p:=U.jc (α:=PeD) f.F) h hi.2 c]
  .by_cases e:b=i
   .subst e;exact c
   .exact hi.2 b (by omega)
 .have h:l.length<=i:=(by simpa using h);rw[wa (p:=U.jc (α:=PeD) f.F) h hi.2]
theorem jbM:zu PR 195 jbJ:=wi jbR jcA Tryz.func195 kcN koN
theorem jaq:gi:=by
 rintro⟨l,f,⟨⟩⟩ a;refine⟨a,?_⟩;exact congrArg (·,()) (jcz (U.jc (α:=PeD) f.F) l)
theorem gx:zu PR 176 gm:=jZ jaq Tryz.func176 (kcC jbM kcN) koN
theorem jku:jhX:=by
 intro d h;exact w4 _ h rfl
theorem jim:zu PR 175 jh8:=jZ jku Tryz.func175 kcN koN
theorem joj:jlm:=by
 intro d h;exact⟨fun g a=>⟨h g a,trivial⟩,congrArg (·,()) (jj6 d.snd.fst.2 d.fst)⟩
theorem jlE:zu PR 132 jlt:=jZ joj Tryz.func132 (kcC qK (kcC jim kcN)) koN
theorem jkv:jhY:=by
 intro d h;exact w4 _ h rfl
theorem jin:zu PR 179 jh9:=jZ jkv Tryz.func179 kcN koN
theorem jok:jln:=by
 intro d h;exact⟨fun g a=>⟨h g a,trivial⟩,congrArg (·,()) (jj6 d.snd.fst.2 d.fst)⟩
theorem jlF:zu PR 136 jlu:=jZ jok Tryz.func136 (kcC jbN (kcC jin kcN)) koN
theorem jf4:jdY:=by
 intro d h;exact w4 _ h rfl
theorem jes:zu PR 177 jeb:=jZ jf4 Tryz.func177 kcN koN
theorem jiu:jgF:=by
 intro d h;exact⟨fun g a=>⟨h g a,trivial⟩,congrArg (·,()) (jj6 d.snd.fst.2 d.fst)⟩
theorem jgY:zu PR 135 jgL:=jZ jiu Tryz.func135 (kcC gx (kcC jes kcN)) koN
theorem jtg:jo0:=fun _=>rfl
theorem jp9:zu PR 129 jpr:=jZ jtg Tryz.func129 (kcC qf kcN) koN
theorem jtf:joZ:=fun _=>rfl
theorem jp8:zu PR 130 jpq:=jZ jtf Tryz.func130 (kcC qf kcN) koN
theorem jte:joY:=by
 rintro⟨p,c,f,g,⟨⟩⟩ a b _;exact⟨fun _=>a,fun _=>⟨fun _=>b,rfl⟩⟩
theorem jp7:zu PR 131 jpp:=jZ jte Tryz.func131 (kcC qf (kcC jlE kcN)) koN
theorem jtd:joX:=fun _=>rfl
theorem jp6:zu PR 133 jpo:=jZ jtd Tryz.func133 (kcC qf kcN) koN
theorem jtc:joW:=fun _ h=>⟨h,rfl⟩
theorem jp5:zu PR 134 jpn:=jZ jtc Tryz.func134 (kcC qf kcN) koN
theorem jD5 (c:CrD) (p:PeD):U.jqi c (fun x=>U.ja x 0 5) (fun x=>U.ja x 0 99) p=U.gy (U.la c) p:=by
 rw[jHs];simp only[U.jqi,U.gy,U.ja,jG3,decide_eq_true_eq];constructor
 .rintro⟨⟨⟨⟨⟨⟨e,f⟩,a⟩,b⟩,k⟩,i⟩,d⟩;exact⟨⟨e,a.1,a.2,b.1,b.2,by omega,d.1,d.2⟩,f,i⟩
 .rintro⟨⟨e,a,g,b,h,k,d,j⟩,f,i⟩;exact⟨⟨⟨⟨⟨⟨e,f⟩,a,g⟩,b,h⟩,by omega⟩,i⟩,d,j⟩
theorem jED (c:CrD):(((((!U.ja c.1 2 5||decide (8<((c.2.1.length:Nat):Int)))|| !c.2.1.all (U.gy (U.la c)))||decide (((c.2.2.1.length:Nat):Int)≠4))|| !c.2.2.1.all U.jah))= !U.jl c:=by
 unfold U.jl;show _= !(decide (2<=c.1/\c.1<=5/\c.2.1.length<=8/\c.2.2.1.length=4)&&(c.2.1.all (U.gy (U.la c))&&c.2.2.1.all U.jah));cases c.2.1.all (U.gy (U.la c))<;>cases c.2.2.1.all U.jah<;>simp only[U.ja,Bool.not_true,Bool.not_false,Bool.or_true,Bool.or_false,Bool.and_true,Bool.and_false,Bool.true_or]
 rw[jHs];simp only[jHX,jHB,Bool.and_eq_false_iff,decide_eq_true_eq,decide_eq_false_iff_not];omega
theorem jFB (c:CrD) (j:JbD):((((((!U.ja j.1 0 (U.la c-1)|| !U.ja j.2.1 0 (U.la c-1))||decide (j.1=j.2.1))|| !U.ja j.2.2.1 0 99)|| !U.ja j.2.2.2.1 0 7)|| !U.ja j.2.2.2.2.1 0 3)|| !U.ja j.2.2.2.2.2.1 1 8)= !U.jW c j:=by
 have key:(U.jW c j=false)↔¬(0<=j.1/\j.1<=U.la c-1/\0<=j.2.1/\j.2.1<=U.la c-1/\j.1≠j.2.1/\0<=j.2.2.1/\j.2.2.1<=99/\0<=j.2.2.2.1/\j.2.2.2.1<=7/\0<=j.2.2.2.2.1/\j.2.2.2.2.1<=3/\1<=j.2.2.2.2.2.1/\j.2.2.2.2.2.1<=8):=by
  unfold U.jW;exact decide_eq_false_iff_not
 rw[jHs,jHB,key];simp only[U.ja,jHX,jHB,Bool.and_eq_false_iff,decide_eq_true_eq,decide_eq_false_iff_not];omega
theorem jzF:jvu:=by
 unfold jvu q22_1 q22_0;rintro⟨c,j,⟨⟩⟩;have f:∀p,U.jc (fun(x:PeD×Unit)=>(U.jqi c (U.jc fun(x:Int×Unit)=>(U.ja x.fst 0 5,())) (U.jc fun(x:Int×Unit)=>(U.ja x.fst 0 99,())) x.fst,())) p=U.gy (U.la c) p:=fun p=>jD5 c p
 have i:(U.jc fun(x:LwD×Unit)=>(U.jah x.fst,()))=U.jah:=rfl;have d:=jED c;have e:=jFB c j;intro _;refine⟨fun _ g _=>⟨fun _ _=>trivial,fun _ _=>trivial,trivial⟩,fun _=> ?_⟩;simp only at d e⊢;rw[funext f,i,d,e];refine⟨fun _ _ _=>trivial,fun h=> ?_,fun h=> ?_⟩
 .have h:U.jl c=false:=(by simpa using h);unfold U.kj;rw[if_pos h]
 .have h:U.jl c=true:=(by simpa using h);have k:2<=U.la c/\U.la c<=5:=by
   unfold U.jl at h;simp only[jG3,decide_eq_true_eq] at h;exact⟨h.1.1,h.1.2.1⟩
  have b:jy (U.la c-1):=L.in64 (by omega) (by omega);refine⟨b,fun _=>b,fun a=> ?_,fun a=> ?_⟩
  .have a:U.jW c j=false:=(by simpa using a);unfold U.kj;rw[if_neg (by rw[h];simp),if_pos a]
  .have a:U.jW c j=true:=(by simpa using a);unfold U.kj;rw[if_neg (by rw[h];simp),if_neg (by rw[a];simp)]
theorem jmn:zu PR 108 jvO:=jZ jzF Tryz.func108 (kcC qf (kcC jgY (kcC jlF (kcC jp9 (kcC jp8 (kcC jp7 (kcC jp6 (kcC jp5 kcN)))))))) koN
end Go.X
namespace Go.X
open Go.Proofs
abbrev tTk:Ty:= .st [tCr,tJb,tLw]
abbrev TkD:Type:=CrD×JbD×LwD×Unit
namespace U
def tk (o:Option TkD):TkD:=jR (Ty.dflt tTk) o
def tc (t:TkD):CrD:=t.1
def tj (t:TkD):JbD:=t.2.1
def tl (t:TkD):LwD:=t.2.2.1
def jmm (c:CrD) (j:JbD):Option TkD:=if kj c j=0 then some (c,j,yP c j,()) else none
def yt (t:TkD):Prop:=jl (tc t)=true/\jW (tc t) (tj t)=true/\tl t=yP (tc t) (tj t)
def jvI (a b c:Bool):Int:=jE6 a+2*jE6 b+4*jE6 c
def kV (t:TkD) (p:PeD):Int:=jvI (yf p (jAZ (tj t))) (!jH (fd p) (js7 (tj t))) (!jH (cl p) (jrw (tj t)))
def jfX (t:TkD) (p:PeD):List (Int×Int):=[(0,jE6 (!yf p (jAZ (tj t)))),(1,qH (fd p/2^(js7 (tj t)).toNat) 1),(2,qH (cl p/2^(jrw (tj t)).toNat) 1)]
def vC (all left:List (Int×Int)) (out:Int):Prop:=BT.Set' out/\left.Nodup/\(∀e∈left,e∈all)/\∀p:Nat,BT.has out p=true↔∃e∈all,e∉left/\e.2=0/\e.1.toNat=p
def wI (t:TkD) (s:Int) (n:Nat):List (Int×PeD×Unit):=((List.range n).filter (fun(i:Nat)=>jf1 s (i:Int))).map (fun(i:Nat)=>((i:Int),nth (je (tc t)) i,()))
def jhJ (t:TkD) (s:Int):List (Int×PeD×Unit):=wI t s (je (tc t)).length
def jn (t:TkD) (a b:Int) (x:Int×PeD×Unit):Bool:=decide (jxu (tl t)<=min (nth (lv x.2.1) a.toNat) (nth (lv x.2.1) b.toNat))
def jcv (t:TkD) (s a b:Int):Bool:=(jhJ t s).any (jn t a b)
def qr (t:TkD) (a b:Int) (q:List (Int×PeD×Unit)):Bool:=match q.getLast? with|some x=>jn t a b x|none=>false
end U
def jjr:j7:=⟨[.val (.slice .int),.val .int],[.int],false,fun _=>[],fun d=>(U.jaH (fun x=>decide (x=d.2.1)) d.1,())⟩
def jld:Ann:=fun r=>match r with
 |2=>some fun σ=>{X:=Nat,sl:=fun i=>[(8,.dat .int (i:Int))],ob:=fun _=>[],inv:=fun i=>i<=(gd (.slice .int) σ 0).length/\∀b:Nat,b<i->decide (nth (gd (.slice .int) σ 0) b=gd .int σ 1)=false,mu:=fun i=>(gd (.slice .int) σ 0).length-i}
 |_=>none
def ji9:Prop:=∀(d:List Int×Int×Unit),d.1.length<4611686018427387904->(∃(x:Nat),((0=(x:Int)/\True)/\True)/\x<=d.1.length/\∀(b:Nat),b<x->decide (nth d.1 b=d.2.1)=false)/\∀(x:Nat),(x<=d.1.length/\∀(b:Nat),b<x->decide (nth d.1 b=d.2.1)=false)->(decide ((x:Int)<(d.1.length:Int))=true->0<=(x:Int)/\(x:Int)<(d.1.length:Int)/\(decide (d.2.1=nth d.1 (x:Int).toNat)=true->((x:Int),())=(U.jaH (fun(c:Int)=>decide (c=d.2.1)) d.1,()))/\(decide (d.2.1=nth d.1 (x:Int).toNat)=false->jy ((x:Int)+1)/\∃(a:Nat),(((x:Int)+1=(a:Int)/\True)/\True)/\(a<=d.1.length/\∀(b:Nat),b<a->decide (nth d.1 b=d.2.1)=false)/\d.1.length-a<d.1.length-x))/\(decide ((x:Int)<(d.1.length:Int))=false->((-1:Int),())=(U.jaH (fun(e:Int)=>decide (e=d.2.1)) d.1,()))
def jfo:j7:=⟨[.val (.slice .int),.val .int],[.bool],false,fun _=>[],fun d=>(d.1.any (fun x=>decide (x=d.2.1)),())⟩
def jfc:Prop:=∀(d:List Int×Int×Unit),(decide (0<=U.jaH (fun(a:Int)=>decide (a=d.2.1)) d.1),())=(d.1.any fun(b:Int)=>decide (b=d.2.1),())
def jx2:j7:=⟨[.val tCr,.val tJb],[.ptr tTk,.int],false,fun _=>[],fun d=>(U.jmm d.1 d.2.1,U.kj d.1 d.2.1,())⟩
def jxF:Prop:=∀(d:CrD×JbD×Unit),(decide (U.kj d.1 d.2.1≠0)=true->(none,U.kj d.1 d.2.1,())=(U.jmm d.1 d.2.1,U.kj d.1 d.2.1,()))/\(decide (U.kj d.1 d.2.1≠0)=false->0<=d.2.1.2.2.2.2.1/\d.2.1.2.2.2.2.1<(d.1.2.2.1.length:Int)/\(some (d.1,d.2.1,nth d.1.2.2.1 d.2.1.2.2.2.2.1.toNat,()),(0:Int),())=(U.jmm d.1 d.2.1,U.kj d.1 d.2.1,()))
def LM (d:PD [.ref (.ptr tTk),.ref (.uint .u64)]) (xs:List (Ty.st [.int,tPe]).Data):Prop:=xs=U.jhJ (U.tk d.1) d.2.1
def jxm (d:PD [.ref (.ptr tTk),.ref (.uint .u64)]):ji0 (YS [.int,tPe]):=fun r=>match r with
 |1=>some fun σ ys=>{X:=Nat,sl:=fun i=>[(12,.dat .int (i:Int))],ob:=fun _=>[],ys:=fun i=>(U.wI (U.tk d.1) d.2.1 i,true),inv:=fun i=>i<=(U.je (U.tc (U.tk d.1))).length,mu:=fun i=>(U.je (U.tc (U.tk d.1))).length-i}
 |_=>none
abbrev q26_0 (d:Option (CrD×JbD×LwD×Unit)×Int×Unit):=(jR (((0:Int),[],[],()),((0:Int),(0:Int),(0:Int),(0:Int),(0:Int),(0:Int),()),((0:Int),(0:Int),false,()),()) d.1)
abbrev q26_1 (d:Option (CrD×JbD×LwD×Unit)×Int×Unit):=(U.je (U.tc (U.tk d.1)))
abbrev q26_2 (x:Nat)(d:Option (CrD×JbD×LwD×Unit)×Int×Unit):=((x:Int),nth (q26_0 d).1.2.1 (x:Int).toNat,())
abbrev q26_3 (x:Nat)(a:Nat):=(((x:Int)+1=(a:Int)/\True)/\True)
def yb:Prop:=∀(d:Option (CrD×JbD×LwD×Unit)×Int×Unit) (l:Nat),d.1.isSome=true->(q26_1 d).length<=60->d.1.isSome=true/\((q26_0 d).1.2.1.length<4611686018427387904->(∃(x:Nat),((0=(x:Int)/\True)/\True)/\([],true)=(U.wI (U.tk d.1) d.2.1 x,true)/\x<=(q26_1 d).length)/\∀(x:Nat),x<=(q26_1 d).length->(decide ((x:Int)<(↑(q26_0 d).1.2.1.length:Int))=true->0<=(x:Int)/\(x:Int)<(↑(q26_0 d).1.2.1.length:Int)/\0<=(x:Int)/\(x:Int)<=64/\(U.jf1 d.2.1 (x:Int)=true->l=l/\(∃(rest:List (Int×PeD×Unit)),U.wI (U.tk d.1) d.2.1 x++[(q26_2 x d)]++rest=U.jhJ (U.tk d.1) d.2.1)/\(((U.jf1 d.2.1 (x:Int)&& !true)=true->true=true->U.wI (U.tk d.1) d.2.1 x++[(q26_2 x d)]=U.jhJ (U.tk d.1) d.2.1)/\((U.jf1 d.2.1 (x:Int)&& !true)=false->jy ((x:Int)+1)/\∃(a:Nat),(q26_3 x a)/\(U.wI (U.tk d.1) d.2.1 x++[(q26_2 x d)],true)=(U.wI (U.tk d.1) d.2.1 a,true)/\a<=(q26_1 d).length/\(q26_1 d).length-a<(q26_1 d).length-x))/\((U.jf1 d.2.1 (x:Int)&& !false)=true->false=true->U.wI (U.tk d.1) d.2.1 x++[(q26_2 x d)]=U.jhJ (U.tk d.1) d.2.1)/\((U.jf1 d.2.1 (x:Int)&& !false)=false->jy ((x:Int)+1)/\∃(a:Nat),(q26_3 x a)/\(U.wI (U.tk d.1) d.2.1 x++[(q26_2 x d)],false)=(U.wI (U.tk d.1) d.2.1 a,true)/\a<=(q26_1 d).length/\(q26_1 d).length-a<(q26_1 d).length-x))/\(U.jf1 d.2.1 (x:Int)=false->((U.jf1 d.2.1 (x:Int)&& !false)=true->true=true->U.wI (U.tk d.1) d.2.1 x=U.jhJ (U.tk d.1) d.2.1)/\((U.jf1 d.2.1 (x:Int)&& !false)=false->jy ((x:Int)+1)/\∃(a:Nat),(q26_3 x a)/\(U.wI (U.tk d.1) d.2.1 x,true)=(U.wI (U.tk d.1) d.2.1 a,true)/\a<=(q26_1 d).length/\(q26_1 d).length-a<(q26_1 d).length-x)))/\(decide ((x:Int)<(↑(q26_0 d).1.2.1.length:Int))=false->true=true->U.wI (U.tk d.1) d.2.1 x=U.jhJ (U.tk d.1) d.2.1))
theorem jbE:(jBk (ctx 28 [(172,jb3)] []) (zZ Tryz.f171) [.int,tPe] [.ref (.ptr tTk),.ref (.uint .u64)] LM (fun d=>[d.1.isSome=true,(U.je (U.tc (U.tk d.1))).length<=60]) (fun d _=>jxm d) (fun d l=>hkY [.int,tPe] l [24] (fun q=>∃rest,LM d (q++rest)) (fun _=>none)))=yb:=by kernel_rfl
def jN:je5:=⟨[.val (.ptr tTk),.val (.uint .u64)],fun _=>[],171,[.ptr tTk,.uint .u64],fun d=>(d.1,d.2.1,())⟩
def gF:Prop:=∀(d:Option (CrD×JbD×LwD×Unit)×Int×Unit),d=d
theorem jdg:(jAw (ctx 6 [] []) (fun _=>none) Tryz.f125 (zZ Tryz.f125) jN)=gF:=by kernel_rfl
def juK (sv:SV):Option (Prop×(List (Ty.st [.int,tPe]).Data->Prop)):=match sv with
 | .clo 171 [.ep b t,.ep c s]=>(match zz b (.ptr tTk) t,zz c (.uint .u64) s with
  |some a,some d=>some ((a.isSome=true/\(U.je (U.tc (U.tk a))).length<=60),fun xs=>xs=U.jhJ (U.tk a) d)
  |_,_=>none)
 |_=>none
def jyr:jro [.int,tPe]:={ps:=[.ref (.ptr tTk),.ref .int,.ref .int,.own (.box 4 [.dat .bool]) true],slots:=[4,6,7,8],dst:=34,pre:=fun _=>[],G:=fun d q=>((d.2.2.2.1.1||U.qr (U.tk d.1) d.2.1 d.2.2.1 q,()),()),stop:=fun d q=>U.qr (U.tk d.1) d.2.1 d.2.2.1 q,seq:=juK}
def jji:Nat->Option ((ts:List Ty)×jro ts):=fun r=>match r with
 |3=>some ⟨[.int,tPe],jyr⟩
 |_=>none
def jbr:j7:=⟨[.val (.ptr tTk),.val (.uint .u64),.val .int,.val .int],[.bool],false,
 fun d=>[d.1.isSome=true,U.yt (U.tk d.1),0<=d.2.2.1,d.2.2.1<U.la (U.tc (U.tk d.1)),0<=d.2.2.2.1,d.2.2.2.1<U.la (U.tc (U.tk d.1))],fun d=>(U.jcv (U.tk d.1) d.2.1 d.2.2.1 d.2.2.2.1,())⟩
abbrev q28_0 (d:Option (CrD×JbD×LwD×Unit)×Int×Int×Int×Unit)(x:Int×PeD×Unit):=((jR (((0:Int),[],[],()),((0:Int),(0:Int),(0:Int),(0:Int),(0:Int),(0:Int),()),((0:Int),(0:Int),false,()),()) d.1).2.2.1.1<=min (nth x.2.1.1 d.2.2.1.toNat) (nth x.2.1.1 d.2.2.2.1.toNat))
def jbn:Prop:=∀(d:Option (CrD×JbD×LwD×Unit)×Int×Int×Int×Unit),d.1.isSome=true->U.yt (U.tk d.1)->0<=d.2.2.1->d.2.2.1<U.la (U.tc (U.tk d.1))->0<=d.2.2.2.1->d.2.2.2.1<U.la (U.tc (U.tk d.1))->(d.1.isSome=true/\(U.je (U.tc (U.tk d.1))).length<=60)/\True/\(d.1,d.2.2.1,d.2.2.2.1,(false||U.qr (U.tk d.1) d.2.2.1 d.2.2.2.1 [],()),())=(d.1,d.2.2.1,d.2.2.2.1,(false,()),())/\(∀(q:List (Int×PeD×Unit)) (x:Int×PeD×Unit) (rest:List (Int×PeD×Unit)),q++x::rest=U.jhJ (U.tk d.1) d.2.1->wx (fun(a:List (Int×PeD×Unit))=>U.qr (U.tk d.1) d.2.2.1 d.2.2.2.1 a) q->0<=d.2.2.1/\d.2.2.1<(x.2.1.1.length:Int)/\0<=d.2.2.2.1/\d.2.2.2.1<(x.2.1.1.length:Int)/\d.1.isSome=true/\(decide (q28_0 d x)=true->U.qr (U.tk d.1) d.2.2.1 d.2.2.2.1 (q++[x])=true/\((true,()),())=((false||U.qr (U.tk d.1) d.2.2.1 d.2.2.2.1 (q++[x]),()),()))/\(decide (q28_0 d x)=false->U.qr (U.tk d.1) d.2.2.1 d.2.2.2.1 (q++[x])=false/\((false||U.qr (U.tk d.1) d.2.2.1 d.2.2.2.1 q,()),())=((false||U.qr (U.tk d.1) d.2.2.1 d.2.2.2.1 (q++[x]),()),())))/\(∀(xs:List (Int×PeD×Unit)),xs=U.jhJ (U.tk d.1) d.2.1->wx (fun(b:List (Int×PeD×Unit))=>U.qr (U.tk d.1) d.2.2.1 d.2.2.2.1 b) xs->(false,())=(U.jcv (U.tk d.1) d.2.1 d.2.2.1 d.2.2.2.1,()))/\∀(q:List (Int×PeD×Unit)) (x:Int×PeD×Unit) (rest:List (Int×PeD×Unit)),q++x::rest=U.jhJ (U.tk d.1) d.2.1->wx (fun(c:List (Int×PeD×Unit))=>U.qr (U.tk d.1) d.2.2.1 d.2.2.2.1 c) q->U.qr (U.tk d.1) d.2.2.1 d.2.2.2.1 (q++[x])=true->(false||U.qr (U.tk d.1) d.2.2.1 d.2.2.2.1 (q++[x]),())=(U.jcv (U.tk d.1) d.2.1 d.2.2.1 d.2.2.2.1,())
theorem jdW:(juu (jry 33 [] [] [(125,jN)] []) jbr (fun _ _=>none) (hkC (jry 33 [] [] [(125,jN)] []) (fun _=>none) jji [] []) Tryz.f174 (zZ Tryz.f174))=jbn:=by kernel_rfl
end Go.X
namespace Go.X
open Go.Proofs
theorem jlM:ji9:=by
 rintro⟨l,x,⟨⟩⟩ d;refine⟨⟨0,⟨⟨rfl,trivial⟩,trivial⟩,jHd _,fun b a=>by omega⟩,fun i hi=>⟨fun h=> ?_,fun h=> ?_⟩⟩
 .have h:i<l.length:=(by simpa using h);simp only[jG7] at*;refine⟨by omega,by omega,fun a=> ?_,fun a=>⟨L.in64 (by omega) (by omega),i+1,⟨⟨by simp,trivial⟩,trivial⟩,⟨by omega,fun b c=> ?_⟩,by omega⟩⟩
  .rw[qk (p:=fun y=>decide (y=x)) h hi.2 (by have:=of_decide_eq_true a;rw[<-this];exact decide_eq_true rfl)]
  .by_cases e:b=i
   .subst e;exact decide_eq_false (fun e=>of_decide_eq_false a e.symm)
   .exact hi.2 b (by omega)
 .have h:l.length<=i:=(by simpa using h);rw[wa (p:=fun y=>decide (y=x)) h hi.2]
theorem jjX:zu PR 98 jjr:=wi jld jlM Tryz.func98 kcN koN
theorem jhc:jfc:=by
 rintro⟨l,x,⟨⟩⟩;exact congrArg (·,()) (jcz (fun y=>decide (y=x)) l)
theorem qp:zu PR 67 jfo:=jZ jhc Tryz.func67 (kcC jjX kcN) koN
theorem jeQ {c:CrD} {j:JbD} (h:U.kj c j=0):U.jl c=true/\U.jW c j=true:=by
 unfold U.kj at h
 split at h
 .omega
 .split at h
  .omega
  .rename_i a b;exact⟨by simpa using a,by simpa using b⟩
theorem jv {c:CrD} (h:U.jl c=true):2<=U.la c/\U.la c<=5/\(U.je c).length<=8/\(U.wk c).length=4/\(∀p∈U.je c,U.gy (U.la c) p=true)/\∀l∈U.wk c,U.jah l=true:=by
 unfold U.jl at h;simp only[jG3,decide_eq_true_eq,jHE] at h;exact⟨h.1.1,h.1.2.1,h.1.2.2.1,h.1.2.2.2,h.2.1,h.2.2⟩
theorem jcw {c:CrD} {j:JbD} (h:U.jW c j=true):(0<=U.jrx j/\U.jrx j<U.la c)/\(0<=U.jmC j/\U.jmC j<U.la c)/\U.jrx j≠U.jmC j/\(0<=U.js7 j/\U.js7 j<=7)/\(0<=U.jrw j/\U.jrw j<=3)/\(1<=U.jBS j/\U.jBS j<=8):=by
 unfold U.jW at h;have h:=of_decide_eq_true h;obtain⟨d,m,e,n,f,_,_,g,i,k,l,a,b⟩:=h;exact⟨⟨d,by omega⟩,⟨e,by omega⟩,f,⟨g,i⟩,⟨k,l⟩,a,b⟩
theorem jyI {c:CrD} {j:JbD} (h:U.kj c j=0):U.jmm c j=some (c,j,U.yP c j,())/\U.yt (c,j,U.yP c j,()):=by
 obtain⟨a,b⟩:=jeQ h;exact⟨by unfold U.jmm;rw[if_pos h],a,b,rfl⟩
theorem jB2:jxF:=by
 rintro⟨c,j,⟨⟩⟩;refine⟨fun h=> ?_,fun h=> ?_⟩
 .have h:U.kj c j≠0:=of_decide_eq_true h;simp only;unfold U.jmm;rw[if_neg h]
 .have h:U.kj c j=0:=(by simpa using h);obtain⟨b,d⟩:=jeQ h;obtain⟨_,_,_,a,_⟩:=jv b;obtain⟨_,_,_,_,hk,_⟩:=jcw d;have hk:0<=j.2.2.2.2.1/\j.2.2.2.2.1<=3:=hk;have a:c.2.2.1.length=4:=a;refine⟨hk.1,by simp only;omega,?_⟩;simp only;rw[(jyI h).1,h];rfl
theorem jp4:zu PR 94 jx2:=jZ jB2 Tryz.func94 (kcC jmn kcN) koN
theorem jg3 (t:TkD) (s:Int) (n:Nat):U.wI t s (n+1)=U.wI t s n++(if U.jf1 s (n:Int)=true then[((n:Int),nth (U.je (U.tc t)) n,())] else[]):=by
 unfold U.wI;rw[L.range_filter_succ,jHR]
 split<;>simp
theorem jze (t:TkD) (s:Int) {n m:Nat} (h:n<=m):∃rest,U.wI t s n++rest=U.wI t s m:=by
 induction m with
 |zero=>
  have:n=0:=(by omega);subst this;exact⟨[],by simp⟩
 |succ m b=>
  by_cases e:n=m+1
  .subst e;exact⟨[],by simp⟩
  .obtain⟨r,a⟩:=b (by omega);rw[jg3,<-a];exact⟨r++_,by rw[jHn]⟩
theorem jf3:yb:=by
 unfold yb q26_3 q26_2 q26_1 q26_0;rintro⟨(_|t),s,⟨⟩⟩ l i e
 .cases i
 have e:(U.je (U.tc t)).length<=60:=e;refine⟨rfl,fun _=>⟨⟨0,⟨⟨rfl,trivial⟩,trivial⟩,rfl,jHd _⟩,fun x g=> ?_⟩⟩;have g:x<=(U.je (U.tc t)).length:=g;have c:U.tk (some t)=t:=rfl;refine⟨fun h=> ?_,fun h=> ?_⟩
 .have h:x<(U.je (U.tc t)).length:=by
   have:=of_decide_eq_true h;have this:(x:Int)<((U.je (U.tc t)).length:Int):=this;omega
  have j:(x:Int)<((U.je (U.tc t)).length:Int):=(by omega);refine⟨by omega,j,by omega,by omega,fun b=> ?_,fun b=> ?_⟩
  .have d:U.wI t s (x+1)=U.wI t s x++[((x:Int),nth (U.je (U.tc t)) x,())]:=(by rw[jg3,if_pos b]);obtain⟨r,f⟩:=jze t s (show x+1<=(U.je (U.tc t)).length by omega);refine⟨rfl,⟨r,by rw[d] at f;exact f⟩,⟨fun a=>absurd a (by rw[Bool.not_true,Bool.and_false];simp),fun _=>⟨L.in64 (by omega) (by omega),x+1,⟨⟨by omega,trivial⟩,trivial⟩,?_,(show x+1<=(U.je (U.tc t)).length by omega),(show(U.je (U.tc t)).length-(x+1)<(U.je (U.tc t)).length-x by omega)⟩⟩,
    fun _ a=>(by cases a),fun a=> ?_⟩
   .rw[c,d];rfl
   .rw[Bool.not_false,Bool.and_true] at a;exact absurd b (by simp only at a⊢;rw[a];simp)
  .have d:U.wI t s (x+1)=U.wI t s x:=by
    rw[jg3,if_neg (by simp only at b⊢;rw[b];simp),jHw]
   refine⟨fun a=> ?_,fun _=>⟨L.in64 (by omega) (by omega),x+1,⟨⟨by omega,trivial⟩,trivial⟩,?_,(show x+1<=(U.je (U.tc t)).length by omega),(show(U.je (U.tc t)).length-(x+1)<(U.je (U.tc t)).length-x by omega)⟩⟩
   .rw[Bool.not_false,Bool.and_true] at a;exact absurd a (by simp only at b⊢;rw[b];simp)
   .rw[c,d]
 .have h:(U.je (U.tc t)).length<=x:=by
   have:=of_decide_eq_false h;have this:¬(x:Int)<((U.je (U.tc t)).length:Int):=this;omega
  intro _;rw[show x=(U.je (U.tc t)).length by omega];rfl
theorem jsu {H:Imm} {lb:Array Value} {d:PD [.ref (.ptr tTk),.ref (.uint .u64)]} (g:pvs PR H [.ref (.ptr tTk),.ref (.uint .u64)] lb.toList d) (a:d.1.isSome=true) (b:(U.je (U.tc (U.tk d.1))).length<=60):jCP PR H [.int,tPe] (LM d) (.func (.func 171) #[] lb):=
 jC3 (C:=ctx 28 [(172,jb3)] []) (jkZ ⟨fun _=>jp3,trivial⟩ trivial) mixed Tryz.func171 (by kernel_rfl) (by kernel_rfl) (by kernel_rfl) (by kernel_rfl) (by decide) (jbE.mpr jf3) (fun d l B0 R h c e f=>jFs c f) g ⟨a,b,trivial⟩
theorem jit:gF:=by intro d;rfl
theorem gY:jrr PR 125 jN:=jFu (jdg.mpr jit) Tryz.func125 (by kernel_rfl) (by kernel_rfl) (by kernel_rfl) (by kernel_rfl) trivial trivial
theorem jD8:∀(f:Nat) (p:Nat×je2),jD ([]:List (Nat×Nat×je2)) f=some p->ROK PR f p.2:=fun _ _ h=>by cases h
theorem jqn {sv:SV} {h:Prop} {L:List (Ty.st [.int,tPe]).Data->Prop} {v:Value} {ρ:Env} (a:juK sv=some (h,L)) (b:h) (g:SV.den PR ρ sv v):jCP PR ρ.H [.int,tPe] L v:=by
 unfold juK at a
 split at a
 case h_2=>cases a
 rename_i o t p s
 split at a
 case h_2=>cases a
 rename_i w u n f;simp only[Option.some.injEq,Prod.mk.injEq] at a;obtain⟨rfl,rfl⟩:=a;obtain⟨e,rfl⟩:=jm n;subst e;obtain⟨i,rfl⟩:=jm f;subst i;simp only[SV.den,SV.denL] at g;obtain⟨lb,rfl,x,r,m,j,y,q,c,k,l⟩:=g;exact jsu (d:=(t,s,())) (by rw[m,c,l];exact⟨j,k,rfl⟩) b.1 b.2
theorem jfV (t:TkD) (a b:Int) (q:List (Int×PeD×Unit)) (x:Int×PeD×Unit):U.qr t a b (q++[x])=U.jn t a b x:=by
 unfold U.qr;rw[List.getLast?_append];simp
theorem jrW {t:TkD} {a b:Int} {q:List (Int×PeD×Unit)} (h:wx (fun q=>U.qr t a b q) q):q.any (U.jn t a b)=false:=by
 rw[jHO];intro x c;obtain⟨u,v,rfl⟩:=List.append_of_mem c;have:=h u x v rfl;simp only[jfV] at this;rw[this];simp
theorem jwm {t:TkD} {s:Int} {x:Int×PeD×Unit} (h:x∈U.jhJ t s):x.2.1∈U.je (U.tc t):=by
 unfold U.jhJ U.wI at h;obtain⟨i,hi,rfl⟩:=jHy.1 h;have:=jHj.1 (jHh.1 hi).1;exact L.mem_nth this
theorem jD4 {n:Int} {p:PeD} (h:U.gy n p=true):((U.lv p).length:Int)=n:=by
 unfold U.gy at h;simp only[jG3,decide_eq_true_eq] at h;exact h.1.1
theorem jks:jbn:=by
 unfold jbn q28_0;rintro⟨(_|t),s,a,b,⟨⟩⟩ r l v f w g
 .cases r
 obtain⟨c1,c2,A⟩:=l;have c1:U.jl (U.tc t)=true:=c1;obtain⟨B,C,D,E,p,F⟩:=jv c1;have k:(U.je (U.tc t)).length<=60:=(by omega);have c:U.tk (some t)=t:=rfl;refine⟨⟨rfl,k⟩,trivial,rfl,fun q x rest i e=> ?_,fun xs j e=> ?_,fun q x rest i e d=> ?_⟩
 .have z:x∈U.jhJ t s:=(by rw[c] at i;rw[<-i];simp);have o:=jD4 (p _ (jwm z));have o:((x.2.1.1.length:Nat):Int)=U.la (U.tc t):=o;have f:a<U.la (U.tc t):=f;have g:b<U.la (U.tc t):=g;have m:U.qr t a b q=false:=by
   cases n:q.getLast? with
   |none=>unfold U.qr;rw[n]
   |some y=>
    obtain⟨u,rfl⟩:=List.getLast?_eq_some_iff.1 n;have:=e u y [] rfl;exact this
  refine⟨v,by simp only;omega,w,by simp only;omega,rfl,fun h=> ?_,fun h=> ?_⟩
  .have h:U.jn t a b x=true:=h;have:U.qr t a b (q++[x])=true:=(by rw[jfV];exact h);rw[c];simp only;exact⟨this,by rw[this];rfl⟩
  .have h:U.jn t a b x=false:=h;have:U.qr t a b (q++[x])=false:=(by rw[jfV];exact h);rw[c];simp only;exact⟨this,by rw[this,m]⟩
 .rw[c] at j e;subst j;have:=jrW e;simp only;rw[c];unfold U.jcv;rw[this]
 .rw[c] at i d⊢;simp only at d⊢;rw[d];unfold U.jcv;rw[<-i];rw[jfV] at d;simp[d]
theorem jq5:(jry 33 [] [] [(125,jN)] []).ok PR:=jtM trivial trivial ⟨gY,trivial⟩ trivial
theorem jik:zu PR 174 jbr:=
 jyt (body:=zZ Tryz.f174) (C:=jry 33 [] [] [(125,jN)] []) (hk:=hkC (jry 33 [] [] [(125,jN)] []) (fun _=>none) jji [] []) jq5 mixed Tryz.func174 (by kernel_rfl) (by kernel_rfl) (by kernel_rfl) (by decide)
  (fun B=>jmJ jq5 mixed (fun k ts rs sv d L v ρ hk c a b=>by
   unfold jji at hk
   split at hk
   case h_2=>cases hk
   simp only[Option.some.injEq] at hk
   cases hk
   exact jqn c a b) jD8 B) (jdW.mpr jks)
end Go.X
namespace Go.X
open Go.Proofs
namespace U
def qF (x:Int) (N n:Nat):List Int:=List.replicate n x++List.replicate (N-n) 0
def jrv (t:TkD) (c:Int) (a b:Nat):Bool:=jcv t c (a:Int) (b:Int)
def jbe (t:TkD) (a:Int):List Int:=jF2 (jrv t a) (la (tc t)).toNat (jmC (tj t)).toNat
def j0 (t:TkD) (a:Int) (k:Nat):List Int×List Int:=qN (jrv t a) (la (tc t)).toNat (jmC (tj t)).toNat k
def qb (t:TkD) (a:Int) (x:List Int×List Int) (i:Nat):List Int×List Int:=jgs (jrv t a) (nth x.2 0).toNat x i
def jE7 (t:TkD) (a:Int) (x:List Int×List Int) (lo:Nat):Prop:=jFa (jrv t a) (la (tc t)).toNat (jmC (tj t)).toNat x/\x.2≠[]/\x.2.length<=10/\lo<=10
end U
def glo (σ:St) (s:Nat):Nat:=match σ.get s with
 | .osl _ _ lo _=>lo
 |_=>0
def jnw:j7:=⟨[.val (.uint .u64),.val (.uint .u64)],[.uint .u64,.uint .u64],false,fun d=>[0<=d.1,d.1<=1000,0<=d.2.1,d.2.1<=1000],fun d=>((0:Int),d.1*d.2.1,())⟩
abbrev q29_0 (d:Int×Int×Unit):=(d.1/(2:Int)^Int.toNat 32*wY d.2.1 (4294967295:Int)+wY d.1 (4294967295:Int)*wY d.2.1 (4294967295:Int)/(2:Int)^Int.toNat 32)
abbrev q29_1 (d:Int×Int×Unit):=(d.2.1/(2:Int)^Int.toNat 32)
abbrev q29_2 (d:Int×Int×Unit):=(wY (q29_0 d) (4294967295:Int)+wY d.1 (4294967295:Int)*(q29_1 d))
def jng:Prop:=∀(d:Int×Int×Unit),0<=d.1->d.1<=1000->0<=d.2.1->d.2.1<=1000->(0:Int)<=32/\(32:Int)<=64/\(0:Int)<=32/\(32:Int)<=64/\0<=wY d.1 (4294967295:Int)*wY d.2.1 (4294967295:Int)/\wY d.1 (4294967295:Int)*wY d.2.1 (4294967295:Int)<=18446744073709551615/\0<=d.1/(2:Int)^Int.toNat 32*wY d.2.1 (4294967295:Int)/\d.1/(2:Int)^Int.toNat 32*wY d.2.1 (4294967295:Int)<=18446744073709551615/\(0:Int)<=32/\(32:Int)<=64/\0<=d.1/(2:Int)^Int.toNat 32*wY d.2.1 (4294967295:Int)+wY d.1 (4294967295:Int)*wY d.2.1 (4294967295:Int)/(2:Int)^Int.toNat 32/\d.1/(2:Int)^Int.toNat 32*wY d.2.1 (4294967295:Int)+wY d.1 (4294967295:Int)*wY d.2.1 (4294967295:Int)/(2:Int)^Int.toNat 32<=18446744073709551615/\(0:Int)<=32/\(32:Int)<=64/\0<=wY d.1 (4294967295:Int)*(q29_1 d)/\wY d.1 (4294967295:Int)*(q29_1 d)<=18446744073709551615/\0<=wY (q29_0 d) (4294967295:Int)+wY d.1 (4294967295:Int)*(q29_1 d)/\wY (q29_0 d) (4294967295:Int)+wY d.1 (4294967295:Int)*(q29_1 d)<=18446744073709551615/\0<=d.1/(2:Int)^Int.toNat 32*(q29_1 d)/\d.1/(2:Int)^Int.toNat 32*(q29_1 d)<=18446744073709551615/\0<=d.1/(2:Int)^Int.toNat 32*(q29_1 d)+(q29_0 d)/(2:Int)^Int.toNat 32/\d.1/(2:Int)^Int.toNat 32*(q29_1 d)+(q29_0 d)/(2:Int)^Int.toNat 32<=18446744073709551615/\(0:Int)<=32/\(32:Int)<=64/\0<=d.1/(2:Int)^Int.toNat 32*(q29_1 d)+(q29_0 d)/(2:Int)^Int.toNat 32+(q29_2 d)/(2:Int)^Int.toNat 32/\d.1/(2:Int)^Int.toNat 32*(q29_1 d)+(q29_0 d)/(2:Int)^Int.toNat 32+(q29_2 d)/(2:Int)^Int.toNat 32<=18446744073709551615/\0<=d.1*d.2.1/\d.1*d.2.1<=18446744073709551615/\(d.1/(2:Int)^Int.toNat 32*(q29_1 d)+(q29_0 d)/(2:Int)^Int.toNat 32+(q29_2 d)/(2:Int)^Int.toNat 32,d.1*d.2.1,())=((0:Int),d.1*d.2.1,())
def jsj:j7:=⟨[.val (.uint .u64),.val (.uint .u64)],[.uint .u64,.uint .u64],false,fun d=>[0<=d.1,d.1<=1000,0<=d.2.1,d.2.1<=1000],fun d=>((0:Int),d.1*d.2.1,())⟩
def jrR:Prop:=∀(d:Int×Int×Unit),0<=d.1->d.1<=1000->0<=d.2.1->d.2.1<=1000->(false=true->False)/\(false=false->0<=d.1/\d.1<=1000/\0<=d.2.1/\d.2.1<=1000/\((0:Int),d.1*d.2.1,())=((0:Int),d.1*d.2.1,()))
def jig:zP:=⟨[.val (.slice .int),.val .int],[.cl (.row 3 .int .no)],fun d=>[d.1.length=1,0<=d.2.1,d.2.1<=1000],fun d=>((List.replicate d.2.1.toNat (nth d.1 0),()),())⟩
def jiD:Ann:=fun r=>match r with
 |8=>some fun σ=>{X:=Nat,sl:=fun n=>[(8,.dat .int (n:Int))],ob:=fun n=>[(7,some (.row 3 .int false .no (U.qF (nth (gd (.slice .int) σ 0) 0) (gd .int σ 1).toNat n)))],inv:=fun n=>n<=(gd .int σ 1).toNat/\(1<=n\/(gd .int σ 1).toNat=0),mu:=fun n=>(gd .int σ 1).toNat-n}
 |_=>none
abbrev q31_3 (d:List Int×Int×Unit):=(d.1.length:Int)
abbrev q31_1 (d:List Int×Int×Unit):=(List.replicate ((q31_3 d)*d.2.1).toNat (0:Int))
abbrev q31_4 (d:List Int×Int×Unit)(x:Nat):=(U.qF (nth d.1 0) d.2.1.toNat x)
abbrev q31_0 (d:List Int×Int×Unit)(x:Nat):=(↑(q31_4 d x).length:Int)
abbrev q31_2 (x:Nat)(d:List Int×Int×Unit):=(List.take ((x:Int).toNat-Int.toNat 0) (List.drop (Int.toNat 0) (q31_4 d x)))
abbrev q31_5 (d:List Int×Int×Unit)(x:Nat):=((q31_0 d x).toNat-(x:Int).toNat)
abbrev q31_6 (d:List Int×Int×Unit):=(decide ((0:Int)<0)||decide (9223372036854775807<(q31_3 d)*d.2.1))
def jhZ:Prop:=∀(d:List Int×Int×Unit),d.1.length=1->0<=d.2.1->d.2.1<=1000->(decide (d.2.1<0)=true->False)/\(decide (d.2.1<0)=false->d.1.length<4611686018427387904->0<=(q31_3 d)/\(q31_3 d)<=18446744073709551615/\0<=d.2.1/\d.2.1<=18446744073709551615/\0<=(q31_3 d)/\(q31_3 d)<=1000/\0<=d.2.1/\d.2.1<=1000/\((q31_6 d)=true->False)/\((q31_6 d)=false->jy ((q31_3 d)*d.2.1)/\0<=(q31_3 d)*d.2.1/\(q31_3 d)*d.2.1=(q31_3 d)*d.2.1/\((q31_3 d)*d.2.1).toNat*8<=140737488355328/\0+(q31_1 d).length<=(q31_1 d).length/\(∃(x:Nat),(((↑(List.take (q31_1 d).length d.1).length:Int)=(x:Int)/\True)/\jxy (q31_1 d) 0 (q31_1 d).length d.1=U.qF (nth d.1 0) d.2.1.toNat x/\True)/\x<=d.2.1.toNat/\(1<=x\/d.2.1.toNat=0))/\∀(x:Nat),x<=d.2.1.toNat/\(1<=x\/d.2.1.toNat=0)->(q31_4 d x).length<4611686018427387904->(decide ((x:Int)<(q31_0 d x))=true->0<=(x:Int)/\(x:Int)<=(q31_0 d x)/\(q31_0 d x)<=(q31_0 d x)/\(0:Int)<=0/\0<=(x:Int)/\(x:Int)<=(q31_0 d x)/\(x:Int).toNat+(q31_5 d x)<=(q31_4 d x).length/\jy ((x:Int)+(↑(List.take (q31_5 d x) (q31_2 x d)).length:Int))/\∃(a:Nat),(((x:Int)+(↑(List.take (q31_5 d x) (q31_2 x d)).length:Int)=(a:Int)/\True)/\jxy (q31_4 d x) (x:Int).toNat (q31_5 d x) (q31_2 x d)=U.qF (nth d.1 0) d.2.1.toNat a/\True)/\(a<=d.2.1.toNat/\(1<=a\/d.2.1.toNat=0))/\d.2.1.toNat-a<d.2.1.toNat-x)/\(decide ((x:Int)<(q31_0 d x))=false->(U.qF (nth d.1 0) d.2.1.toNat x,())=(List.replicate d.2.1.toNat (nth d.1 0),())/\()=())))
def wQ:j7:=⟨[.val (.ptr tTk),.val (.uint .u64)],[.slice .int],false,fun d=>[d.1.isSome=true,U.yt (U.tk d.1)],fun d=>(U.jbe (U.tk d.1) d.2.1,())⟩
def joL:Ann:=fun r=>match r with
 |4=>some fun σ=>{X:=Nat×List Int,sl:=fun x=>[(6,.osl 6 .int x.2.length (U.j0 (U.tk (gd (.ptr tTk) σ 0)) (gd (.uint .u64) σ 1) x.1).2.length)],ob:=fun x=>[(5,some (.row 3 .int false .no (U.j0 (U.tk (gd (.ptr tTk) σ 0)) (gd (.uint .u64) σ 1) x.1).1)),(6,some (.row 3 .int false .no (x.2++(U.j0 (U.tk (gd (.ptr tTk) σ 0)) (gd (.uint .u64) σ 1) x.1).2)))],inv:=fun x=>x.2.length<=x.1/\x.1<=(U.la (U.tc (U.tk (gd (.ptr tTk) σ 0)))).toNat,mu:=fun x=>(U.la (U.tc (U.tk (gd (.ptr tTk) σ 0)))).toNat+1-x.1}
 |7=>some fun σ=>{X:=Nat×List Int,sl:=fun x=>[(28,.any),(35,.dat .int (x.1:Int)),(6,.osl 6 .int x.2.length (U.qb (U.tk (gd (.ptr tTk) σ 0)) (gd (.uint .u64) σ 1) (gr .int σ 5,(gr .int σ 6).drop (glo σ 6)) x.1).2.length)],ob:=fun x=>[(5,some (.row 3 .int false .no (U.qb (U.tk (gd (.ptr tTk) σ 0)) (gd (.uint .u64) σ 1) (gr .int σ 5,(gr .int σ 6).drop (glo σ 6)) x.1).1)),(6,some (.row 3 .int false .no (x.2++(U.qb (U.tk (gd (.ptr tTk) σ 0)) (gd (.uint .u64) σ 1) (gr .int σ 5,(gr .int σ 6).drop (glo σ 6)) x.1).2)))],inv:=fun x=>x.1<=(gr .int σ 5).length/\x.2.length<=glo σ 6/\U.jE7 (U.tk (gd (.ptr tTk) σ 0)) (gd (.uint .u64) σ 1) (gr .int σ 5,(gr .int σ 6).drop (glo σ 6)) (glo σ 6),mu:=fun x=>(gr .int σ 5).length-x.1}
 |2000011=>some fun σ=>{X:=Unit,sl:=fun _=>[],ob:=fun _=>[],inv:=fun _=>True,mu:=fun _=>0}
 |_=>none
abbrev q32_1 (d:Option (CrD×JbD×LwD×Unit)×Int×Unit):=(jR (((0:Int),[],[],()),((0:Int),(0:Int),(0:Int),(0:Int),(0:Int),(0:Int),()),((0:Int),(0:Int),false,()),()) d.1)
abbrev q32_3 (d:Option (CrD×JbD×LwD×Unit)×Int×Unit)(x:Nat×List Int):=(U.j0 (U.tk d.1) d.2.1 x.1)
abbrev q32_2 (d:Option (CrD×JbD×LwD×Unit)×Int×Unit)(x:Nat×List Int):=((q32_3 d x).1,List.drop x.2.length (x.2++(q32_3 d x).2))
abbrev q32_0 (d:Option (CrD×JbD×LwD×Unit)×Int×Unit)(x:Nat×List Int)(a:Nat×List Int):=(U.qb (U.tk d.1) d.2.1 (q32_2 d x) a.1)
abbrev q32_4 (d:Option (CrD×JbD×LwD×Unit)×Int×Unit)(x:Nat×List Int)(a:Nat×List Int):=(nth (q32_0 d x a).1 (a.1:Int).toNat<0)
abbrev q32_5 (a:Nat×List Int):=(a.2.length+Int.toNat 0)
abbrev q32_6 (d:Option (CrD×JbD×LwD×Unit)×Int×Unit)(x:Nat×List Int)(a:Nat×List Int):=(U.qb (U.tk d.1) d.2.1 (q32_2 d x) a.1)
def jna:Prop:=∀(d:Option (CrD×JbD×LwD×Unit)×Int×Unit),d.1.isSome=true->U.yt (U.tk d.1)->d.1.isSome=true/\[(-1:Int)].length=1/\(0:Int)<=(q32_1 d).1.1/\(q32_1 d).1.1<=1000/\d.1.isSome=true/\(0:Int)<=(q32_1 d).2.1.2.1/\(q32_1 d).2.1.2.1<(↑(List.replicate (q32_1 d).1.1.toNat (nth [(-1:Int)] 0)).length:Int)/\d.1.isSome=true/\(∃(x:Nat×List Int),(((x.2.length=0/\(q32_3 d x).2.length=[(q32_1 d).2.1.2.1].length)/\True)/\(List.replicate (q32_1 d).1.1.toNat (nth [(-1:Int)] 0)).set (q32_1 d).2.1.2.1.toNat 0=(q32_3 d x).1/\[(q32_1 d).2.1.2.1]=x.2++(q32_3 d x).2/\True)/\x.2.length<=x.1/\x.1<=(U.la (U.tc (U.tk d.1))).toNat)/\∀(x:Nat×List Int),x.2.length<=x.1/\x.1<=(U.la (U.tc (U.tk d.1))).toNat->(q32_3 d x).2.length<4611686018427387904->(decide ((0:Int)<(↑(q32_3 d x).2.length:Int))=true->(q32_3 d x).1.length<4611686018427387904->(∃(a:Nat×List Int),((0=(a.1:Int)/\(x.2.length=a.2.length/\(q32_3 d x).2.length=(q32_0 d x a).2.length)/\True)/\(q32_3 d x).1=(q32_0 d x a).1/\x.2++(q32_3 d x).2=a.2++(q32_0 d x a).2/\True)/\a.1<=(q32_3 d x).1.length/\a.2.length<=x.2.length/\U.jE7 (U.tk d.1) d.2.1 (q32_2 d x) x.2.length)/\∀(a:Nat×List Int),a.1<=(q32_3 d x).1.length/\a.2.length<=x.2.length/\U.jE7 (U.tk d.1) d.2.1 (q32_2 d x) x.2.length->(decide ((a.1:Int)<(↑(q32_3 d x).1.length:Int))=true->0<=(a.1:Int)/\(a.1:Int)<(↑(q32_0 d x a).1.length:Int)/\(decide (q32_4 d x a)=true->(0:Int)<=0)/\(decide (q32_4 d x a)=true->(0:Int)<(↑(q32_0 d x a).2.length:Int))/\(decide (q32_4 d x a)=true->d.1.isSome=true)/\(decide (q32_4 d x a)=true->U.yt (U.tk d.1))/\(decide (q32_4 d x a)=true->0<=nth (a.2++(q32_0 d x a).2) (q32_5 a))/\(decide (q32_4 d x a)=true->nth (a.2++(q32_0 d x a).2) (q32_5 a)<U.la (U.tc (U.tk d.1)))/\(decide (q32_4 d x a)=true->0<=(a.1:Int))/\(decide (q32_4 d x a)=true->(a.1:Int)<U.la (U.tc (U.tk d.1)))/\((decide (q32_4 d x a)&&U.jcv (U.tk d.1) d.2.1 (nth (a.2++(q32_0 d x a).2) (q32_5 a)) (a.1:Int))=true->(0:Int)<=0/\(0:Int)<(↑(q32_0 d x a).2.length:Int)/\0<=nth (a.2++(q32_0 d x a).2) (q32_5 a)/\nth (a.2++(q32_0 d x a).2) (q32_5 a)<(↑(q32_0 d x a).1.length:Int)/\jy (nth (q32_0 d x a).1 (nth (a.2++(q32_0 d x a).2) (q32_5 a)).toNat+1)/\0<=(a.1:Int)/\(a.1:Int)<(↑(q32_0 d x a).1.length:Int)/\a.2.length+(q32_0 d x a).2.length=(a.2++(q32_0 d x a).2).length/\0<(q32_0 d x a).2.length/\a.2.length+(q32_0 d x a).2.length+[(a.1:Int)].length<4611686018427387904/\((q32_0 d x a).2.length+[(a.1:Int)].length)*8<=140737488355328/\∀(pre:List Int),pre.length<=a.2.length->jy ((a.1:Int)+1)/\∃(b:Nat×List Int),(((a.1:Int)+1=(b.1:Int)/\(pre.length=b.2.length/\(q32_0 d x a).2.length+[(a.1:Int)].length=(q32_6 d x b).2.length)/\True)/\pre++List.drop a.2.length (a.2++(q32_0 d x a).2)++[(a.1:Int)]=b.2++(q32_6 d x b).2/\(q32_0 d x a).1.set (a.1:Int).toNat (nth (q32_0 d x a).1 (nth (a.2++(q32_0 d x a).2) (q32_5 a)).toNat+1)=(q32_6 d x b).1/\True)/\(b.1<=(q32_3 d x).1.length/\b.2.length<=x.2.length/\U.jE7 (U.tk d.1) d.2.1 (q32_2 d x) x.2.length)/\(q32_3 d x).1.length-b.1<(q32_3 d x).1.length-a.1)/\((decide (q32_4 d x a)&&U.jcv (U.tk d.1) d.2.1 (nth (a.2++(q32_0 d x a).2) (q32_5 a)) (a.1:Int))=false->jy ((a.1:Int)+1)/\∃(b:Nat×List Int),(((a.2.length=b.2.length/\(q32_0 d x a).2.length=(q32_6 d x b).2.length)/\(a.1:Int)+1=(b.1:Int)/\True)/\a.2++(q32_0 d x a).2=b.2++(q32_6 d x b).2/\(q32_0 d x a).1=(q32_6 d x b).1/\True)/\(b.1<=(q32_3 d x).1.length/\b.2.length<=x.2.length/\U.jE7 (U.tk d.1) d.2.1 (q32_2 d x) x.2.length)/\(q32_3 d x).1.length-b.1<(q32_3 d x).1.length-a.1))/\(decide ((a.1:Int)<(↑(q32_3 d x).1.length:Int))=false->(0:Int)<=1/\(1:Int)<=(↑(q32_0 d x a).2.length:Int)/\(↑(q32_0 d x a).2.length:Int)<=(↑(q32_0 d x a).2.length:Int)/\∃(b:Nat×List Int),(((a.2.length+Int.toNat 1=b.2.length/\(↑(q32_0 d x a).2.length:Int).toNat-Int.toNat 1=(U.j0 (U.tk d.1) d.2.1 b.1).2.length)/\True)/\(q32_0 d x a).1=(U.j0 (U.tk d.1) d.2.1 b.1).1/\a.2++(q32_0 d x a).2=b.2++(U.j0 (U.tk d.1) d.2.1 b.1).2/\True)/\(b.2.length<=b.1/\b.1<=(U.la (U.tc (U.tk d.1))).toNat)/\(U.la (U.tc (U.tk d.1))).toNat+1-b.1<(U.la (U.tc (U.tk d.1))).toNat+1-x.1))/\(decide ((0:Int)<(↑(q32_3 d x).2.length:Int))=false->((q32_3 d x).1,())=(U.jbe (U.tk d.1) d.2.1,()))
end Go.X
namespace Go.X
open Go.Proofs
theorem jni {x:Int} (a:0<=x) (b:x<=4294967295):wY x 4294967295=x:=by
 obtain⟨n,rfl⟩:∃n:Nat,x=(n:Int):=⟨x.toNat,by omega⟩;rw[show(4294967295:Int)=((4294967295:Nat):Int) from rfl,BT.uand_nat (by omega) (by omega),show(4294967295:Nat)=2^32-1 from rfl,Nat.and_two_pow_sub_one_eq_mod,Nat.mod_eq_of_lt (by omega)]
theorem jqD:jng:=by
 unfold jng q29_2 q29_1 q29_0;rintro⟨x,y,⟨⟩⟩ b c a d;simp only at b c a d;have f:=jni b (by omega);have g:=jni a (by omega);have e:=jni (x:=0) (by omega) (by omega);have h:x/2^Int.toNat 32=0:=Int.ediv_eq_zero_of_lt b (by show x<2^32;omega);have i:y/2^Int.toNat 32=0:=Int.ediv_eq_zero_of_lt a (by show y<2^32;omega);have k:0<=x*y:=Int.mul_nonneg b a;have l:x*y<=1000*1000:=Int.mul_le_mul c d a (by omega);have c1:x*y/2^Int.toNat 32=0:=Int.ediv_eq_zero_of_lt k (by show x*y<2^32;omega);have j:(0:Int)/2^Int.toNat 32=0:=Int.zero_ediv _;simp only[f,g,h,i,Int.zero_mul,Int.mul_zero,Int.zero_add,Int.add_zero,c1,e,j]
 and_intros<;>first|omega|rfl|trivial
theorem jnY:zu PR 201 jnw:=jZ jqD Tryz.func201 kcN koN
theorem jwH:jrR:=by
 rintro⟨x,y,⟨⟩⟩ a b c d;exact⟨fun h=>(by cases h),fun _=>⟨a,b,c,d,rfl⟩⟩
theorem jsZ:zu PR 194 jsj:=jZ jwH Tryz.func194 (kcC jnY kcN) koN
theorem joh {x:Int} {N n:Nat} (h:n<=N):(U.qF x N n).length=N:=by
 unfold U.qF;simp;omega
theorem jqu {x:Int} {N n:Nat} (h:n<=N):(U.qF x N n).take n=List.replicate n x:=by
 unfold U.qF;rw[List.take_append_of_le_length (by simp),jHU (by simp)]
theorem jzB {x:Int} {N n:Nat} (h:n<=N):jxy (U.qF x N n) n (N-n) (List.replicate n x)=U.qF x N (n+min (N-n) n):=by
 unfold jxy;rw[jqu h,List.take_replicate,jH3];unfold U.qF;rw[List.drop_append,jH3,List.drop_of_length_le (by simp),jHz,List.drop_replicate,<-List.replicate_append_replicate];congr 2;omega
theorem jkx:jhZ:=by
 unfold jhZ q31_6 q31_5 q31_2 q31_0 q31_4 q31_1 q31_3;rintro⟨l,n,⟨⟩⟩ b g e;simp only at b g e;obtain⟨N,rfl⟩:∃N:Nat,n=(N:Int):=⟨n.toNat,by omega⟩;obtain⟨y,rfl⟩:∃y,l=[y]:=by
  cases l with
  |nil=>simp at b
  |cons y r=>cases r with
   |nil=>exact⟨y,rfl⟩
   |cons z r=>simp at b
 have c:(([y].length:Nat):Int)*(N:Int)=(N:Int):=(by simp);have f:nth [y] 0=y:=rfl
 dsimp only
 refine⟨fun h=> ?_,fun _ _=>⟨by simp,by simp,by omega,by omega,by simp,by simp,by omega,e,fun h=> ?_,fun _=> ?_⟩⟩
 .have:=of_decide_eq_true h;omega
 .rw[c] at h;have h:(9223372036854775807:Int)<(N:Int):=(by simpa using h);omega
 rw[c,f];simp only[jG7,jH3];refine⟨L.in64 (by omega) (by omega),by omega,trivial,by omega,by omega,⟨min 1 N,⟨⟨?_,trivial⟩,?_,trivial⟩,by omega,by omega⟩,fun x a i=>⟨fun h=> ?_,fun h=> ?_⟩⟩
 .rw[jHC];simp only[jHD,jHJ];omega
 .rcases jIf N with d|d
  .subst d;rfl
  .obtain⟨M,rfl⟩:∃M,N=M+1:=⟨N-1,by omega⟩;have:min 1 (M+1)=1:=(by omega);rw[this];simp[jxy,U.qF,List.replicate_succ]
 .have h:=of_decide_eq_true h;rw[joh a.1] at h;simp only[joh a.1,jG7,Int.toNat_zero,List.drop_zero,Nat.sub_zero,jqu a.1,List.take_replicate,jH3];refine⟨by omega,by omega,by omega,by omega,by omega,by omega,by omega,L.in64 (by omega) (by omega),x+min (N-x) x,⟨⟨by omega,trivial⟩,jzB a.1,trivial⟩,⟨by omega,by omega⟩,by omega⟩
 .have h:=of_decide_eq_false h;rw[joh a.1] at h;have h:x=N:=(by have:=a.1;omega);subst h;refine⟨?_,trivial⟩;unfold U.qF;rw[Nat.sub_self];simp
theorem jip:qa PR 173 jig:=jdH jiD jkx Tryz.func173 (kcC jsZ kcN) koN
theorem jD7 {a b:List Int}:nth (a++b) (a.length+Int.toNat 0)=nth b 0:=by
 unfold nth;simp only[jHG,Int.toNat_zero,jIh];rw[jHe (jG5 _),Nat.sub_self]
theorem jqS {t:TkD} {s:Int} (a:U.yt t):2<=U.la (U.tc t)/\U.la (U.tc t)<=5/\0<=U.jmC (U.tj t)/\U.jmC (U.tj t)<U.la (U.tc t):=by
 obtain⟨c1,c2,_⟩:=a;obtain⟨b,c,_⟩:=jv c1;obtain⟨_,⟨d,e⟩,_⟩:=jcw c2;exact⟨b,c,d,e⟩
theorem jqx:jna:=by
 unfold jna q32_6 q32_5 q32_4 q32_0 q32_2 q32_3 q32_1;rintro⟨(_|t),s,⟨⟩⟩ h0 m
 .cases h0
 have m:U.yt t:=m;obtain⟨l1,l2,j1,j2⟩:=jqS (s:=s) m;have w:U.tk (some t)=t:=rfl;obtain⟨n,A⟩:∃n,n=(U.la (U.tc t)).toNat:=⟨_,rfl⟩;obtain⟨v,hv⟩:∃v,v=(U.jmC (U.tj t)).toNat:=⟨_,rfl⟩;have hs:v<n:=(by omega);have Y:∀k,jFa (U.jrv t s) n v (U.j0 t s k)/\((U.j0 t s k).2=[]\/jql (U.j0 t s k).1+(U.j0 t s k).2.length+k=n):=by
  intro k;rw[A,hv] at*;exact jjG hs k
 refine⟨rfl,rfl,(by omega:0<=U.la (U.tc t)),(by omega:U.la (U.tc t)<=1000),rfl,j1,?_,rfl,⟨(0,[]),⟨⟨⟨rfl,rfl⟩,trivial⟩,rfl,?_,trivial⟩,jG5 _,jHd _⟩,fun x hx T=>⟨fun j V=> ?_,fun h=> ?_⟩⟩
 .show U.jmC (U.tj t)<(((List.replicate (U.la (U.tc t)).toNat (nth [(-1:Int)] 0)).length:Nat):Int);rw[jH3];omega
 .show[U.jmC (U.tj t)]=[]++[(((U.jmC (U.tj t)).toNat:Nat):Int)];rw[jHz,Int.toNat_of_nonneg j1]
 .obtain⟨k,pre⟩:=x;obtain⟨X,H⟩:=hx;simp only[w,List.drop_left] at X H j V T⊢;rw[<-A] at H⊢;obtain⟨B,o⟩:=Y k;have j:0<(U.j0 t s k).2.length:=(by have:=of_decide_eq_true j;omega);have d:(U.j0 t s k).2≠[]:=fun e=>by rw[e] at j;simp at j
  have F:=B.i.len;rcases o with o|o
  .exact absurd o d
  have p:U.j0 t s (k+1)=U.qx (U.jrv t s) n (U.j0 t s k):=(by rw[A];rfl);generalize W:U.j0 t s k=x0 at*;obtain⟨g,r0,a⟩:∃q r,x0.2=q::r:=by
   cases I:x0.2 with
   |nil=>exact absurd I d
   |cons q r=>exact⟨q,r,rfl⟩
  obtain⟨M,g2,g3⟩:=B.i.que g (by rw[a];simp);have y:nth x0.2 0=g:=(by rw[a];rfl);have hla:((n:Nat):Int)=U.la (U.tc t):=(by omega);have f:U.jE7 t s (x0.1,x0.2) pre.length:=by
   unfold U.jE7;rw[<-A,<-hv];exact⟨B,d,by simp only;omega,by omega⟩
  refine⟨⟨(0,pre),⟨⟨rfl,⟨rfl,rfl⟩,trivial⟩,rfl,rfl,trivial⟩,jHd _,jG5 _,f⟩,?_⟩;rintro⟨i,p5⟩ ⟨hi,R,_⟩;simp only at hi R;have C:InI (U.jrv t s) n v g.toNat i x0 (U.qb t s (x0.1,x0.2) i):=by
   have:=jzA (J:=U.jrv t s) hs (q:=g.toNat) (by omega) g3 B.i B.le i (by omega);unfold U.qb;simp only[y];exact this
  have c:U.qb t s (x0.1,x0.2) (i+1)=U.jgr (U.jrv t s) g.toNat (U.qb t s (x0.1,x0.2) i) i:=by
   unfold U.qb;simp only[y];exact jmZ _ _ _ _
  have D:i=n->U.j0 t s (k+1)=((U.qb t s (x0.1,x0.2) i).1,(U.qb t s (x0.1,x0.2) i).2.drop 1):=by
   intro e;subst e;rw[p];have:U.qx (U.jrv t s) i x0=((U.jgs (U.jrv t s) g.toNat x0 i).1,(U.jgs (U.jrv t s) g.toNat x0 i).2.drop 1):=by
    clear p c C f F d B Y W;obtain⟨st,qu⟩:=x0;simp only at a;subst a;rfl
   rw[this];unfold U.qb;simp only[y]
  generalize hFI:U.qb t s (x0.1,x0.2) i=u at*;obtain⟨l,Q⟩:=C.pre;have hQ:nth u.2 0=g:=(by rw[Q,a];rfl);have G:0<u.2.length:=(by rw[Q,a];simp);have hmu:=C.mu;have hFl:=C.i.len;have E:∀i:Nat,U.jrv t s g.toNat i=U.jcv t s g (i:Int):=by
   intro i;unfold U.jrv;rw[Int.toNat_of_nonneg M]
  simp only[jD7,hQ];simp only[jG7];refine⟨fun h=> ?_,fun h=> ?_⟩
  .have h:i<n:=(by have:=of_decide_eq_true h;omega);refine⟨by omega,by omega,fun _=>by omega,fun _=>by omega,fun _=>rfl,fun _=>m,fun _=>M,fun _=>by omega,fun _=>by omega,fun _=>by omega,fun z=> ?_,fun z=> ?_⟩
   .rw[jG3] at z;have h3:=of_decide_eq_true z.1;have Z:=C.i.low g.toNat (by omega);have b:U.qb t s (x0.1,x0.2) (i+1)=(u.1.set i (nth u.1 g.toNat+1),u.2++[(i:Int)]):=by
     rw[c];unfold U.jgr;rw[if_pos ⟨h3,by rw[E];exact z.2⟩]
    refine⟨by omega,by omega,M,by omega,L.in64 (by omega) (by omega),by omega,by omega,by simp,G,by simp only[jHD,jHJ];omega,by simp only[jHD,jHJ];omega,fun K S=>⟨L.in64 (by omega) (by omega),(i+1,K),⟨⟨by simp,⟨rfl,?_⟩,trivial⟩,?_,?_,trivial⟩,⟨by simp only;omega,by simp only;omega,f⟩,by simp only;omega⟩⟩
    .rw[b];simp
    .rw[b,jHn]
    .rw[b]
   .have b:U.qb t s (x0.1,x0.2) (i+1)=u:=by
     rw[c];unfold U.jgr;rw[if_neg (fun O=>by
      rw[E] at O;rw[O.2,decide_eq_true O.1] at z;cases z)]
    refine⟨L.in64 (by omega) (by omega),(i+1,p5),⟨⟨⟨rfl,?_⟩,by simp,trivial⟩,?_,?_,trivial⟩,⟨by simp only;omega,by simp only;omega,f⟩,by simp only;omega⟩
    .rw[b]
    .rw[b]
    .rw[b]
  .have h:i=n:=(by have:=of_decide_eq_false h;omega);have P:=D h;have N:u.2=g::(r0++l):=(by rw[Q,a];rfl);refine⟨by omega,by omega,by omega,(k+1,p5++[g]),⟨⟨⟨?_,?_⟩,trivial⟩,?_,?_,trivial⟩,⟨by simp only[jHo,jHD,jHJ];omega,by simp only;omega⟩,by simp only;omega⟩
   .simp only[jHo,jHD,jHJ];rfl
   .rw[P];simp only[jIo];rfl
   .rw[P]
   .rw[P,N];simp
 .simp only[w] at h⊢;have h:(U.j0 t s x.1).2=[]:=by
   have:=of_decide_eq_false h;exact jHL (by omega)
  have hk:x.1<=n:=(by have:=hx.2;rw[w,<-A] at this;exact this);have h1:U.qN (U.jrv t s) (U.la (U.tc t)).toNat (U.jmC (U.tj t)).toNat ((U.la (U.tc t)).toNat+1)=U.j0 t s x.1:=jCD (k:=x.1) h _ (by rw[<-A];omega);show((U.j0 t s x.1).1,())=((U.qN (U.jrv t s) (U.la (U.tc t)).toNat (U.jmC (U.tj t)).toNat ((U.la (U.tc t)).toNat+1)).1,());rw[h1]
theorem jnU:zu PR 127 wQ:=wi joL jqx Tryz.func127 (kcC jik kcN) (koC jip koN)
end Go.X
namespace Go.X
open Go.Proofs
namespace U
def yL (t:TkD) (o:Int) (q:List (Int×PeD×Unit)):Int:=q.foldl (fun o x=>uor o (kV t x.2.1)) o
def jax (q:List (Int×PeD×Unit)):Bool:=q.any (fun x=>jEC x.2.1)
def jlC (b:Bool) (o k:Int):Int:=if b=true then uor o k else o
def kC (t:TkD) (s:Int):Int:=jlC (decide (nth (jbe t s) (jrx (tj t)).toNat<0)) (jlC (jGe (tl t)&& !jax (jhJ t s)) (jlC (decide (BT.size s≠max (jBS (tj t)) (jEe (tl t)))) (yL t 0 (jhJ t s)) 8) 16) 32
def joe (c:CrD) (n:Int):Bool:=ja n 0 (2^(je c).length-1)
def va (c:CrD) (j:JbD) (n:Int):Int:=if kj c j≠0 then kj c j else if joe c n=true then 0 else 1
def jE8 (c:CrD) (j:JbD) (n:Int):Int:=if va c j n=0 then kC (c,j,yP c j,()) n else 0
def yy (c:CrD) (j:JbD) (n:Nat):List Int:=((List.range n).filter (fun i=>decide (kV (c,j,yP c j,()) (nth (je c) i)=0))).map (fun(i:Nat)=>(i:Int))
def kE (c:CrD) (j:JbD):List Int:=if kj c j=0 then yy c j (je c).length else[]
end U
def kQ:j7:=⟨[.val (.ptr tTk),.val tPe],[.uint .u64],false,fun d=>[d.1.isSome=true,U.yt (U.tk d.1)],fun d=>(U.kV (U.tk d.1) d.2.1,())⟩
def jys:jro [.int,tPe]:={ps:=[.ref (.ptr tTk),.own (.box 132 [.dat (.uint .u64)]) true,.own (.box 4 [.dat .bool]) true],slots:=[2,4,5],dst:=65,pre:=fun d=>[d.1.isSome=true,U.yt (U.tk d.1)],G:=fun d q=>((U.yL (U.tk d.1) d.2.1.1 q,()),(d.2.2.1.1||U.jax q,()),()),seq:=juK}
def jjj:Nat->Option ((ts:List Ty)×jro ts):=fun r=>match r with
 |4=>some ⟨[.int,tPe],jys⟩
 |_=>none
def jbs:j7:=⟨[.val (.ptr tTk),.val (.uint .u64)],[.uint .u64],false,fun d=>[d.1.isSome=true,U.yt (U.tk d.1),BT.Set' d.2.1],fun d=>(U.kC (U.tk d.1) d.2.1,())⟩
abbrev q33_0 (d:Option (CrD×JbD×LwD×Unit)×Int×Unit):=(jR (((0:Int),[],[],()),((0:Int),(0:Int),(0:Int),(0:Int),(0:Int),(0:Int),()),((0:Int),(0:Int),false,()),()) d.1)
abbrev q33_1 (d:Option (CrD×JbD×LwD×Unit)×Int×Unit):=(nth (U.jbe (U.tk d.1) d.2.1) (q33_0 d).2.1.1.toNat<0)
abbrev q33_2 (d:Option (CrD×JbD×LwD×Unit)×Int×Unit):=(U.kC (U.tk d.1) d.2.1,())
abbrev q33_3 (d:Option (CrD×JbD×LwD×Unit)×Int×Unit):=(↑(U.jbe (U.tk d.1) d.2.1).length:Int)
def jbo:Prop:=∀(d:Option (CrD×JbD×LwD×Unit)×Int×Unit),d.1.isSome=true->U.yt (U.tk d.1)->BT.Set' d.2.1->(d.1.isSome=true/\(U.je (U.tc (U.tk d.1))).length<=60)/\(d.1.isSome=true/\U.yt (U.tk d.1)/\True)/\(d.1,(U.yL (U.tk d.1) (0:Int) [],()),(false||U.jax [],()),())=(d.1,((0:Int),()),(false,()),())/\(∀(q:List (Int×PeD×Unit)) (x:Int×PeD×Unit) (rest:List (Int×PeD×Unit)),q++x::rest=U.jhJ (U.tk d.1) d.2.1->wx (fun(a:List (Int×PeD×Unit))=>false) q->d.1.isSome=true/\U.yt (U.tk d.1)/\false=false/\((uor (U.yL (U.tk d.1) (0:Int) q) (U.kV (U.tk d.1) x.2.1),()),(false||U.jax q||x.2.1.2.2.2.2.1,()),())=((U.yL (U.tk d.1) (0:Int) (q++[x]),()),(false||U.jax (q++[x]),()),()))/\(∀(xs:List (Int×PeD×Unit)),xs=U.jhJ (U.tk d.1) d.2.1->wx (fun(b:List (Int×PeD×Unit))=>false) xs->BT.Set' d.2.1/\d.1.isSome=true/\d.1.isSome=true/\(decide (BT.size d.2.1≠max (q33_0 d).2.1.2.2.2.2.2.1 (q33_0 d).2.2.1.2.1)=true->d.1.isSome=true/\(((q33_0 d).2.2.1.2.2.1&& !(false||U.jax xs))=true->d.1.isSome=true/\U.yt (U.tk d.1)/\d.1.isSome=true/\(0:Int)<=(q33_0 d).2.1.1/\(q33_0 d).2.1.1<(q33_3 d)/\(decide (q33_1 d)=true->(uor (uor (uor (U.yL (U.tk d.1) (0:Int) xs) (8:Int)) (16:Int)) (32:Int),())=(q33_2 d))/\(decide (q33_1 d)=false->(uor (uor (U.yL (U.tk d.1) (0:Int) xs) (8:Int)) (16:Int),())=(q33_2 d)))/\(((q33_0 d).2.2.1.2.2.1&& !(false||U.jax xs))=false->d.1.isSome=true/\U.yt (U.tk d.1)/\d.1.isSome=true/\(0:Int)<=(q33_0 d).2.1.1/\(q33_0 d).2.1.1<(q33_3 d)/\(decide (q33_1 d)=true->(uor (uor (U.yL (U.tk d.1) (0:Int) xs) (8:Int)) (32:Int),())=(q33_2 d))/\(decide (q33_1 d)=false->(uor (U.yL (U.tk d.1) (0:Int) xs) (8:Int),())=(q33_2 d))))/\(decide (BT.size d.2.1≠max (q33_0 d).2.1.2.2.2.2.2.1 (q33_0 d).2.2.1.2.1)=false->d.1.isSome=true/\(((q33_0 d).2.2.1.2.2.1&& !(false||U.jax xs))=true->d.1.isSome=true/\U.yt (U.tk d.1)/\d.1.isSome=true/\(0:Int)<=(q33_0 d).2.1.1/\(q33_0 d).2.1.1<(q33_3 d)/\(decide (q33_1 d)=true->(uor (uor (U.yL (U.tk d.1) (0:Int) xs) (16:Int)) (32:Int),())=(q33_2 d))/\(decide (q33_1 d)=false->(uor (U.yL (U.tk d.1) (0:Int) xs) (16:Int),())=(q33_2 d)))/\(((q33_0 d).2.2.1.2.2.1&& !(false||U.jax xs))=false->d.1.isSome=true/\U.yt (U.tk d.1)/\d.1.isSome=true/\(0:Int)<=(q33_0 d).2.1.1/\(q33_0 d).2.1.1<(q33_3 d)/\(decide (q33_1 d)=true->(uor (U.yL (U.tk d.1) (0:Int) xs) (32:Int),())=(q33_2 d))/\(decide (q33_1 d)=false->(U.yL (U.tk d.1) (0:Int) xs,())=(q33_2 d)))))/\∀(q:List (Int×PeD×Unit)) (x:Int×PeD×Unit) (rest:List (Int×PeD×Unit)),q++x::rest=U.jhJ (U.tk d.1) d.2.1->wx (fun(c:List (Int×PeD×Unit))=>false) q->false=true->(U.yL (U.tk d.1) (0:Int) (q++[x]),())=(q33_2 d)
theorem jdX:(juu (jry 64 [(95,kQ),(126,wR),(127,wQ)] [] [(125,jN)] []) jbs (fun _ _=>none) (hkC (jry 64 [(95,kQ),(126,wR),(127,wQ)] [] [(125,jN)] []) (fun _=>none) jjj [] []) Tryz.f104 (zZ Tryz.f104))=jbo:=by kernel_rfl
def jx1:j7:=⟨[.val tCr,.val tJb,.val .int],[.ptr tTk,.int],false,fun _=>[],fun d=>(U.jmm d.1 d.2.1,U.va d.1 d.2.1 d.2.2.1,())⟩
abbrev q34_1 (d:CrD×JbD×Int×Unit):=(U.kj d.1 d.2.1=0)
abbrev q34_0 (d:CrD×JbD×Int×Unit):=(decide (q34_1 d)&& !U.ja d.2.2.1 (0:Int) ((1:Int)*2^(d.1.2.1.length:Int).toNat-1))
def jxE:Prop:=∀(d:CrD×JbD×Int×Unit),(decide (q34_1 d)=true->d.1.2.1.length<4611686018427387904)->(decide (q34_1 d)=true->0<=(d.1.2.1.length:Int))/\(decide (q34_1 d)=true->(d.1.2.1.length:Int)<=64)/\(decide (q34_1 d)=true->jy ((1:Int)*2^(d.1.2.1.length:Int).toNat))/\(decide (q34_1 d)=true->jy ((1:Int)*2^(d.1.2.1.length:Int).toNat-1))/\((q34_0 d)=true->(U.jmm d.1 d.2.1,(1:Int),())=(U.jmm d.1 d.2.1,U.va d.1 d.2.1 d.2.2.1,()))/\((q34_0 d)=false->(U.jmm d.1 d.2.1,U.kj d.1 d.2.1,())=(U.jmm d.1 d.2.1,U.va d.1 d.2.1 d.2.2.1,()))
def jr7:j7:=⟨[.val tCr,.val tJb,.val .int],[.int,.int],false,fun _=>[],fun d=>(U.jE8 d.1 d.2.1 d.2.2.1,U.va d.1 d.2.1 d.2.2.1,())⟩
def jrE:Prop:=∀(d:CrD×JbD×Int×Unit),(decide (U.va d.1 d.2.1 d.2.2.1≠0)=true->((0:Int),U.va d.1 d.2.1 d.2.2.1,())=(U.jE8 d.1 d.2.1 d.2.2.1,U.va d.1 d.2.1 d.2.2.1,()))/\(decide (U.va d.1 d.2.1 d.2.2.1≠0)=false->0<=d.2.2.1/\d.2.2.1<=18446744073709551615/\(U.jmm d.1 d.2.1).isSome=true/\U.yt (U.tk (U.jmm d.1 d.2.1))/\BT.Set' d.2.2.1/\jy (U.kC (U.tk (U.jmm d.1 d.2.1)) d.2.2.1)/\(U.kC (U.tk (U.jmm d.1 d.2.1)) d.2.2.1,(0:Int),())=(U.jE8 d.1 d.2.1 d.2.2.1,U.va d.1 d.2.1 d.2.2.1,()))
def jBg:j7:=⟨[.val tCr,.val tJb],[.slice .int,.int],false,fun _=>[],fun d=>(U.kE d.1 d.2.1,U.kj d.1 d.2.1,())⟩
def jCJ:Ann:=fun r=>match r with
 |6=>some fun σ=>{X:=Nat,sl:=fun i=>[(23,.dat .int (i:Int)),(8,.own 8 .int)],ob:=fun i=>[(8,some (.row 3 .int false .yes (U.yy (gd tCr σ 0) (gd tJb σ 1) i)))],inv:=fun i=>i<=(U.je (gd tCr σ 0)).length,mu:=fun i=>(U.je (gd tCr σ 0)).length-i}
 |_=>none
def jA6:Prop:=∀(d:CrD×JbD×Unit),(decide (U.kj d.1 d.2.1≠0)=true->([],U.kj d.1 d.2.1,())=(U.kE d.1 d.2.1,U.kj d.1 d.2.1,()))/\(decide (U.kj d.1 d.2.1≠0)=false->d.1.2.1.length<4611686018427387904->(∃(x:Nat),((0=(x:Int)/\True/\True)/\U.yy d.1 d.2.1 x=[]/\True)/\x<=(U.je d.1).length)/\∀(x:Nat),x<=(U.je d.1).length->(decide ((x:Int)<(d.1.2.1.length:Int))=true->0<=(x:Int)/\(x:Int)<(d.1.2.1.length:Int)/\(U.jmm d.1 d.2.1).isSome=true/\U.yt (U.tk (U.jmm d.1 d.2.1))/\(decide (U.kV (U.tk (U.jmm d.1 d.2.1)) (nth d.1.2.1 (x:Int).toNat)=0)=true->((U.yy d.1 d.2.1 x).length+[(x:Int)].length)*8<=140737488355328/\jy ((x:Int)+1)/\∃(a:Nat),(((x:Int)+1=(a:Int)/\True/\True)/\U.yy d.1 d.2.1 x++[(x:Int)]=U.yy d.1 d.2.1 a/\True)/\a<=(U.je d.1).length/\(U.je d.1).length-a<(U.je d.1).length-x)/\(decide (U.kV (U.tk (U.jmm d.1 d.2.1)) (nth d.1.2.1 (x:Int).toNat)=0)=false->jy ((x:Int)+1)/\∃(a:Nat),((True/\(x:Int)+1=(a:Int)/\True)/\U.yy d.1 d.2.1 x=U.yy d.1 d.2.1 a/\True)/\a<=(U.je d.1).length/\(U.je d.1).length-a<(U.je d.1).length-x))/\(decide ((x:Int)<(d.1.2.1.length:Int))=false->(U.yy d.1 d.2.1 x,(0:Int),())=(U.kE d.1 d.2.1,U.kj d.1 d.2.1,())))
end Go.X
namespace Go.X
open Go.Proofs
theorem jxR (a b c:Bool):0<=U.jvI a b c/\U.jvI a b c<=7:=by
 unfold U.jvI U.jE6;cases a<;>cases b<;>cases c<;>simp
theorem jlg (t:TkD) (p:PeD):0<=U.kV t p/\U.kV t p<=7:=jxR _ _ _
theorem jpG {s:Int} (h:0<=s/\s<=1000):BT.Set' s:=by unfold BT.Set';omega
theorem jxM {a b:Int} (c:0<=a/\a<64) (d:0<=b/\b<64):0<=uor a b/\uor a b<64:=by
 obtain⟨n,rfl⟩:∃n:Nat,a=(n:Int):=⟨a.toNat,by omega⟩;obtain⟨m,rfl⟩:∃m:Nat,b=(m:Int):=⟨b.toNat,by omega⟩;rw[BT.uor_nat (by omega) (by omega)];have:n|||m<2^6:=Nat.or_lt_two_pow (by omega) (by omega);omega
theorem jrU (t:TkD):∀(q:List (Int×PeD×Unit)) (o:Int),(0<=o/\o<64)->0<=U.yL t o q/\U.yL t o q<64
 |[],o,h=>h
 |x::q,o,h=>by
  have:=jlg t x.2.1
  exact jrU t q _ (jxM h ⟨by omega,by omega⟩)
theorem jjV {b:Bool} {o k:Int} (h:0<=o/\o<64) (hk:0<=k/\k<64):0<=U.jlC b o k/\U.jlC b o k<64:=by
 unfold U.jlC
 split
 .exact jxM h hk
 .exact h
theorem jxb (t:TkD) (s:Int):0<=U.kC t s/\U.kC t s<64:=by
 unfold U.kC;exact jjV (jjV (jjV (jrU t _ _ (by omega)) (by omega)) (by omega)) (by omega)
theorem jxN (t:TkD) (o:Int) (q:List (Int×PeD×Unit)) (x:Int×PeD×Unit):U.yL t o (q++[x])=uor (U.yL t o q) (U.kV t x.2.1):=by
 unfold U.yL;rw[jHk];rfl
theorem jCh {t:TkD} {s:Int} (a:U.yt t):((U.jbe t s).length:Int)=U.la (U.tc t):=by
 obtain⟨f,g,c,d⟩:=jqS (s:=s) a;have b:(U.jmC (U.tj t)).toNat<(U.la (U.tc t)).toNat:=(by omega);have:=(jjG (J:=U.jrv t s) b ((U.la (U.tc t)).toNat+1)).1.i.len;have e:(U.jbe t s).length=(U.la (U.tc t)).toNat:=this;omega
theorem jkt:jbo:=by
 unfold jbo q33_3 q33_2 q33_1 q33_0;rintro⟨(_|t),s,⟨⟩⟩ n a c
 .cases n
 have a:U.yt t:=a;have c:BT.Set' s:=c;obtain⟨c1,c2,_⟩:=id a;obtain⟨_,_,p,_⟩:=jv c1;obtain⟨⟨m,r⟩,_⟩:=jcw c2;have o:=jCh (s:=s) a;have f:U.tk (some t)=t:=rfl;have b:0<=U.jrx (U.tj t)/\U.jrx (U.tj t)<(((U.jbe t s).length:Nat):Int):=⟨m,by omega⟩;refine⟨⟨rfl,(by omega:(U.je (U.tc t)).length<=60)⟩,⟨rfl,a,trivial⟩,rfl,fun q x rest u _=>⟨rfl,a,rfl,?_⟩,fun xs g _=>⟨c,rfl,rfl,?_⟩,fun q x rest _ _ h=>by cases h⟩
 .simp only[f,jxN];unfold U.jax;simp only[List.any_append,List.any_cons,List.any_nil,Bool.or_false,Bool.false_or];rfl
 .simp only[f] at g⊢;subst g;have key:∀(j k l:Bool),decide (BT.size s≠max (U.jBS (U.tj t)) (U.jEe (U.tl t)))=j->(U.jGe (U.tl t)&& !U.jax (U.jhJ t s))=k->decide (nth (U.jbe t s) (U.jrx (U.tj t)).toNat<0)=l->
   U.jlC l (U.jlC k (U.jlC j (U.yL t 0 (U.jhJ t s)) 8) 16) 32=U.kC t s:=by
   intro j k l i e d;unfold U.kC;rw[i,e,d]
  refine⟨fun i=>⟨rfl,fun e=>⟨rfl,a,rfl,b.1,b.2,fun d=> ?_,fun d=> ?_⟩,fun e=>⟨rfl,a,rfl,b.1,b.2,fun d=> ?_,fun d=> ?_⟩⟩,fun i=>⟨rfl,fun e=>⟨rfl,a,rfl,b.1,b.2,fun d=> ?_,fun d=> ?_⟩,fun e=>⟨rfl,a,rfl,b.1,b.2,fun d=> ?_,fun d=> ?_⟩⟩⟩<;>
   (rw[Bool.false_or] at e;have:=key _ _ _ i e d;rw[<-this];rfl)
theorem jep {c:CrD} (h:U.jl c=true):(0:Int)<2^(U.je c).length/\(2:Int)^(U.je c).length<=256:=by
 obtain⟨_,_,a,_⟩:=jv h;rw[BT.two_nat];have b:2^(U.je c).length<=2^8:=jIc (by decide) a;have d:0<2^(U.je c).length:=Nat.pow_pos (by decide);omega
theorem jB1:jxE:=by
 unfold jxE q34_0 q34_1;rintro⟨c,j,n,⟨⟩⟩ _;have e:∀l:Nat,(1:Int)*2^((l:Int)).toNat=2^l:=fun l=>by rw[Int.one_mul,jG7]
 simp only[e];refine⟨fun _=>by omega,fun h=> ?_,fun h=> ?_,fun h=> ?_,fun h=> ?_,fun h=> ?_⟩
 .have:=(jv (jeQ (of_decide_eq_true h)).1).2.2.1;have this:c.2.1.length<=8:=this;omega
 .have:=jep (jeQ (of_decide_eq_true h)).1;have this:(0:Int)<2^c.2.1.length/\(2:Int)^c.2.1.length<=256:=this;exact L.in64 (by omega) (by omega)
 .have:=jep (jeQ (of_decide_eq_true h)).1;have this:(0:Int)<2^c.2.1.length/\(2:Int)^c.2.1.length<=256:=this;exact L.in64 (by omega) (by omega)
 .rw[jG3] at h;have a:=of_decide_eq_true h.1;have b:U.joe c n=false:=by
   have d:U.ja n 0 (2^c.2.1.length-1)=false:=(by simpa using h.2);exact d
  unfold U.va;rw[if_neg (by omega),if_neg (by rw[b];simp)]
 .unfold U.va;by_cases a:U.kj c j=0
  .rw[decide_eq_true a,Bool.true_and] at h;have b:U.joe c n=true:=by
    have d:U.ja n 0 (2^c.2.1.length-1)=true:=(by simpa using h);exact d
   rw[if_neg (by omega),if_pos b,a]
  .rw[if_pos a]
theorem jyS:zu PR 103 jx1:=jZ jB1 Tryz.func103 (kcC jp4 (kcC qf kcN)) koN
theorem jvF {c:CrD} {j:JbD} {n:Int} (h:U.va c j n=0):U.kj c j=0/\0<=n/\n<2^(U.je c).length:=by
 unfold U.va at h
 split at h
 .rename_i b;omega
 .rename_i b
  split at h
  .rename_i a;unfold U.joe U.ja at a;simp only[jG3,decide_eq_true_eq] at a;exact⟨by omega,a.1,by omega⟩
  .omega
theorem jwu:jrE:=by
 rintro⟨c,j,n,⟨⟩⟩;refine⟨fun h=> ?_,fun h=> ?_⟩
 .have h:U.va c j n≠0:=of_decide_eq_true h;simp only;unfold U.jE8;rw[if_neg h]
 .have h:U.va c j n=0:=(by simpa using h);obtain⟨d,e,g⟩:=jvF h;obtain⟨b,f⟩:=jyI d;have k:=jep (jeQ d).1;have a:U.tk (U.jmm c j)=(c,j,U.yP c j,()):=(by rw[b];rfl);have i:=jxb (c,j,U.yP c j,()) n;simp only[a];refine⟨e,by omega,by rw[b];rfl,f,jpG ⟨e,by omega⟩,L.in64 (by omega) (by omega),?_⟩;unfold U.jE8;rw[if_pos h,h]
theorem jmy (c:CrD) (j:JbD) (n:Nat):U.yy c j (n+1)=U.yy c j n++(if U.kV (c,j,U.yP c j,()) (nth (U.je c) n)=0 then[(n:Int)] else[]):=by
 unfold U.yy;rw[L.range_filter_succ,jHR];by_cases h:U.kV (c,j,U.yP c j,()) (nth (U.je c) n)=0
 .rw[if_pos (decide_eq_true h),if_pos h];rfl
 .rw[if_neg (by simpa using h),if_neg h];rfl
theorem jzi (c:CrD) (j:JbD) (n:Nat):(U.yy c j n).length<=n:=by
 unfold U.yy;rw[jH6];exact jHi (jH4 _ _) (by simp)
theorem jEn:jA6:=by
 rintro⟨c,j,⟨⟩⟩;refine⟨fun h=> ?_,fun h _=>⟨⟨0,⟨⟨rfl,trivial,trivial⟩,rfl,trivial⟩,jHd _⟩,fun x f=>⟨fun a=> ?_,fun a=> ?_⟩⟩⟩
 .have h:U.kj c j≠0:=of_decide_eq_true h;simp only;unfold U.kE;rw[if_neg h]
 .have h:U.kj c j=0:=(by simpa using h);obtain⟨e,g⟩:=jyI h;have d:U.tk (U.jmm c j)=(c,j,U.yP c j,()):=(by rw[e];rfl);have a:x<(U.je c).length:=by
   have a:=of_decide_eq_true a;have a:(x:Int)<((U.je c).length:Int):=a;omega
  have i:(x:Int)<((U.je c).length:Int):=(by omega);have k:=(jv (jeQ h).1).2.2.1;have l:=jzi c j x;simp only[d,jG7];refine⟨by omega,i,by rw[e];rfl,g,fun b=>⟨by simp only[jHD,jHJ];omega,L.in64 (by omega) (by omega),x+1,⟨⟨by simp,trivial,trivial⟩,?_,trivial⟩,a,by omega⟩,fun b=>⟨L.in64 (by omega) (by omega),x+1,⟨⟨trivial,by simp,trivial⟩,?_,trivial⟩,a,by omega⟩⟩
  .have b:U.kV (c,j,U.yP c j,()) (nth (U.je c) x)=0:=of_decide_eq_true b;rw[jmy,if_pos b]
  .have b:¬U.kV (c,j,U.yP c j,()) (nth (U.je c) x)=0:=of_decide_eq_false b;rw[jmy,if_neg b,jHw]
 .have h:U.kj c j=0:=(by simpa using h);have a:(U.je c).length<=x:=by
   have a:=of_decide_eq_false a;have a:¬(x:Int)<((U.je c).length:Int):=a;omega
  have f:x<=(U.je c).length:=f;simp only;unfold U.kE;rw[if_pos h,h,show x=(U.je c).length by omega]
end Go.X
namespace Go.X
open Go.Proofs
def jlc:Ann:=fun r=>match r with
 |2=>some fun σ=>{X:=List (Int×Int)×Int,sl:=fun x=>[(4,.dat (.uint .u64) x.2)],ob:=fun x=>[(37,some (.iter .int .int x.1 none))],inv:=fun x=>U.vC (U.jfX (U.tk (gd (.ptr tTk) σ 0)) (gd tPe σ 1)) x.1 x.2,mu:=fun x=>x.1.length}
 |_=>none
abbrev q37_0 (d:Option (CrD×JbD×LwD×Unit)×PeD×Unit):=(jR (((0:Int),[],[],()),((0:Int),(0:Int),(0:Int),(0:Int),(0:Int),(0:Int),()),((0:Int),(0:Int),false,()),()) d.1)
def ji8:Prop:=∀(d:Option (CrD×JbD×LwD×Unit)×PeD×Unit),d.1.isSome=true->U.yt (U.tk d.1)->d.1.isSome=true/\d.1.isSome=true/\(0:Int)<=(q37_0 d).2.1.2.2.2.1/\(q37_0 d).2.1.2.2.2.1<=64/\d.1.isSome=true/\(0:Int)<=(q37_0 d).2.1.2.2.2.2.1/\(q37_0 d).2.1.2.2.2.2.1<=64/\[(0:Int),(1:Int),(2:Int)].Nodup/\∀(l:List (Int×Int)),l.Perm [((0:Int),U.jE6 !d.2.1.2.2.2.1.any fun(e:Int)=>decide (e=(q37_0 d).2.1.2.2.1)),((1:Int),qH (d.2.1.2.1/(2:Int)^(q37_0 d).2.1.2.2.2.1.toNat) (1:Int)),((2:Int),qH (d.2.1.2.2.1/(2:Int)^(q37_0 d).2.1.2.2.2.2.1.toNat) (1:Int))]->(((∃(x:List (Int×Int)×Int),((0=x.2/\True)/\l=x.1/\True)/\U.vC (U.jfX (U.tk d.1) d.2.1) x.1 x.2)/\∀(x:List (Int×Int)×Int),U.vC (U.jfX (U.tk d.1) d.2.1) x.1 x.2->(x.1=[]->(false=true->False)/\(false=false->(x.2,())=(U.kV (U.tk d.1) d.2.1,())))/\∀(pre:List (Int×Int)) (a:Int×Int) (b:List (Int×Int)),x.1=pre++a::b->(true=true->(decide (a.2=0)=true->0<=a.1/\a.1<=64/\(0:Int)<=1*2^a.1.toNat/\(1:Int)*2^a.1.toNat<=18446744073709551615/\∃(c:List (Int×Int)×Int),((uor x.2 ((1:Int)*2^a.1.toNat)=c.2/\True)/\pre++b=c.1/\True)/\U.vC (U.jfX (U.tk d.1) d.2.1) c.1 c.2/\c.1.length<x.1.length)/\(decide (a.2=0)=false->∃(c:List (Int×Int)×Int),((x.2=c.2/\True)/\pre++b=c.1/\True)/\U.vC (U.jfX (U.tk d.1) d.2.1) c.1 c.2/\c.1.length<x.1.length))/\(true=false->(x.2,())=(U.kV (U.tk d.1) d.2.1,())))/\True)/\True
end Go.X
namespace Go.X
open Go.Proofs
theorem jvd (z:Int):qH z 1=0\/qH z 1=1:=by
 unfold qH;rw[BitVec.toNat_and];have a:(BitVec.ofInt 64 1).toNat=1:=rfl;rw[a,Nat.and_one_is_mod];rcases Nat.mod_two_eq_zero_or_one (BitVec.ofInt 64 z).toNat with h|h
 .rw[h];exact .inl rfl
 .rw[h];exact .inr rfl
theorem jvc (s n:Int):(qH (s/2^n.toNat) 1=0)↔(!U.jH s n)=true:=by
 unfold U.jH;rcases jvd (s/2^n.toNat) with h|h<;>rw[h]<;>simp
theorem jBc (a b c:Bool) (p:Nat):BT.has (U.jvI a b c) p=true↔(a=true/\p=0)\/(b=true/\p=1)\/(c=true/\p=2):=by
 match p with
 |0=>cases a<;>cases b<;>cases c<;>decide
 |1=>cases a<;>cases b<;>cases c<;>decide
 |2=>cases a<;>cases b<;>cases c<;>decide
 |p+3=>
  have h:=jxR a b c;have:BT.has (U.jvI a b c) (p+3)=false:=by
   cases d:BT.has (U.jvI a b c) (p+3) with
   |false=>rfl
   |true=>have:=BT.has_lt (k:=3) h.1 (by omega) d;omega
  rw[this];simp
theorem jBR (t:TkD) (p:PeD) (k:Nat):(∃e∈U.jfX t p,e.2=0/\e.1.toNat=k)↔BT.has (U.kV t p) k=true:=by
 unfold U.kV;rw[jBc];have c:U.jE6 (!U.yf p (U.jAZ (U.tj t)))=0↔U.yf p (U.jAZ (U.tj t))=true:=by
  unfold U.jE6;cases U.yf p (U.jAZ (U.tj t))<;>simp
 have d:=jvc (U.fd p) (U.js7 (U.tj t));have f:=jvc (U.cl p) (U.jrw (U.tj t));unfold U.jfX;simp only[jG4,List.not_mem_nil,or_false];rw[<-c,<-d,<-f];constructor
 .rintro⟨e,(rfl|rfl|rfl),a,b⟩
  .exact .inl ⟨a,b.symm⟩
  .exact .inr (.inl ⟨a,b.symm⟩)
  .exact .inr (.inr ⟨a,b.symm⟩)
 .rintro(⟨a,b⟩|⟨a,b⟩|⟨a,b⟩)
  .exact⟨_,.inl rfl,a,b.symm⟩
  .exact⟨_,.inr (.inl rfl),a,b.symm⟩
  .exact⟨_,.inr (.inr rfl),a,b.symm⟩
theorem jBQ {t:TkD} {p:PeD} {e:Int×Int} (h:e∈U.jfX t p):0<=e.1/\e.1<=2:=by
 unfold U.jfX at h;simp only[jG4,List.not_mem_nil,or_false] at h;rcases h with rfl|rfl|rfl<;>simp
theorem jwo (t:TkD) (p:PeD):(U.jfX t p).Nodup:=by
 unfold U.jfX;simp
theorem jt4 {t:TkD} {p:PeD} {l:List (Int×Int)} (h:l.Perm (U.jfX t p)):U.vC (U.jfX t p) l 0:=by
 refine⟨BT.zero_set,h.symm.nodup (jwo t p),fun e c=>h.mem_iff.1 c,fun k=> ?_⟩;rw[BT.has_zero];constructor
 .intro h;cases h
 .rintro⟨e,a,b,_⟩;exact absurd (h.mem_iff.2 a) b
theorem jxn {t:TkD} {p:PeD} {s:Int} (h:U.vC (U.jfX t p) [] s):s=U.kV t p:=by
 obtain⟨a,_,_,c⟩:=h;refine BT.ext a (jpG (by have:=jlg t p;omega)) (fun k=> ?_);rw[jHs,c,<-jBR];constructor
 .rintro⟨e,a,_,b⟩;exact⟨e,a,b⟩
 .rintro⟨e,a,b⟩;exact⟨e,a,by simp,b⟩
theorem jm2 {all pre a:List (Int×Int)} {e:Int×Int} {s j:Int} (h:U.vC all (pre++e::a) s) (p:BT.Set' j) (hk:∀k,BT.has j k=true↔BT.has s k=true\/(e.2=0/\e.1.toNat=k)):U.vC all (pre++a) j:=by
 obtain⟨q,m,l,n⟩:=h;have i:(e::(pre++a)).Nodup:=List.perm_middle.nodup m;have b:∀x,x∈pre++e::a↔x=e\/x∈pre++a:=fun x=>by rw[List.perm_middle.mem_iff,jG4]
 rw[jHV] at i;refine⟨p,i.2,fun x c=>l x ((b x).2 (.inr c)),fun k=> ?_⟩;rw[hk,n];constructor
 .rintro(⟨x,d,f,g⟩|⟨d,f⟩)
  .exact⟨x,d,fun c=>f ((b x).2 (.inr c)),g⟩
  .exact⟨e,l e ((b e).2 (.inl rfl)),i.1,d,f⟩
 .rintro⟨x,d,f,g⟩;by_cases c:x=e
  .subst c;exact .inr g
  .exact .inl ⟨x,d,fun o=>by rcases(b x).1 o with h|h;exact c h;exact f h,g⟩
theorem jlL:ji8:=by
 unfold ji8 q37_0;rintro⟨(_|t),p,⟨⟩⟩ s d
 .cases s
 have d:U.yt t:=d;have r:U.tk (some t)=t:=rfl;obtain⟨c1,c2,_⟩:=id d;obtain⟨_,_,_,⟨m,o⟩,⟨n,q⟩,_⟩:=jcw c2;have m:0<=t.2.1.2.2.2.1:=m;have o:t.2.1.2.2.2.1<=7:=o;have n:0<=t.2.1.2.2.2.2.1:=n;have q:t.2.1.2.2.2.2.1<=3:=q;refine⟨rfl,rfl,m,by simp only[jR];omega,rfl,n,by simp only[jR];omega,by decide,fun l w=>⟨⟨⟨⟨(l,0),⟨⟨rfl,trivial⟩,rfl,trivial⟩,jt4 w⟩,fun x b=>⟨fun h=>⟨fun h=>(by cases h),fun _=> ?_⟩,fun pre e a h=>⟨fun _=> ?_,fun h=>(by cases h)⟩⟩⟩,trivial⟩,trivial⟩⟩
 .rw[h] at b;rw[jxn b]
 .rw[h] at b;have u:e∈U.jfX t p:=b.2.2.1 e (by simp);have hk:=jBQ u;obtain⟨k,g,v⟩:∃k:Nat,e.1=(k:Int)/\k<=2:=⟨e.1.toNat,by omega,by omega⟩;have y:(1:Int)*2^k=2^k:=Int.one_mul _;have c:(pre++a).length<x.1.length:=(by rw[h];simp);have i:BT.Set' ((2:Int)^k):=BT.two_set (by omega);refine⟨fun f=> ?_,fun f=> ?_⟩
  .have f:e.2=0:=of_decide_eq_true f;rw[g,jG7,y];refine⟨by omega,by omega,by unfold BT.Set' at i;omega,by unfold BT.Set' at i;omega,(pre++a,uor x.2 (2^k)),⟨⟨rfl,trivial⟩,rfl,trivial⟩,jm2 b (BT.uor_set b.1 i) (fun j=> ?_),c⟩;rw[BT.has_uor b.1 i,BT.has_two,jHX,decide_eq_true_eq,g,jG7];simp[f]
  .have f:¬e.2=0:=of_decide_eq_false f;exact⟨(pre++a,x.2),⟨⟨rfl,trivial⟩,rfl,trivial⟩,jm2 b b.1 (fun j=>by simp[f]),c⟩
theorem jch:zu PR 95 kQ:=wi jlc jlL Tryz.func95 (kcC qp (kcC jwa kcN)) koN
theorem jq6:(jry 64 [(95,kQ),(126,wR),(127,wQ)] [] [(125,jN)] []).ok PR:=jtM ⟨fun _=>jch,fun _=>jnV,fun _=>jnU,trivial⟩ trivial ⟨gY,trivial⟩ trivial
theorem jil:zu PR 104 jbs:=
 jyt (body:=zZ Tryz.f104) (C:=jry 64 [(95,kQ),(126,wR),(127,wQ)] [] [(125,jN)] []) (hk:=hkC (jry 64 [(95,kQ),(126,wR),(127,wQ)] [] [(125,jN)] []) (fun _=>none) jjj [] []) jq6 mixed Tryz.func104 (by kernel_rfl) (by kernel_rfl) (by kernel_rfl) (by decide)
  (fun B=>jmJ jq6 mixed (fun k ts rs sv d L v ρ hk c a b=>by
   unfold jjj at hk
   split at hk
   case h_2=>cases hk
   simp only[Option.some.injEq] at hk
   cases hk
   exact jqn c a b) jD8 B) (jdX.mpr jkt)
theorem jsO:zu PR 74 jr7:=jZ jwu Tryz.func74 (kcC jyS (kcC jil kcN)) koN
theorem juF:zu PR 65 jBg:=wi jCJ jEn Tryz.func65 (kcC jp4 (kcC jch kcN)) koN
end Go.X
namespace Go.X
namespace U
def jaB (a b:Int):Int:=if a<b then-1 else if b<a then 1 else 0
def wW (l:List Int):Int:=match l.find? (fun n=>decide (n≠0)) with|some n=>n|none=>0
end U
structure jbS {α:Type} (c:α->α->Int):Prop where
 anti:∀a b,c b a= -(c a b)
 trans:∀a b d,c a b<=0->c b d<=0->c a d<=0
section
variable {α:Type} {c c1 c2:α->α->Int}
theorem jbS.refl (h:jbS c) (a:α):c a a=0:=by have:=h.anti a a;omega
theorem jbS.lt_le (h:jbS c) {a b d:α} (g:c a b<0) (f:c b d<=0):c a d<0:=by
 have i:=h.trans a b d (by omega) f;have j:=h.anti a d;have k:=h.anti a b;by_cases e:c a d=0
 .have:=h.trans b d a f (by omega);omega
 .omega
theorem jbS.le_lt (h:jbS c) {a b d:α} (f:c a b<=0) (g:c b d<0):c a d<0:=by
 have i:=h.trans a b d f (by omega);have j:=h.anti a d;have k:=h.anti b d;by_cases e:c a d=0
 .have:=h.trans d a b (by omega) f;omega
 .omega
theorem jbS.eq_eq (h:jbS c) {a b d:α} (e:c a b=0) (f:c b d=0):c a d=0:=by
 have g:=h.trans a b d (by omega) (by omega);have i:=h.anti a d;have j:=h.anti a b;have k:=h.anti b d;have:=h.trans d b a (by omega) (by omega);omega
def jAY (c1 c2:α->α->Int) (a b:α):Int:=if c1 a b≠0 then c1 a b else c2 a b
theorem jg6 (c:jbS c1) (g:jbS c2):jbS (jAY c1 c2) where
 anti a b:=by
  have i:=c.anti a b;have h:=g.anti a b;unfold jAY;by_cases e:c1 a b=0
  .rw[if_neg (by omega),if_neg (by omega)];exact h
  .rw[if_pos (by omega),if_pos e];exact i
 trans a b d:=by
  unfold jAY;by_cases e:c1 a b=0
  .rw[if_neg (by omega)];by_cases f:c1 b d=0
   .rw[if_neg (by omega),if_neg (by have:=c.eq_eq e f;omega)];exact g.trans a b d
   .rw[if_pos f];intro _ k;have:=c.le_lt (a:=a) (b:=b) (d:=d) (by omega) (by omega);rw[if_pos (by omega)];omega
  .rw[if_pos e];intro k;by_cases f:c1 b d=0
   .rw[if_neg (by omega)];intro _;have:=c.lt_le (a:=a) (b:=b) (d:=d) (by omega) (by omega);rw[if_pos (by omega)];omega
   .rw[if_pos f];intro h;have:=c.lt_le (a:=a) (b:=b) (d:=d) (by omega) (by omega);rw[if_pos (by omega)];omega
theorem jhD {e:Type} (h:jbS c) (f:e->α):jbS (fun a b=>c (f a) (f b)):=⟨fun a b=>h.anti (f a) (f b),fun a b d=>h.trans (f a) (f b) (f d)⟩
end
theorem jgo:jbS U.jaB:=by
 constructor
 .intro a b;unfold U.jaB;split<;>split<;>(try split)<;>(try split)<;>omega
 .intro a b d;unfold U.jaB;split<;>split<;>(try split)<;>(try split)<;>(try split)<;>(try split)<;>omega
theorem jAp {a b:Int}:U.jaB a b<0↔a<b:=by
 unfold U.jaB
 split
 .simp;omega
 .split<;>simp<;>omega
theorem vX {a b:Int}:U.jaB a b=0↔a=b:=by
 unfold U.jaB
 split
 .simp;omega
 .split
  .simp;omega
  .simp;omega
theorem zK (x:Int) (l:List Int):U.wW (x::l)=if x≠0 then x else U.wW l:=by
 unfold U.wW;by_cases e:x=0
 .simp[List.find?,e]
 .simp[List.find?,e]
theorem wK (x:Int):U.wW [x]=x:=by
 rw[zK]
 split
 .rfl
 .rename_i h;have:x=0:=(by omega);rw[this];rfl
theorem jnR {t:Ty} {c:t.Data->t.Data->Int} (d:jbS c) {l:List t.Data} (h:∀x y,x∈l->y∈l->c x y=0->x=y):kZ (U.ji t fun x=>(c x.1 x.2.1,())) l where
 irrefl x _:=by
  unfold U.ji;have:=d.refl x;simp only[this];rfl
 trans x y z _ _ _ b a:=by
  unfold U.ji at*;have b:=of_decide_eq_true b;have a:=of_decide_eq_true a;exact decide_eq_true (d.lt_le b (by have a:c y z<0:=a;show c y z<=0;omega))
 total x y hx hy b a:=by
  unfold U.ji at*;have b:¬c x y<0:=of_decide_eq_false b;have a:¬c y x<0:=of_decide_eq_false a;have:=d.anti x y;exact h x y hx hy (by omega)
end Go.X
namespace Go.X
namespace M
theorem mput_cons {kt:Ty} {a:Type} (k:kt.Data) (v:a) (e:kt.Data×a) (r:List (kt.Data×a)):jex kt k v (e::r)=if @decide (k=e.1) (kt.decEq k e.1)=true then(k,v)::r else e::jex kt k v r:=rfl
theorem mfind_cons {kt:Ty} {a:Type} (k:kt.Data) (e:kt.Data×a) (r:List (kt.Data×a)):zU kt k (e::r)=if @decide (k=e.1) (kt.decEq k e.1)=true then some e.2 else zU kt k r:=rfl
theorem dec_self {kt:Ty} (k:kt.Data): @decide (k=k) (kt.decEq k k)=true:= @decide_eq_true _ (kt.decEq k k) rfl
theorem mput_fst {kt:Ty} {b:Type} (k:kt.Data) (v:b):∀m:List (kt.Data×b),(jex kt k v m).map (·.1)=m.map (·.1)\/(k∉m.map (·.1)/\(jex kt k v m).map (·.1)=m.map (·.1)++[k])
 |[]=> .inr ⟨by simp,rfl⟩
 |e::r=>by
  rw[mput_cons]
  by_cases h: @decide (k=e.1) (kt.decEq k e.1)=true
  .rw[if_pos h]
   have h:k=e.1:= @of_decide_eq_true _ (kt.decEq k e.1) h
   left
   simp[h]
  .rw[if_neg h]
   have h:¬k=e.1:=fun a=>h (@decide_eq_true _ (kt.decEq k e.1) a)
   rcases mput_fst k v r with f|⟨c,d⟩
   .left;simp only[jH8,f]
   .right
    refine⟨?_,by simp only[jH8,d,jHx]⟩
    rw[jH8,jG4]
    rintro(a|a)
    .exact h a
    .exact c a
theorem mfind_mput {kt:Ty} {a:Type} (k:kt.Data) (v:a):∀l:List (kt.Data×a),zU kt k (jex kt k v l)=some v
 |[]=>by
  rw[show jex kt k v []=[(k,v)] from rfl,mfind_cons,if_pos (dec_self k)]
 |e::r=>by
  rw[mput_cons]
  by_cases h: @decide (k=e.1) (kt.decEq k e.1)=true
  .rw[if_pos h,mfind_cons,if_pos (dec_self k)]
  .rw[if_neg h,mfind_cons,if_neg h]
   exact mfind_mput k v r
theorem mfind_mput_ne {kt:Ty} {b:Type} {k k':kt.Data} (a:k'≠k) (v:b):∀l:List (kt.Data×b),zU kt k' (jex kt k v l)=zU kt k' l
 |[]=>by
  rw[show jex kt k v []=[(k,v)] from rfl,mfind_cons,if_neg (fun e=>a (@of_decide_eq_true _ (kt.decEq k' k) e))]
 |e::r=>by
  rw[mput_cons]
  by_cases h: @decide (k=e.1) (kt.decEq k e.1)=true
  .rw[if_pos h]
   have h:k=e.1:= @of_decide_eq_true _ (kt.decEq k e.1) h
   have d:¬@decide (k'=e.1) (kt.decEq k' e.1)=true:=fun c=>a ((@of_decide_eq_true _ (kt.decEq k' e.1) c).trans h.symm)
   rw[mfind_cons,mfind_cons,if_neg d,if_neg (fun e=>a (@of_decide_eq_true _ (kt.decEq k' k) e))]
  .rw[if_neg h,mfind_cons,mfind_cons,mfind_mput_ne a v r]
end M
end Go.X
namespace Go.Proofs
open Go.Shelf
def Tryz.sortSh_ren:Go.Shelf.Ren:=⟨fun|6=>83|15=>118|14=>117|28=>152|29=>153|20=>144|21=>145|22=>146|23=>147|24=>148|25=>149|26=>150|27=>151|46=>183|47=>184|48=>185|49=>186|50=>187|57=>197|n=>n,fun|22=>28|24=>55|25=>119|3=>3|39=>64|0=>0|53=>179|55=>181|4=>4|46=>172|45=>171|50=>176|5=>5|9=>9|66=>197|70=>201|76=>211|77=>212|n=>n,fun|n=>n⟩
theorem Tryz.sortSh:Go.Proofs.SlLaysF0.n6 Tryz.prog Tryz.sortSh_ren:={
 mixed:=by kernel_rfl
 f6:=⟨Tryz.f83.name,by decide,Tryz.func83.trans (congrArg some (by kernel_rfl))⟩
 f14:=⟨Tryz.f117.name,by decide,Tryz.func117.trans (congrArg some (by kernel_rfl))⟩
 f15:=Tryz.func118.trans (congrArg some (by kernel_rfl))
 f20:=⟨Tryz.f144.name,by decide,Tryz.func144.trans (congrArg some (by kernel_rfl))⟩
 f21:=⟨Tryz.f145.name,by decide,Tryz.func145.trans (congrArg some (by kernel_rfl))⟩
 f22:=⟨Tryz.f146.name,by decide,Tryz.func146.trans (congrArg some (by kernel_rfl))⟩
 f23:=⟨Tryz.f147.name,by decide,Tryz.func147.trans (congrArg some (by kernel_rfl))⟩
 f24:=⟨Tryz.f148.name,by decide,Tryz.func148.trans (congrArg some (by kernel_rfl))⟩
 f25:=⟨Tryz.f149.name,by decide,Tryz.func149.trans (congrArg some (by kernel_rfl))⟩
 f26:=⟨Tryz.f150.name,by decide,Tryz.func150.trans (congrArg some (by kernel_rfl))⟩
 f27:=⟨Tryz.f151.name,by decide,Tryz.func151.trans (congrArg some (by kernel_rfl))⟩
 f28:=Tryz.func152.trans (congrArg some (by kernel_rfl))
 f29:=Tryz.func153.trans (congrArg some (by kernel_rfl))
 f46:=⟨Tryz.f183.name,by decide,Tryz.func183.trans (congrArg some (by kernel_rfl))⟩
 f47:=Tryz.func184.trans (congrArg some (by kernel_rfl))
 f48:=Tryz.func185.trans (congrArg some (by kernel_rfl))
 f49:=⟨Tryz.f186.name,by decide,Tryz.func186.trans (congrArg some (by kernel_rfl))⟩
 f50:=⟨Tryz.f187.name,by decide,Tryz.func187.trans (congrArg some (by kernel_rfl))⟩
 f57:=⟨Tryz.f197.name,by decide,Tryz.func197.trans (congrArg some (by kernel_rfl))⟩
 t0:=Tryz.underlying0
 a0:=Tryz.isAgg0
 z0:=Tryz.sizeOf0
 v0:=Tryz.zeroValue0
 t3:=Tryz.underlying3
 a3:=Tryz.isAgg3
 z3:=Tryz.sizeOf3
 v3:=Tryz.zeroValue3
 t4:=Tryz.underlying4
 a4:=Tryz.isAgg4
 z4:=Tryz.sizeOf4
 v4:=Tryz.zeroValue4
 t5:=Tryz.underlying5
 a5:=Tryz.isAgg5
 z5:=Tryz.sizeOf5
 v5:=Tryz.zeroValue5
 t9:=Tryz.underlying9
 a9:=Tryz.isAgg9
 z9:=Tryz.sizeOf9
 v9:=Tryz.zeroValue9
 t22:=Tryz.underlying28
 a22:=Tryz.isAgg28
 z22:=Tryz.sizeOf28
 v22:=Tryz.zeroValue28
 t25:=Tryz.underlying119
 a25:=Tryz.isAgg119
 z25:=Tryz.sizeOf119
 v25:=Tryz.zeroValue119
 t39:=Tryz.underlying64
 a39:=Tryz.isAgg64
 z39:=Tryz.sizeOf64
 v39:=Tryz.zeroValue64
 t45:=Tryz.underlying171
 a45:=Tryz.isAgg171
 z45:=Tryz.sizeOf171
 v45:=Tryz.zeroValue171
 t46:=Tryz.underlying172
 a46:=Tryz.isAgg172
 z46:=Tryz.sizeOf172
 v46:=Tryz.zeroValue172
 t50:=Tryz.underlying176
 a50:=Tryz.isAgg176
 z50:=Tryz.sizeOf176
 v50:=Tryz.zeroValue176
 t53:=Tryz.underlying179
 a53:=Tryz.isAgg179
 z53:=Tryz.sizeOf179
 v53:=Tryz.zeroValue179
 t55:=Tryz.underlying181
 a55:=Tryz.isAgg181
 z55:=Tryz.sizeOf181
 v55:=Tryz.zeroValue181
 t66:=Tryz.underlying197
 a66:=Tryz.isAgg197
 z66:=Tryz.sizeOf197
 v66:=Tryz.zeroValue197
 t70:=Tryz.underlying201
 a70:=Tryz.isAgg201
 z70:=Tryz.sizeOf201
 v70:=Tryz.zeroValue201
 t76:=Tryz.underlying211
 a76:=Tryz.isAgg211
 z76:=Tryz.sizeOf211
 v76:=Tryz.zeroValue211
 t77:=Tryz.underlying212
 a77:=Tryz.isAgg212
 z77:=Tryz.sizeOf212
 v77:=Tryz.zeroValue212}
def Tryz.sortI_ren:Go.Shelf.Ren:=⟨fun|189=>97|125=>118|257=>121|128=>152|129=>153|294=>154|295=>155|296=>156|297=>157|298=>158|299=>159|216=>160|300=>161|301=>162|328=>188|329=>184|330=>185|331=>189|332=>190|215=>102|343=>198|n=>n,fun|28=>34|3=>3|46=>64|0=>0|51=>179|53=>181|4=>4|183=>172|182=>171|131=>176|5=>5|9=>9|218=>197|222=>201|228=>211|229=>212|n=>n,fun|n=>n⟩
theorem Tryz.sortI:Go.Proofs.Lays.n189 Tryz.prog Tryz.sortI_ren:={
 mixed:=by kernel_rfl
 f125:=Tryz.func118.trans (congrArg some (by kernel_rfl))
 f128:=Tryz.func152.trans (congrArg some (by kernel_rfl))
 f129:=Tryz.func153.trans (congrArg some (by kernel_rfl))
 f189:=Tryz.func97.trans (congrArg some (by kernel_rfl))
 f215:=Tryz.func102.trans (congrArg some (by kernel_rfl))
 f216:=Tryz.func160.trans (congrArg some (by kernel_rfl))
 f257:=Tryz.func121.trans (congrArg some (by kernel_rfl))
 f294:=Tryz.func154.trans (congrArg some (by kernel_rfl))
 f295:=Tryz.func155.trans (congrArg some (by kernel_rfl))
 f296:=Tryz.func156.trans (congrArg some (by kernel_rfl))
 f297:=Tryz.func157.trans (congrArg some (by kernel_rfl))
 f298:=Tryz.func158.trans (congrArg some (by kernel_rfl))
 f299:=Tryz.func159.trans (congrArg some (by kernel_rfl))
 f300:=Tryz.func161.trans (congrArg some (by kernel_rfl))
 f301:=Tryz.func162.trans (congrArg some (by kernel_rfl))
 f328:=Tryz.func188.trans (congrArg some (by kernel_rfl))
 f329:=Tryz.func184.trans (congrArg some (by kernel_rfl))
 f330:=Tryz.func185.trans (congrArg some (by kernel_rfl))
 f331:=Tryz.func189.trans (congrArg some (by kernel_rfl))
 f332:=Tryz.func190.trans (congrArg some (by kernel_rfl))
 f343:=Tryz.func198.trans (congrArg some (by kernel_rfl))
 t0:=Tryz.underlying0
 a0:=Tryz.isAgg0
 z0:=Tryz.sizeOf0
 v0:=Tryz.zeroValue0
 t3:=Tryz.underlying3
 a3:=Tryz.isAgg3
 z3:=Tryz.sizeOf3
 v3:=Tryz.zeroValue3
 t4:=Tryz.underlying4
 a4:=Tryz.isAgg4
 z4:=Tryz.sizeOf4
 v4:=Tryz.zeroValue4
 t5:=Tryz.underlying5
 a5:=Tryz.isAgg5
 z5:=Tryz.sizeOf5
 v5:=Tryz.zeroValue5
 t9:=Tryz.underlying9
 a9:=Tryz.isAgg9
 z9:=Tryz.sizeOf9
 v9:=Tryz.zeroValue9
 t28:=Tryz.underlying34
 a28:=Tryz.isAgg34
 z28:=Tryz.sizeOf34
 v28:=Tryz.zeroValue34
 t46:=Tryz.underlying64
 a46:=Tryz.isAgg64
 z46:=Tryz.sizeOf64
 v46:=Tryz.zeroValue64
 t51:=Tryz.underlying179
 a51:=Tryz.isAgg179
 z51:=Tryz.sizeOf179
 v51:=Tryz.zeroValue179
 t53:=Tryz.underlying181
 a53:=Tryz.isAgg181
 z53:=Tryz.sizeOf181
 v53:=Tryz.zeroValue181
 t131:=Tryz.underlying176
 a131:=Tryz.isAgg176
 z131:=Tryz.sizeOf176
 v131:=Tryz.zeroValue176
 t182:=Tryz.underlying171
 a182:=Tryz.isAgg171
 z182:=Tryz.sizeOf171
 v182:=Tryz.zeroValue171
 t183:=Tryz.underlying172
 a183:=Tryz.isAgg172
 z183:=Tryz.sizeOf172
 v183:=Tryz.zeroValue172
 t218:=Tryz.underlying197
 a218:=Tryz.isAgg197
 z218:=Tryz.sizeOf197
 v218:=Tryz.zeroValue197
 t222:=Tryz.underlying201
 a222:=Tryz.isAgg201
 z222:=Tryz.sizeOf201
 v222:=Tryz.zeroValue201
 t228:=Tryz.underlying211
 a228:=Tryz.isAgg211
 z228:=Tryz.sizeOf211
 v228:=Tryz.zeroValue211
 t229:=Tryz.underlying212
 a229:=Tryz.isAgg212
 z229:=Tryz.sizeOf212
 v229:=Tryz.zeroValue212}
end Go.Proofs
namespace Go.X
open Go.Proofs
abbrev rwS:Sh:= .cl (.row 55 tSh .unk)
namespace U
def jhH (s:SpD):Bool:=(decide (0<=lo s)&&decide (lo s<=hi s))&&decide (hi s<=300)
def jj2 (n:Nat) (b:BkD):Bool:=((ja (jxd b) 0 ((n:Int)-1)&&decide (0<=jbg b))&&decide (jbg b<jrh b))&&decide (jrh b<=1440)
def jqh (nb a:Nat) (s:ShD):Bool:=(((ja (wo s) 0 99&&ja (jjq s) 0 9999)&&ja (jyd s) 1 2)&&ja (jdq s) 0 ((nb:Int)-1))&&ja (qE s) 0 ((a:Int)-1)
def y7 (a b:ShD):Int:=wW [jaB (wo a) (wo b),jaB (jjq a) (jjq b),jaB (jyd a) (jyd b),jaB (jdq a) (jdq b),jaB (qE a) (qE b)]
def jx (a b:ShD):Int:=wW [jaB (jjq a) (jjq b),jaB (wo a) (wo b)]
def wL (a b:ShD):Bool:=decide (a=b)
def zf (l:List ShD):List ShD:=vL wL (jd (ji tSh fun x=>(y7 x.1 x.2.1,())) l)
def jdd (m:List (Int×Int)) (s:ShD):List (Int×Int):=jex .int (wo s) (wh 0 (zU .int (wo s) m)+1) m
def wq (m:List (Int×Int)) (l:List ShD) (n:Nat):List (Int×Int):=(l.take n).foldl jdd m
def jvk (m:List (Int×Int)) (s:ShD):Bool:=decide (1<wh 0 (zU .int (wo s) (jdd m s)))
def jgy (m:List (Int×Int)) (l:List ShD) (i:Nat):Bool:=jvk (wq m l i) (nth l i)
def jcN (m:List (Int×Int)) (l:List ShD):Int:=jaH (jgy m l) (List.range l.length)
def jAN (m:List (Int×Int)) (l:List ShD):Nat:=match(List.range l.length).findIdx? (jgy m l) with|some i=>i+1|none=>l.length
def jeR (m:List (Int×Int)) (l:List ShD):List (Int×Int):=wq m l (jAN m l)
def jFU (m:List (Int×Int)):Prop:=m=[]
def jyc (m:List (Int×Int)):Prop:=∀k,0<=wh 0 (zU .int k m)/\wh 0 (zU .int k m)<=200000
def jxx (l:List ShD):Bool:=decide (0<=jcN [] l)
def jk4 (d:DyD):Int:=if jl (jb d)=false then 30 else if jwq d=false then 31 else 0
def jz (d:DyD):Int:=if jk4 d≠0 then jk4 d else if zL d=false then 50 else if jxx (zf (zc d))=true then 51 else 0
end U
def jr8:j7:=⟨[.val .int,.val .int,.val .int],[.bool],false,fun _=>[],fun d=>(U.ja d.1 d.2.1 d.2.2.1,())⟩
def jrF:Prop:=∀(d:Int×Int×Int×Unit),(decide (d.2.1<=d.1)&&decide (d.1<=d.2.2.1),())=(U.ja d.1 d.2.1 d.2.2.1,())
def jdl:j7:=⟨[.val (.slice tSp),.fn [tSp] [.bool]],[.int],false,fun d=>[∀g∈d.1,U.jG (d.2.1.pre (g,()))],fun d=>(U.jaH (U.jc (α:=SpD) d.2.1.F) d.1,())⟩
def jdA:Ann:=fun r=>match r with
 |2=>some fun σ=>{X:=Nat,sl:=fun i=>[(8,.dat .int (i:Int))],ob:=fun _=>[],inv:=fun i=>i<=(gd (.slice tSp) σ 0).length/\∀b:Nat,b<i->U.jc (gfb tSp σ 1) (nth (gd (.slice tSp) σ 0) b)=false,mu:=fun i=>(gd (.slice tSp) σ 0).length-i}
 |_=>none
def jdh:Prop:=∀(d:List (Int×Int×Unit)×FnD [tSp] [Ty.bool]×Unit),(∀(g:Int×Int×Unit),g∈d.1->U.jG (d.2.1.1 (g,())))->d.1.length<4611686018427387904->(∃(x:Nat),((0=(x:Int)/\True)/\True)/\x<=d.1.length/\∀(b:Nat),b<x->U.jc d.2.1.2 (nth d.1 b)=false)/\∀(x:Nat),(x<=d.1.length/\∀(b:Nat),b<x->U.jc d.2.1.2 (nth d.1 b)=false)->(decide ((x:Int)<(d.1.length:Int))=true->0<=(x:Int)/\(x:Int)<(d.1.length:Int)/\asks (d.2.1.1 (nth d.1 (x:Int).toNat,())) (((d.2.1.2 (nth d.1 (x:Int).toNat,())).1=true->((x:Int),())=(U.jaH (U.jc d.2.1.2) d.1,()))/\((d.2.1.2 (nth d.1 (x:Int).toNat,())).1=false->jy ((x:Int)+1)/\∃(a:Nat),(((x:Int)+1=(a:Int)/\True)/\True)/\(a<=d.1.length/\∀(b:Nat),b<a->U.jc d.2.1.2 (nth d.1 b)=false)/\d.1.length-a<d.1.length-x)))/\(decide ((x:Int)<(d.1.length:Int))=false->((-1:Int),())=(U.jaH (U.jc d.2.1.2) d.1,()))
def jaS:j7:=⟨[.val (.slice tSp),.fn [tSp] [.bool]],[.bool],false,fun d=>[∀g∈d.1,U.jG (d.2.1.pre (g,()))],fun d=>(d.1.any (U.jc (α:=SpD) d.2.1.F),())⟩
def jaP:Prop:=∀(d:List (Int×Int×Unit)×FnD [tSp] [Ty.bool]×Unit),(∀(g:Int×Int×Unit),g∈d.1->U.jG (d.2.1.1 (g,())))->(∀(g:Int×Int×Unit),g∈d.1->U.jG (d.2.1.1 (g,())))/\(decide (0<=U.jaH (U.jc d.2.1.2) d.1),())=(d.1.any (U.jc d.2.1.2),())
def jb4:j7:=⟨[.val (.slice (.slice tSp)),.fn [(.slice tSp)] [.bool]],[.int],false,fun d=>[∀g∈d.1,U.jG (d.2.1.pre (g,()))],fun d=>(U.jaH (U.jc (α:=(List SpD)) d.2.1.F) d.1,())⟩
def jcJ:Ann:=fun r=>match r with
 |2=>some fun σ=>{X:=Nat,sl:=fun i=>[(8,.dat .int (i:Int))],ob:=fun _=>[],inv:=fun i=>i<=(gd (.slice (.slice tSp)) σ 0).length/\∀b:Nat,b<i->U.jc (gfb (.slice tSp) σ 1) (nth (gd (.slice (.slice tSp)) σ 0) b)=false,mu:=fun i=>(gd (.slice (.slice tSp)) σ 0).length-i}
 |_=>none
def jbX:Prop:=∀(d:List (List (Int×Int×Unit))×FnD [tSp.slice] [Ty.bool]×Unit),(∀(g:List (Int×Int×Unit)),g∈d.1->U.jG (d.2.1.1 (g,())))->d.1.length<4611686018427387904->(∃(x:Nat),((0=(x:Int)/\True)/\True)/\x<=d.1.length/\∀(b:Nat),b<x->U.jc d.2.1.2 (nth d.1 b)=false)/\∀(x:Nat),(x<=d.1.length/\∀(b:Nat),b<x->U.jc d.2.1.2 (nth d.1 b)=false)->(decide ((x:Int)<(d.1.length:Int))=true->0<=(x:Int)/\(x:Int)<(d.1.length:Int)/\asks (d.2.1.1 (nth d.1 (x:Int).toNat,())) (((d.2.1.2 (nth d.1 (x:Int).toNat,())).1=true->((x:Int),())=(U.jaH (U.jc d.2.1.2) d.1,()))/\((d.2.1.2 (nth d.1 (x:Int).toNat,())).1=false->jy ((x:Int)+1)/\∃(a:Nat),(((x:Int)+1=(a:Int)/\True)/\True)/\(a<=d.1.length/\∀(b:Nat),b<a->U.jc d.2.1.2 (nth d.1 b)=false)/\d.1.length-a<d.1.length-x)))/\(decide ((x:Int)<(d.1.length:Int))=false->((-1:Int),())=(U.jaH (U.jc d.2.1.2) d.1,()))
def gM:j7:=⟨[.val (.slice (.slice tSp)),.fn [(.slice tSp)] [.bool]],[.bool],false,fun d=>[∀g∈d.1,U.jG (d.2.1.pre (g,()))],fun d=>(d.1.any (U.jc (α:=(List SpD)) d.2.1.F),())⟩
def gI:Prop:=∀(d:List (List (Int×Int×Unit))×FnD [tSp.slice] [Ty.bool]×Unit),(∀(g:List (Int×Int×Unit)),g∈d.1->U.jG (d.2.1.1 (g,())))->(∀(g:List (Int×Int×Unit)),g∈d.1->U.jG (d.2.1.1 (g,())))/\(decide (0<=U.jaH (U.jc d.2.1.2) d.1),())=(d.1.any (U.jc d.2.1.2),())
def jaR:j7:=⟨[.val (.slice tBk),.fn [tBk] [.bool]],[.int],false,fun d=>[∀g∈d.1,U.jG (d.2.1.pre (g,()))],fun d=>(U.jaH (U.jc (α:=BkD) d.2.1.F) d.1,())⟩
def jbk:Ann:=fun r=>match r with
 |2=>some fun σ=>{X:=Nat,sl:=fun i=>[(8,.dat .int (i:Int))],ob:=fun _=>[],inv:=fun i=>i<=(gd (.slice tBk) σ 0).length/\∀b:Nat,b<i->U.jc (gfb tBk σ 1) (nth (gd (.slice tBk) σ 0) b)=false,mu:=fun i=>(gd (.slice tBk) σ 0).length-i}
 |_=>none
def jaO:Prop:=∀(d:List BkD×FnD [tBk] [Ty.bool]×Unit),(∀(g:BkD),g∈d.1->U.jG (d.2.1.1 (g,())))->d.1.length<4611686018427387904->(∃(x:Nat),((0=(x:Int)/\True)/\True)/\x<=d.1.length/\∀(b:Nat),b<x->U.jc d.2.1.2 (nth d.1 b)=false)/\∀(x:Nat),(x<=d.1.length/\∀(b:Nat),b<x->U.jc d.2.1.2 (nth d.1 b)=false)->(decide ((x:Int)<(d.1.length:Int))=true->0<=(x:Int)/\(x:Int)<(d.1.length:Int)/\asks (d.2.1.1 (nth d.1 (x:Int).toNat,())) (((d.2.1.2 (nth d.1 (x:Int).toNat,())).1=true->((x:Int),())=(U.jaH (U.jc d.2.1.2) d.1,()))/\((d.2.1.2 (nth d.1 (x:Int).toNat,())).1=false->jy ((x:Int)+1)/\∃(a:Nat),(((x:Int)+1=(a:Int)/\True)/\True)/\(a<=d.1.length/\∀(b:Nat),b<a->U.jc d.2.1.2 (nth d.1 b)=false)/\d.1.length-a<d.1.length-x)))/\(decide ((x:Int)<(d.1.length:Int))=false->((-1:Int),())=(U.jaH (U.jc d.2.1.2) d.1,()))
def yM:j7:=⟨[.val (.slice tBk),.fn [tBk] [.bool]],[.bool],false,fun d=>[∀g∈d.1,U.jG (d.2.1.pre (g,()))],fun d=>(d.1.any (U.jc (α:=BkD) d.2.1.F),())⟩
def yK:Prop:=∀(d:List BkD×FnD [tBk] [Ty.bool]×Unit),(∀(g:BkD),g∈d.1->U.jG (d.2.1.1 (g,())))->(∀(g:BkD),g∈d.1->U.jG (d.2.1.1 (g,())))/\(decide (0<=U.jaH (U.jc d.2.1.2) d.1),())=(d.1.any (U.jc d.2.1.2),())
def jb5:j7:=⟨[.val (.slice tSh),.fn [tSh] [.bool]],[.int],false,fun d=>[∀g∈d.1,U.jG (d.2.1.pre (g,()))],fun d=>(U.jaH (U.jc (α:=ShD) d.2.1.F) d.1,())⟩
def jcK:Ann:=fun r=>match r with
 |2=>some fun σ=>{X:=Nat,sl:=fun i=>[(8,.dat .int (i:Int))],ob:=fun _=>[],inv:=fun i=>i<=(gd (.slice tSh) σ 0).length/\∀b:Nat,b<i->U.jc (gfb tSh σ 1) (nth (gd (.slice tSh) σ 0) b)=false,mu:=fun i=>(gd (.slice tSh) σ 0).length-i}
 |_=>none
def jbY:Prop:=∀(d:List ShD×FnD [tSh] [Ty.bool]×Unit),(∀(g:ShD),g∈d.1->U.jG (d.2.1.1 (g,())))->d.1.length<4611686018427387904->(∃(x:Nat),((0=(x:Int)/\True)/\True)/\x<=d.1.length/\∀(b:Nat),b<x->U.jc d.2.1.2 (nth d.1 b)=false)/\∀(x:Nat),(x<=d.1.length/\∀(b:Nat),b<x->U.jc d.2.1.2 (nth d.1 b)=false)->(decide ((x:Int)<(d.1.length:Int))=true->0<=(x:Int)/\(x:Int)<(d.1.length:Int)/\asks (d.2.1.1 (nth d.1 (x:Int).toNat,())) (((d.2.1.2 (nth d.1 (x:Int).toNat,())).1=true->((x:Int),())=(U.jaH (U.jc d.2.1.2) d.1,()))/\((d.2.1.2 (nth d.1 (x:Int).toNat,())).1=false->jy ((x:Int)+1)/\∃(a:Nat),(((x:Int)+1=(a:Int)/\True)/\True)/\(a<=d.1.length/\∀(b:Nat),b<a->U.jc d.2.1.2 (nth d.1 b)=false)/\d.1.length-a<d.1.length-x)))/\(decide ((x:Int)<(d.1.length:Int))=false->((-1:Int),())=(U.jaH (U.jc d.2.1.2) d.1,()))
def gN:j7:=⟨[.val (.slice tSh),.fn [tSh] [.bool]],[.bool],false,fun d=>[∀g∈d.1,U.jG (d.2.1.pre (g,()))],fun d=>(d.1.any (U.jc (α:=ShD) d.2.1.F),())⟩
def gJ:Prop:=∀(d:List ShD×FnD [tSh] [Ty.bool]×Unit),(∀(g:ShD),g∈d.1->U.jG (d.2.1.1 (g,())))->(∀(g:ShD),g∈d.1->U.jG (d.2.1.1 (g,())))/\(decide (0<=U.jaH (U.jc d.2.1.2) d.1),())=(d.1.any (U.jc d.2.1.2),())
def jgO:j7:=⟨[.val tSp,.rfn [tSp] [.bool]],[.bool],false,fun d=>[U.jG (d.2.1.pre (d.1,()))],fun d=>(!(U.jc (α:=SpD) d.2.1.F d.1),())⟩
def jgK:Prop:=∀(d:(Int×Int×Unit)×FnD [tSp] [Ty.bool]×Unit),U.jG (d.2.1.1 (d.1,()))->asks (d.2.1.1 (d.1,())) ((!(d.2.1.2 (d.1,())).1,())=(!U.jc d.2.1.2 d.1,()))
def jjs:j7:=⟨[.val (.slice tSp),.fn [tSp] [.bool]],[.bool],false,fun d=>[∀g∈d.1,U.jG (d.2.1.pre (g,()))],fun d=>(d.1.all (U.jc (α:=SpD) d.2.1.F),())⟩
def jjd:Prop:=∀(d:List (Int×Int×Unit)×FnD [tSp] [Ty.bool]×Unit),(∀(g:Int×Int×Unit),g∈d.1->U.jG (d.2.1.1 (g,())))->(∀(g:Int×Int×Unit),g∈d.1->U.jG [U.jG (d.2.1.1 (g,()))])/\(!d.1.any (U.jc fun(a:(Int×Int×Unit)×Unit)=>(!U.jc d.2.1.2 a.1,())),())=(d.1.all (U.jc d.2.1.2),())
def jfp:j7:=⟨[.val (.slice tSp),.rfn [(.slice tSp)] [.bool]],[.bool],false,fun d=>[U.jG (d.2.1.pre (d.1,()))],fun d=>(!(U.jc (α:=(List SpD)) d.2.1.F d.1),())⟩
def jff:Prop:=∀(d:List (Int×Int×Unit)×FnD [tSp.slice] [Ty.bool]×Unit),U.jG (d.2.1.1 (d.1,()))->asks (d.2.1.1 (d.1,())) ((!(d.2.1.2 (d.1,())).1,())=(!U.jc d.2.1.2 d.1,()))
def jid:j7:=⟨[.val (.slice (.slice tSp)),.fn [(.slice tSp)] [.bool]],[.bool],false,fun d=>[∀g∈d.1,U.jG (d.2.1.pre (g,()))],fun d=>(d.1.all (U.jc (α:=(List SpD)) d.2.1.F),())⟩
def jh3:Prop:=∀(d:List (List (Int×Int×Unit))×FnD [tSp.slice] [Ty.bool]×Unit),(∀(g:List (Int×Int×Unit)),g∈d.1->U.jG (d.2.1.1 (g,())))->(∀(g:List (Int×Int×Unit)),g∈d.1->U.jG [U.jG (d.2.1.1 (g,()))])/\(!d.1.any (U.jc fun(a:List (Int×Int×Unit)×Unit)=>(!U.jc d.2.1.2 a.1,())),())=(d.1.all (U.jc d.2.1.2),())
def jdm:j7:=⟨[.val tBk,.rfn [tBk] [.bool]],[.bool],false,fun d=>[U.jG (d.2.1.pre (d.1,()))],fun d=>(!(U.jc (α:=BkD) d.2.1.F d.1),())⟩
def jdk:Prop:=∀(d:BkD×FnD [tBk] [Ty.bool]×Unit),U.jG (d.2.1.1 (d.1,()))->asks (d.2.1.1 (d.1,())) ((!(d.2.1.2 (d.1,())).1,())=(!U.jc d.2.1.2 d.1,()))
def jfs:j7:=⟨[.val (.slice tBk),.fn [tBk] [.bool]],[.bool],false,fun d=>[∀g∈d.1,U.jG (d.2.1.pre (g,()))],fun d=>(d.1.all (U.jc (α:=BkD) d.2.1.F),())⟩
def jfh:Prop:=∀(d:List BkD×FnD [tBk] [Ty.bool]×Unit),(∀(g:BkD),g∈d.1->U.jG (d.2.1.1 (g,())))->(∀(g:BkD),g∈d.1->U.jG [U.jG (d.2.1.1 (g,()))])/\(!d.1.any (U.jc fun(a:BkD×Unit)=>(!U.jc d.2.1.2 a.1,())),())=(d.1.all (U.jc d.2.1.2),())
def jfq:j7:=⟨[.val tSh,.rfn [tSh] [.bool]],[.bool],false,fun d=>[U.jG (d.2.1.pre (d.1,()))],fun d=>(!(U.jc (α:=ShD) d.2.1.F d.1),())⟩
def jfg:Prop:=∀(d:ShD×FnD [tSh] [Ty.bool]×Unit),U.jG (d.2.1.1 (d.1,()))->asks (d.2.1.1 (d.1,())) ((!(d.2.1.2 (d.1,())).1,())=(!U.jc d.2.1.2 d.1,()))
def jie:j7:=⟨[.val (.slice tSh),.fn [tSh] [.bool]],[.bool],false,fun d=>[∀g∈d.1,U.jG (d.2.1.pre (g,()))],fun d=>(d.1.all (U.jc (α:=ShD) d.2.1.F),())⟩
def jh4:Prop:=∀(d:List ShD×FnD [tSh] [Ty.bool]×Unit),(∀(g:ShD),g∈d.1->U.jG (d.2.1.1 (g,())))->(∀(g:ShD),g∈d.1->U.jG [U.jG (d.2.1.1 (g,()))])/\(!d.1.any (U.jc fun(a:ShD×Unit)=>(!U.jc d.2.1.2 a.1,())),())=(d.1.all (U.jc d.2.1.2),())
def jpv:j7:=⟨[.val tSp],[.bool],false,fun _=>[],fun d=>(U.jhH d.1,())⟩
def jo6:Prop:=∀(d:(Int×Int×Unit)×Unit),(decide (0<=d.1.1)&&decide (d.1.1<=d.1.2.1)&&decide (d.1.2.1<=300),())=(U.jhH d.1,())
def jpu:j7:=⟨[.val (.slice tSp),.ref tDy,.rfn [tSp] [.bool]],[.bool],false,fun d=>[∀g∈d.1,U.jG (d.2.2.1.pre (g,()))],fun d=>(decide ((d.1.length:Int)=((U.jL d.2.1).length:Int))&&d.1.all (U.jc (α:=SpD) d.2.2.1.F),())⟩
def jo5:Prop:=∀(d:List (Int×Int×Unit)×DyD×FnD [tSp] [Ty.bool]×Unit),(∀(g:Int×Int×Unit),g∈d.1->U.jG (d.2.2.1.1 (g,())))->d.1.length<4611686018427387904->d.2.1.2.1.length<4611686018427387904->(decide ((d.1.length:Int)=(d.2.1.2.1.length:Int))=true->∀(g:Int×Int×Unit),g∈d.1->U.jG (d.2.2.1.1 (g,())))/\(decide ((d.1.length:Int)=(d.2.1.2.1.length:Int))&&d.1.all (U.jc d.2.2.1.2),())=(decide ((d.1.length:Int)=(↑(U.jL d.2.1).length:Int))&&d.1.all (U.jc d.2.2.1.2),())
def jpt:j7:=⟨[.val tBk,.ref tDy],[.bool],false,fun _=>[],fun d=>(U.jj2 (U.jL d.2.1).length d.1,())⟩
def jo4:Prop:=∀(d:BkD×DyD×Unit),d.2.1.2.1.length<4611686018427387904->jy ((d.2.1.2.1.length:Int)-1)/\(U.ja d.1.2.1 (0:Int) ((d.2.1.2.1.length:Int)-1)&&decide (0<=d.1.2.2.1)&&decide (d.1.2.2.1<d.1.2.2.2.1)&&decide (d.1.2.2.2.1<=1440),())=(U.jj2 (U.jL d.2.1).length d.1,())
def jps:j7:=⟨[.val tSh,.ref tDy],[.bool],false,fun _=>[],fun d=>(U.jqh (U.jq d.2.1).length (U.je (U.jb d.2.1)).length d.1,())⟩
abbrev q58_0 (d:ShD×DyD×Unit):=(U.ja d.1.1 (0:Int) (99:Int)&&U.ja d.1.2.1 (0:Int) (9999:Int)&&U.ja d.1.2.2.1 (1:Int) (2:Int)&&U.ja d.1.2.2.2.1 (0:Int) ((d.2.1.2.2.1.length:Int)-1))
abbrev q58_1 (d:ShD×DyD×Unit):=(U.ja d.1.1 (0:Int) (99:Int)&&U.ja d.1.2.1 (0:Int) (9999:Int)&&U.ja d.1.2.2.1 (1:Int) (2:Int))
def jo3:Prop:=∀(d:ShD×DyD×Unit),((q58_1 d)=true->d.2.1.2.2.1.length<4611686018427387904)->((q58_1 d)=true->jy ((d.2.1.2.2.1.length:Int)-1))/\(((q58_0 d)=true->d.2.1.1.2.1.length<4611686018427387904)->((q58_0 d)=true->jy ((d.2.1.1.2.1.length:Int)-1))/\(U.ja d.1.1 (0:Int) (99:Int)&&U.ja d.1.2.1 (0:Int) (9999:Int)&&U.ja d.1.2.2.1 (1:Int) (2:Int)&&U.ja d.1.2.2.2.1 (0:Int) ((d.2.1.2.2.1.length:Int)-1)&&U.ja d.1.2.2.2.2.1 (0:Int) ((d.2.1.1.2.1.length:Int)-1),())=(U.jqh (U.jq d.2.1).length (U.je (U.jb d.2.1)).length d.1,()))
def jvP:j7:=⟨[.val tDy],[.bool],false,fun _=>[],fun d=>(U.zL d.1,())⟩
abbrev q59_0 (d:DyD×Unit):=((d.1.2.2.1.length:Int)<=4)
abbrev q59_1 (d:DyD×Unit):=(↑(U.jL d.1).length:Int)
abbrev q59_2 (d:DyD×Unit):=(d.1.2.1.length:Int)
def jvv:Prop:=∀(d:DyD×Unit),d.1.2.2.1.length<4611686018427387904->(decide (q59_0 d)=true->d.1.2.1.length<4611686018427387904)->((decide (q59_0 d)&&U.ja (q59_2 d) (1:Int) (5:Int))=true->∀(g:List (Int×Int×Unit)),g∈d.1.2.1->U.jG [∀(a:Int×Int×Unit),a∈g->U.jG []])/\((decide (q59_0 d)&&U.ja (q59_2 d) (1:Int) (5:Int)&&d.1.2.1.all (U.jc fun(b:List (Int×Int×Unit)×Unit)=>(decide ((b.1.length:Int)=(q59_1 d))&&b.1.all (U.jc fun(h:(Int×Int×Unit)×Unit)=>(U.jhH h.1,())),())))=true->∀(i:BkD),i∈d.1.2.2.1->U.jG [])/\(((decide (q59_0 d)&&U.ja (q59_2 d) (1:Int) (5:Int)&&d.1.2.1.all (U.jc fun(c:List (Int×Int×Unit)×Unit)=>(decide ((c.1.length:Int)=(q59_1 d))&&c.1.all (U.jc fun(j:(Int×Int×Unit)×Unit)=>(U.jhH j.1,())),()))&&d.1.2.2.1.all (U.jc fun(n:BkD×Unit)=>(U.jj2 (U.jL d.1).length n.1,()))&&U.ja d.1.2.2.2.1 (0:Int) (300:Int)&&U.ja d.1.2.2.2.2.1 (0:Int) (1440:Int))=true->d.1.2.2.2.2.2.1.length<4611686018427387904)->((decide (q59_0 d)&&U.ja (q59_2 d) (1:Int) (5:Int)&&d.1.2.1.all (U.jc fun(e:List (Int×Int×Unit)×Unit)=>(decide ((e.1.length:Int)=(q59_1 d))&&e.1.all (U.jc fun(k:(Int×Int×Unit)×Unit)=>(U.jhH k.1,())),()))&&d.1.2.2.1.all (U.jc fun(o:BkD×Unit)=>(U.jj2 (U.jL d.1).length o.1,()))&&U.ja d.1.2.2.2.1 (0:Int) (300:Int)&&U.ja d.1.2.2.2.2.1 (0:Int) (1440:Int)&&decide ((d.1.2.2.2.2.2.1.length:Int)<=30))=true->∀(l:ShD),l∈d.1.2.2.2.2.2.1->U.jG [])/\(decide (q59_0 d)&&U.ja (q59_2 d) (1:Int) (5:Int)&&d.1.2.1.all (U.jc fun(f:List (Int×Int×Unit)×Unit)=>(decide ((f.1.length:Int)=(q59_1 d))&&f.1.all (U.jc fun(m:(Int×Int×Unit)×Unit)=>(U.jhH m.1,())),()))&&d.1.2.2.1.all (U.jc fun(z6:BkD×Unit)=>(U.jj2 (U.jL d.1).length z6.1,()))&&U.ja d.1.2.2.2.1 (0:Int) (300:Int)&&U.ja d.1.2.2.2.2.1 (0:Int) (1440:Int)&&decide ((d.1.2.2.2.2.2.1.length:Int)<=30)&&d.1.2.2.2.2.2.1.all (U.jc fun(z7:ShD×Unit)=>(U.jqh (U.jq d.1).length (U.je (U.jb d.1)).length z7.1,())),())=(U.zL d.1,()))
def jif:j7:=⟨[.val .int],[.bool],false,fun _=>[],fun _=>(false,())⟩
def jh5:Prop:=∀(d:Int×Unit),(decide (d.1≠d.1),())=(false,())
def jft:j7:=⟨[.val .int,.val .int],[.int],false,fun _=>[],fun d=>(U.jaB d.1 d.2.1,())⟩
abbrev q61_0 (d:Int×Int×Unit):=(U.jaB d.1 d.2.1,())
def jfi:Prop:=∀(d:Int×Int×Unit),(false=true->(false=true->((0:Int),())=(q61_0 d))/\(false=false->((-1:Int),())=(q61_0 d)))/\(false=false->(false=true->((1:Int),())=(q61_0 d))/\(false=false->(decide (d.1<d.2.1)=true->((-1:Int),())=(q61_0 d))/\(decide (d.1<d.2.1)=false->(decide (d.2.1<d.1)=true->((1:Int),())=(q61_0 d))/\(decide (d.2.1<d.1)=false->((0:Int),())=(q61_0 d)))))
def jnv:j7:=⟨[.val (.slice .int)],[.int],false,fun _=>[],fun d=>(U.wW d.1,())⟩
def joN:Ann:=fun r=>match r with
 |3=>some fun σ=>{X:=Nat,sl:=fun i=>[(8,.dat .int (i:Int))],ob:=fun _=>[],inv:=fun i=>i<=(gd (.slice .int) σ 0).length/\∀b:Nat,b<i->nth (gd (.slice .int) σ 0) b=0,mu:=fun i=>(gd (.slice .int) σ 0).length-i}
 |_=>none
def jnf:Prop:=∀(d:List Int×Unit),d.1.length<4611686018427387904->(∃(x:Nat),((0=(x:Int)/\True)/\True)/\x<=d.1.length/\∀(b:Nat),b<x->nth d.1 b=0)/\∀(x:Nat),(x<=d.1.length/\∀(b:Nat),b<x->nth d.1 b=0)->(decide ((x:Int)<(d.1.length:Int))=true->0<=(x:Int)/\(x:Int)<(d.1.length:Int)/\(decide (nth d.1 (x:Int).toNat≠0)=true->(nth d.1 (x:Int).toNat,())=(U.wW d.1,()))/\(decide (nth d.1 (x:Int).toNat≠0)=false->jy ((x:Int)+1)/\∃(a:Nat),(((x:Int)+1=(a:Int)/\True)/\True)/\(a<=d.1.length/\∀(b:Nat),b<a->nth d.1 b=0)/\d.1.length-a<d.1.length-x))/\(decide ((x:Int)<(d.1.length:Int))=false->((0:Int),())=(U.wW d.1,()))
def jjt:j7:=⟨[.val tSh,.val tSh],[.int],false,fun _=>[],fun d=>(U.y7 d.1 d.2.1,())⟩
def jje:Prop:=∀(d:ShD×ShD×Unit),(U.wW [U.jaB d.1.1 d.2.1.1,U.jaB d.1.2.1 d.2.1.2.1,U.jaB d.1.2.2.1 d.2.1.2.2.1,U.jaB d.1.2.2.2.1 d.2.1.2.2.2.1,U.jaB d.1.2.2.2.2.1 d.2.1.2.2.2.2.1],())=(U.y7 d.1 d.2.1,())
def jr9:j7:=⟨[.val tSh,.val tSh],[.int],false,fun _=>[],fun d=>(U.jx d.1 d.2.1,())⟩
def jrG:Prop:=∀(d:ShD×ShD×Unit),(U.wW [U.jaB d.1.2.1 d.2.1.2.1,U.jaB d.1.1 d.2.1.1],())=(U.jx d.1 d.2.1,())
def jgR:zP:=⟨[.val (.slice tSh)],[rwS],fun d=>[d.1.length<=100000],fun d=>((d.1,()),())⟩
def jgG:Prop:=∀(d:List ShD×Unit),d.1.length<=100000->∀(a:Bool),(a=true->d.1=[])->(a=true->([],())=d/\()=())/\(a=false->(0+d.1.length)*40<=140737488355328/\([]++d.1,())=d/\()=())
def jef:zP:=⟨[.own rwS false],[rwS],fun d=>[d.1.length<=100000],fun d=>((U.vL U.wL d.1,()),())⟩
def je0:Ann:=fun r=>match r with
 |4=>some fun σ=>{X:=Nat,sl:=fun i=>[(3,.dat .int (i:Int))],ob:=fun _=>[],inv:=fun i=>U.jEj U.wL (gr tSh σ 1000000) i,mu:=fun i=>(gr tSh σ 1000000).length-i}
 |9=>some fun σ=>{X:=Nat×List ShD,sl:=fun x=>[(5,.dat .int (x.1:Int)),(3,.dat .int (U.jdG U.wL (gr tSh σ 1000000) ((gd .int σ 3).toNat+x.1)))],ob:=fun x=>[(1000000,some (.row 55 tSh false .unk x.2))],inv:=fun x=>U.jta U.wL (gr tSh σ 1000000) (gd .int σ 3).toNat x.1 x.2,mu:=fun x=>(gr tSh σ 1000000).length-x.1}
 |_=>none
abbrev q66_0 (x:Nat)(a:Nat×List ShD):=((x:Int).toNat+a.1)
abbrev q66_2 (d:List ShD×Unit)(x:Nat)(a:Nat×List ShD):=(List.take (U.jdG U.wL d.1 (q66_0 x a)).toNat a.2++List.replicate ((a.2.length:Int).toNat-(U.jdG U.wL d.1 (q66_0 x a)).toNat) ((0:Int),(0:Int),(0:Int),(0:Int),(0:Int),()))
abbrev q66_3 (a:Nat×List ShD)(x:Nat):=(!decide (nth a.2 ((x:Int).toNat+(a.1:Int).toNat)=nth a.2 ((x:Int).toNat+((a.1:Int)-1).toNat)))
abbrev q66_4 (d:List ShD×Unit):=(d.1.length:Int)
abbrev q66_1 (d:List ShD×Unit)(x:Nat):=(↑((q66_4 d).toNat-(x:Int).toNat):Int)
def jd2:Prop:=∀(d:List ShD×Unit),d.1.length<=100000->d.1.length<4611686018427387904->(decide ((q66_4 d)<2)=true->d=(U.vL U.wL d.1,())/\()=())/\(decide ((q66_4 d)<2)=false->(∃(x:Nat),((1=(x:Int)/\True)/\True)/\U.jEj U.wL d.1 x)/\∀(x:Nat),U.jEj U.wL d.1 x->d.1.length<4611686018427387904->(decide ((x:Int)<(q66_4 d))=true->0<=(x:Int)/\(x:Int)<(q66_4 d)/\jy ((x:Int)-1)/\0<=(x:Int)-1/\(x:Int)-1<(q66_4 d)/\(decide (nth d.1 (x:Int).toNat=nth d.1 ((x:Int)-1).toNat)=true->0<=(x:Int)/\(x:Int)<=(q66_4 d)/\(q66_4 d)<=(q66_4 d)/\(∃(a:Nat×List ShD),((1=(a.1:Int)/\(x:Int)=U.jdG U.wL d.1 (q66_0 x a)/\True)/\d.1=a.2/\True)/\U.jta U.wL d.1 (x:Int).toNat a.1 a.2)/\∀(a:Nat×List ShD),U.jta U.wL d.1 (x:Int).toNat a.1 a.2->(q66_4 d).toNat-(x:Int).toNat<4611686018427387904->(decide ((a.1:Int)<(q66_1 d x))=true->0<=(a.1:Int)/\(a.1:Int)<(q66_1 d x)/\jy ((a.1:Int)-1)/\0<=(a.1:Int)-1/\(a.1:Int)-1<(q66_1 d x)/\((q66_3 a x)=true->0<=(a.1:Int)/\(a.1:Int)<(q66_1 d x)/\0<=U.jdG U.wL d.1 (q66_0 x a)/\U.jdG U.wL d.1 (q66_0 x a)<(a.2.length:Int)/\jy (U.jdG U.wL d.1 (q66_0 x a)+1)/\jy ((a.1:Int)+1)/\∃(b:Nat×List ShD),(((a.1:Int)+1=(b.1:Int)/\U.jdG U.wL d.1 (q66_0 x a)+1=U.jdG U.wL d.1 ((x:Int).toNat+b.1)/\True)/\a.2.set (U.jdG U.wL d.1 (q66_0 x a)).toNat (nth a.2 ((x:Int).toNat+(a.1:Int).toNat))=b.2/\True)/\U.jta U.wL d.1 (x:Int).toNat b.1 b.2/\d.1.length-b.1<d.1.length-a.1)/\((q66_3 a x)=false->jy ((a.1:Int)+1)/\∃(b:Nat×List ShD),((U.jdG U.wL d.1 (q66_0 x a)=U.jdG U.wL d.1 ((x:Int).toNat+b.1)/\(a.1:Int)+1=(b.1:Int)/\True)/\a.2=b.2/\True)/\U.jta U.wL d.1 (x:Int).toNat b.1 b.2/\d.1.length-b.1<d.1.length-a.1))/\(decide ((a.1:Int)<(q66_1 d x))=false->0<=U.jdG U.wL d.1 (q66_0 x a)/\U.jdG U.wL d.1 (q66_0 x a)<=(a.2.length:Int)/\(a.2.length:Int)<=(a.2.length:Int)/\(U.jdG U.wL d.1 (q66_0 x a)).toNat+((a.2.length:Int).toNat-(U.jdG U.wL d.1 (q66_0 x a)).toNat)=a.2.length/\(0:Int)<=0/\0<=U.jdG U.wL d.1 (q66_0 x a)/\U.jdG U.wL d.1 (q66_0 x a)<=(↑(q66_2 d x a).length:Int)/\(List.take ((U.jdG U.wL d.1 (q66_0 x a)).toNat-Int.toNat 0) (q66_2 d x a),())=(U.vL U.wL d.1,())/\()=()))/\(decide (nth d.1 (x:Int).toNat=nth d.1 ((x:Int)-1).toNat)=false->jy ((x:Int)+1)/\∃(c:Nat),(((x:Int)+1=(c:Int)/\True)/\True)/\U.jEj U.wL d.1 c/\d.1.length-c<d.1.length-x))/\(decide ((x:Int)<(q66_4 d))=false->d=(U.vL U.wL d.1,())/\()=()))
abbrev jdn:zP:=jC1 tSh 55
def jnz:zP:=⟨[.val (.slice tSh)],[rwS],fun d=>[d.1.length<=100000],fun d=>((U.zf d.1,()),())⟩
abbrev q67_0:=(Ty.int.pair (Ty.int.pair (Ty.int.pair (Ty.int.pair (Ty.int.pair Ty.unit)))))
def jnc:Prop:=∀(d:List ShD×Unit),d.1.length<=100000->d.1.length<=100000/\(∀(x:ShD),x∈d.1->∀(y:ShD),y∈d.1->U.jG [])/\kZ (U.ji q67_0 fun(a:ShD×ShD×Unit)=>(U.y7 a.1 a.2.1,())) d.1/\(U.jd (U.ji q67_0 fun(b:ShD×ShD×Unit)=>(U.y7 b.1 b.2.1,())) d.1).length<=100000/\(U.vL U.wL (U.jd (U.ji q67_0 fun(c:ShD×ShD×Unit)=>(U.y7 c.1 c.2.1,())) d.1),())=(U.zf d.1,())/\()=()
def jpF:zP:=⟨[.val tSh,.own (.box 122 [.map .int .int]) true],[.cl (.dat .bool)],fun d=>[U.jyc d.2.1.1],fun d=>((U.jvk d.2.1.1 d.1,()),((U.jdd d.2.1.1 d.1,()),()))⟩
abbrev q68_0 (d:ShD×(List (Int×Int)×Unit)×Unit):=(wh (0:Int) (zU Ty.int d.1.1 d.2.1.1)+1)
def jo7:Prop:=∀(d:ShD×(List (Int×Int)×Unit)×Unit),U.jyc d.2.1.1->jy (q68_0 d)/\(decide (1<wh (0:Int) (zU Ty.int d.1.1 (jex Ty.int d.1.1 (q68_0 d) d.2.1.1))),())=(U.jvk d.2.1.1 d.1,())/\((jex Ty.int d.1.1 (q68_0 d) d.2.1.1,()),())=((U.jdd d.2.1.1 d.1,()),())
abbrev clV:Sh:= .fbox 88 122 [.map .int .int]
def gQ:zP:=⟨[.val (.slice tSh),.own clV true],[.cl (.dat .int)],fun d=>[d.1.length<=100000,U.jFU d.2.1.1],fun d=>((U.jcN d.2.1.1 d.1,()),((U.jeR d.2.1.1 d.1,()),()))⟩
def jaD:Ann:=fun r=>match r with
 |2=>some fun σ=>{X:=Nat,sl:=fun i=>[(8,.dat .int (i:Int))],ob:=fun i=>[(400020,some (.map false .int .int (U.wq [] (gd (.slice tSh) σ 0) i)))],inv:=fun i=>i<=(gd (.slice tSh) σ 0).length/\∀b:Nat,b<i->U.jgy [] (gd (.slice tSh) σ 0) b=false,mu:=fun i=>(gd (.slice tSh) σ 0).length-i}
 |_=>none
def gH:Prop:=∀(d:List ShD×(List (Int×Int)×Unit)×Unit),d.1.length<=100000->U.jFU d.2.1.1->d.1.length<4611686018427387904->(∃(x:Nat),((0=(x:Int)/\True)/\d.2.1.1=U.wq [] d.1 x/\True)/\x<=d.1.length/\∀(b:Nat),b<x->U.jgy [] d.1 b=false)/\∀(x:Nat),(x<=d.1.length/\∀(b:Nat),b<x->U.jgy [] d.1 b=false)->(decide ((x:Int)<(d.1.length:Int))=true->0<=(x:Int)/\(x:Int)<(d.1.length:Int)/\U.jyc (U.wq [] d.1 x)/\(U.jvk (U.wq [] d.1 x) (nth d.1 (x:Int).toNat)=true->((x:Int),())=(U.jcN d.2.1.1 d.1,())/\((U.jdd (U.wq [] d.1 x) (nth d.1 (x:Int).toNat),()),())=((U.jeR d.2.1.1 d.1,()),()))/\(U.jvk (U.wq [] d.1 x) (nth d.1 (x:Int).toNat)=false->jy ((x:Int)+1)/\∃(a:Nat),(((x:Int)+1=(a:Int)/\True)/\(True/\True)/\U.jdd (U.wq [] d.1 x) (nth d.1 (x:Int).toNat)=U.wq [] d.1 a/\True)/\(a<=d.1.length/\∀(b:Nat),b<a->U.jgy [] d.1 b=false)/\d.1.length-a<d.1.length-x))/\(decide ((x:Int)<(d.1.length:Int))=false->((-1:Int),())=(U.jcN d.2.1.1 d.1,())/\((U.wq [] d.1 x,()),())=((U.jeR d.2.1.1 d.1,()),()))
def yi:zP:=⟨[.val (.slice tSh),.own clV true],[.cl (.dat .bool)],fun d=>[d.1.length<=100000,U.jFU d.2.1.1],fun d=>((decide (0<=U.jcN d.2.1.1 d.1),()),((U.jeR d.2.1.1 d.1,()),()))⟩
def yc:Prop:=∀(d:List ShD×(List (Int×Int)×Unit)×Unit),d.1.length<=100000->U.jFU d.2.1.1->d.1.length<=100000/\U.jFU d.2.1.1/\(decide (0<=U.jcN d.2.1.1 d.1),())=(decide (0<=U.jcN d.2.1.1 d.1),())/\((U.jeR d.2.1.1 d.1,()),())=((U.jeR d.2.1.1 d.1,()),())
def jvQ:j7:=⟨[.val (.slice tSh)],[.bool],false,fun d=>[d.1.length<=100000],fun d=>(U.jxx d.1,())⟩
def jvw:Prop:=∀(d:List ShD×Unit),d.1.length<=100000->d.1.length<=100000/\U.jFU []/\(decide (0<=U.jcN [] d.1),())=(U.jxx d.1,())
def jlv:j7:=⟨[.val tDy],[.int],false,fun _=>[],fun d=>(U.jk4 d.1,())⟩
def jl2:Ann:=fun r=>match r with
 |5=>some fun σ=>{X:=Nat,sl:=fun i=>[(17,.dat .int (i:Int))],ob:=fun _=>[],inv:=fun i=>i<=(gd (.slice tBk) σ 15).length/\∀b:Nat,b<i->U.jW (U.jb (gd tDy σ 0)) (U.yJ (nth (gd (.slice tBk) σ 15) b))=true,mu:=fun i=>(gd (.slice tBk) σ 15).length-i}
 |_=>none
abbrev q72_0:=((0:Int),(1:Int),(0:Int),(0:Int),(0:Int),(1:Int),())
def jlo:Prop:=∀(d:DyD×Unit),(decide (U.kj d.1.1 q72_0≠0)=true->(U.kj d.1.1 q72_0,())=(U.jk4 d.1,()))/\(decide (U.kj d.1.1 q72_0≠0)=false->d.1.2.2.1.length<4611686018427387904->(∃(x:Nat),((0=(x:Int)/\True)/\True)/\x<=d.1.2.2.1.length/\∀(b:Nat),b<x->U.jW (U.jb d.1) (U.yJ (nth d.1.2.2.1 b))=true)/\∀(x:Nat),(x<=d.1.2.2.1.length/\∀(b:Nat),b<x->U.jW (U.jb d.1) (U.yJ (nth d.1.2.2.1 b))=true)->(decide ((x:Int)<(d.1.2.2.1.length:Int))=true->0<=(x:Int)/\(x:Int)<(d.1.2.2.1.length:Int)/\(decide (U.kj d.1.1 (nth d.1.2.2.1 (x:Int).toNat).1≠0)=true->(U.kj d.1.1 (nth d.1.2.2.1 (x:Int).toNat).1,())=(U.jk4 d.1,()))/\(decide (U.kj d.1.1 (nth d.1.2.2.1 (x:Int).toNat).1≠0)=false->jy ((x:Int)+1)/\∃(a:Nat),(((x:Int)+1=(a:Int)/\True)/\True)/\(a<=d.1.2.2.1.length/\∀(b:Nat),b<a->U.jW (U.jb d.1) (U.yJ (nth d.1.2.2.1 b))=true)/\d.1.2.2.1.length-a<d.1.2.2.1.length-x))/\(decide ((x:Int)<(d.1.2.2.1.length:Int))=false->((0:Int),())=(U.jk4 d.1,())))
def jvS:j7:=⟨[.val tDy],[.int],false,fun d=>[(U.zc d.1).length<=100000],fun d=>(U.jz d.1,())⟩
def jvy:Prop:=∀(d:DyD×Unit),(U.zc d.1).length<=100000->(decide (U.jk4 d.1≠0)=true->(U.jk4 d.1,())=(U.jz d.1,()))/\(decide (U.jk4 d.1≠0)=false->((!U.zL d.1)=true->((50:Int),())=(U.jz d.1,()))/\((!U.zL d.1)=false->d.1.2.2.2.2.2.1.length<=100000/\(U.zf d.1.2.2.2.2.2.1).length<=100000/\(U.jxx (U.zf d.1.2.2.2.2.2.1)=true->((51:Int),())=(U.jz d.1,()))/\(U.jxx (U.zf d.1.2.2.2.2.2.1)=false->((0:Int),())=(U.jz d.1,()))))
end Go.X
namespace Go.X
open Go.Proofs
theorem jwv:jrF:=by
 intro d;rfl
theorem ja3:zu PR 68 jr8:=jZ jwv Tryz.func68 kcN koN
theorem jeG:jdh:=by
 rintro⟨l,f,⟨⟩⟩ a g;refine⟨⟨0,⟨⟨rfl,trivial⟩,trivial⟩,jHd _,fun b c=>by omega⟩,fun i hi=>⟨fun h=> ?_,fun h=> ?_⟩⟩
 .have h:i<l.length:=(by simpa using h);simp only[jG7] at*;refine⟨by omega,by omega,w4 _ (a _ (L.mem_nth h)) ⟨fun c=> ?_,fun c=>⟨L.in64 (by omega) (by omega),i+1,⟨⟨by simp,trivial⟩,trivial⟩,⟨by omega,fun b d=> ?_⟩,by omega⟩⟩⟩
  .rw[qk (p:=U.jc (α:=SpD) f.F) h hi.2 c]
  .by_cases e:b=i
   .subst e;exact c
   .exact hi.2 b (by omega)
 .have h:l.length<=i:=(by simpa using h);rw[wa (p:=U.jc (α:=SpD) f.F) h hi.2]
theorem jdu:zu PR 180 jdl:=wi jdA jeG Tryz.func180 kcN koN
theorem jbP:jaP:=by
 rintro⟨l,f,⟨⟩⟩ a;refine⟨a,?_⟩;exact congrArg (·,()) (jcz (U.jc (α:=SpD) f.F) l)
theorem ja2:zu PR 137 jaS:=jZ jbP Tryz.func137 (kcC jdu kcN) koN
theorem jdx:jbX:=by
 rintro⟨l,f,⟨⟩⟩ a g;refine⟨⟨0,⟨⟨rfl,trivial⟩,trivial⟩,jHd _,fun b c=>by omega⟩,fun i hi=>⟨fun h=> ?_,fun h=> ?_⟩⟩
 .have h:i<l.length:=(by simpa using h);simp only[jG7] at*;refine⟨by omega,by omega,w4 _ (a _ (L.mem_nth h)) ⟨fun c=> ?_,fun c=>⟨L.in64 (by omega) (by omega),i+1,⟨⟨by simp,trivial⟩,trivial⟩,⟨by omega,fun b d=> ?_⟩,by omega⟩⟩⟩
  .rw[qk (p:=U.jc (α:=(List SpD)) f.F) h hi.2 c]
  .by_cases e:b=i
   .subst e;exact c
   .exact hi.2 b (by omega)
 .have h:l.length<=i:=(by simpa using h);rw[wa (p:=U.jc (α:=(List SpD)) f.F) h hi.2]
theorem jci:zu PR 181 jb4:=wi jcJ jdx Tryz.func181 kcN koN
theorem jba:gI:=by
 rintro⟨l,f,⟨⟩⟩ a;refine⟨a,?_⟩;exact congrArg (·,()) (jcz (U.jc (α:=(List SpD)) f.F) l)
theorem jab:zu PR 139 gM:=jZ jba Tryz.func139 (kcC jci kcN) koN
theorem jbO:jaO:=by
 rintro⟨l,f,⟨⟩⟩ a g;refine⟨⟨0,⟨⟨rfl,trivial⟩,trivial⟩,jHd _,fun b c=>by omega⟩,fun i hi=>⟨fun h=> ?_,fun h=> ?_⟩⟩
 .have h:i<l.length:=(by simpa using h);simp only[jG7] at*;refine⟨by omega,by omega,w4 _ (a _ (L.mem_nth h)) ⟨fun c=> ?_,fun c=>⟨L.in64 (by omega) (by omega),i+1,⟨⟨by simp,trivial⟩,trivial⟩,⟨by omega,fun b d=> ?_⟩,by omega⟩⟩⟩
  .rw[qk (p:=U.jc (α:=BkD) f.F) h hi.2 c]
  .by_cases e:b=i
   .subst e;exact c
   .exact hi.2 b (by omega)
 .have h:l.length<=i:=(by simpa using h);rw[wa (p:=U.jc (α:=BkD) f.F) h hi.2]
theorem ja1:zu PR 182 jaR:=wi jbk jbO Tryz.func182 kcN koN
theorem gz:yK:=by
 rintro⟨l,f,⟨⟩⟩ a;refine⟨a,?_⟩;exact congrArg (·,()) (jcz (U.jc (α:=BkD) f.F) l)
theorem yO:zu PR 141 yM:=jZ gz Tryz.func141 (kcC ja1 kcN) koN
theorem jdy:jbY:=by
 rintro⟨l,f,⟨⟩⟩ a g;refine⟨⟨0,⟨⟨rfl,trivial⟩,trivial⟩,jHd _,fun b c=>by omega⟩,fun i hi=>⟨fun h=> ?_,fun h=> ?_⟩⟩
 .have h:i<l.length:=(by simpa using h);simp only[jG7] at*;refine⟨by omega,by omega,w4 _ (a _ (L.mem_nth h)) ⟨fun c=> ?_,fun c=>⟨L.in64 (by omega) (by omega),i+1,⟨⟨by simp,trivial⟩,trivial⟩,⟨by omega,fun b d=> ?_⟩,by omega⟩⟩⟩
  .rw[qk (p:=U.jc (α:=ShD) f.F) h hi.2 c]
  .by_cases e:b=i
   .subst e;exact c
   .exact hi.2 b (by omega)
 .have h:l.length<=i:=(by simpa using h);rw[wa (p:=U.jc (α:=ShD) f.F) h hi.2]
theorem jcj:zu PR 119 jb5:=wi jcK jdy Tryz.func119 kcN koN
theorem jbb:gJ:=by
 rintro⟨l,f,⟨⟩⟩ a;refine⟨a,?_⟩;exact congrArg (·,()) (jcz (U.jc (α:=ShD) f.F) l)
theorem jac:zu PR 87 gN:=jZ jbb Tryz.func87 (kcC jcj kcN) koN
theorem jiA:jgK:=by
 intro d h;exact w4 _ h rfl
theorem jg2:zu PR 138 jgO:=jZ jiA Tryz.func138 kcN koN
theorem jlQ:jjd:=by
 intro d h;exact⟨fun g a=>⟨h g a,trivial⟩,congrArg (·,()) (jj6 d.snd.fst.2 d.fst)⟩
theorem jjZ:zu PR 111 jjs:=jZ jlQ Tryz.func111 (kcC ja2 (kcC jg2 kcN)) koN
theorem jhf:jff:=by
 intro d h;exact w4 _ h rfl
theorem jfL:zu PR 140 jfp:=jZ jhf Tryz.func140 kcN koN
theorem jkC:jh3:=by
 intro d h;exact⟨fun g a=>⟨h g a,trivial⟩,congrArg (·,()) (jj6 d.snd.fst.2 d.fst)⟩
theorem jiq:zu PR 114 jid:=jZ jkC Tryz.func114 (kcC jab (kcC jfL kcN)) koN
theorem jeI:jdk:=by
 intro d h;exact w4 _ h rfl
theorem jdw:zu PR 142 jdm:=jZ jeI Tryz.func142 kcN koN
theorem jhh:jfh:=by
 intro d h;exact⟨fun g a=>⟨h g a,trivial⟩,congrArg (·,()) (jj6 d.snd.fst.2 d.fst)⟩
theorem jfN:zu PR 115 jfs:=jZ jhh Tryz.func115 (kcC yO (kcC jdw kcN)) koN
theorem jhg:jfg:=by
 intro d h;exact w4 _ h rfl
theorem jfM:zu PR 143 jfq:=jZ jhg Tryz.func143 kcN koN
theorem jkD:jh4:=by
 intro d h;exact⟨fun g a=>⟨h g a,trivial⟩,congrArg (·,()) (jj6 d.snd.fst.2 d.fst)⟩
theorem jir:zu PR 116 jie:=jZ jkD Tryz.func116 (kcC jac (kcC jfM kcN)) koN
theorem jtm:jo6:=fun _=>rfl
theorem jqd:zu PR 109 jpv:=jZ jtm Tryz.func109 kcN koN
theorem jtl:jo5:=by
 rintro⟨l,d,f,⟨⟩⟩ a _ _;exact⟨fun _=>a,rfl⟩
theorem jqc:zu PR 110 jpu:=jZ jtl Tryz.func110 (kcC jjZ kcN) koN
theorem jtk:jo4:=by
 rintro⟨b,d,⟨⟩⟩ h;have h:(U.jL d).length<4611686018427387904:=h;exact⟨L.in64 (by show _<=((U.jL d).length:Int)-1;omega) (by show((U.jL d).length:Int)-1<=_;omega),rfl⟩
theorem jqb:zu PR 112 jpt:=jZ jtk Tryz.func112 (kcC ja3 kcN) koN
theorem jtj:jo3:=by
 unfold jo3 q58_1 q58_0;rintro⟨s,d,⟨⟩⟩ h;refine⟨fun a=> ?_,fun b=>⟨fun a=> ?_,rfl⟩⟩
 .have h:=h a;exact L.in64 (by simp only at*;omega) (by simp only at*;omega)
 .have h:=b a;exact L.in64 (by simp only at*;omega) (by simp only at*;omega)
theorem jqa:zu PR 113 jps:=jZ jtj Tryz.func113 (kcC ja3 kcN) koN
theorem jBD (s:SpD):U.jhH s=U.jfP s:=by
 unfold U.jhH U.jfP;rw[jHs];simp only[jG3,decide_eq_true_eq];omega
theorem jBF (n:Nat) (b:BkD):U.jj2 n b=U.jco n b:=by
 unfold U.jj2 U.jco U.ja;rw[jHs];simp only[jG3,decide_eq_true_eq];omega
theorem jBE (nb a:Nat) (s:ShD):U.jqh nb a s=U.jaf nb a s:=by
 unfold U.jqh U.jaf U.ja;rw[jHs];simp only[jG3,decide_eq_true_eq];omega
theorem jBX (d:DyD):(((((((decide (((U.jq d).length:Int)<=4)&&U.ja ((U.jL d).length:Int) 1 5)&&(U.jL d).all (fun r=>decide ((r.length:Int)=((U.jL d).length:Int))&&r.all U.jfP))&&(U.jq d).all (U.jco (U.jL d).length))&&U.ja (U.jej d) 0 300)&&U.ja (U.jxv d) 0 1440)&&decide (((U.zc d).length:Int)<=30))&&(U.zc d).all (U.jaf (U.jq d).length (U.je (U.jb d)).length))=U.zL d:=by
 unfold U.zL;have e:(fun(r:List SpD)=>decide ((r.length:Int)=((U.jL d).length:Int))&&r.all U.jfP)=U.vR (U.jL d).length:=by
  funext r;unfold U.vR;congr 1;exact decide_eq_decide.2 (by omega)
 rw[e];cases (U.jL d).all (U.vR (U.jL d).length)<;>cases (U.jq d).all (U.jco (U.jL d).length)<;>cases (U.zc d).all (U.jaf (U.jq d).length (U.je (U.jb d)).length)<;>simp only[Bool.and_false,Bool.and_true,Bool.false_and,U.ja]
 rw[jHs];simp only[jG3,decide_eq_true_eq];omega
theorem jzG:jvv:=by
 unfold jvv q59_2 q59_1 q59_0;rintro⟨d,⟨⟩⟩ _ _;refine⟨fun _ _ _=>⟨fun _ _=>trivial,trivial⟩,fun _ _ _=>trivial,fun _=>⟨fun _ _ _=>trivial,?_⟩⟩;have a:(U.jc fun(x:SpD×Unit)=>(U.jhH x.fst,()))=U.jfP:=funext jBD;have b:(U.jc fun(x:BkD×Unit)=>(U.jj2 (U.jL d).length x.fst,()))=U.jco (U.jL d).length:=funext (jBF _);have c:(U.jc fun(x:ShD×Unit)=>(U.jqh (U.jq d).length (U.je (U.jb d)).length x.fst,()))=U.jaf (U.jq d).length (U.je (U.jb d)).length:=funext (jBE _ _);simp only;rw[a,b,c];exact congrArg (·,()) (jBX d)
theorem jwb:zu PR 81 jvP:=jZ jzG Tryz.func81 (kcC ja3 (kcC jqd (kcC jqc (kcC jqb (kcC jqa (kcC jiq (kcC jfN (kcC jir kcN)))))))) koN
theorem jkE:jh5:=by
 intro d;simp
theorem jis:zu PR 102 jif:=jZ jkE Tryz.func102 kcN koN
theorem jhi:jfi:=by
 unfold jfi q61_0;rintro⟨a,b,⟨⟩⟩;refine⟨fun h=>(by cases h),fun _=>⟨fun h=>(by cases h),fun _=>⟨fun h=> ?_,fun h=>⟨fun c=> ?_,fun c=> ?_⟩⟩⟩⟩
 .have h:a<b:=of_decide_eq_true h;simp only;unfold U.jaB;rw[if_pos h]
 .have h:¬a<b:=of_decide_eq_false h;have c:b<a:=of_decide_eq_true c;simp only;unfold U.jaB;rw[if_neg h,if_pos c]
 .have h:¬a<b:=of_decide_eq_false h;have c:¬b<a:=of_decide_eq_false c;simp only;unfold U.jaB;rw[if_neg h,if_neg c]
theorem qq:zu PR 73 jft:=jZ jhi Tryz.func73 (kcC jis kcN) koN
theorem jwN {l:List Int} {i:Nat} (h:i<l.length) (a:∀b:Nat,b<i->nth l b=0) (hi:nth l i≠0):U.wW l=nth l i:=by
 have e:l.find? (fun n=>decide (n≠0))=some (nth l i):=by
  rw[List.find?_eq_some_iff_getElem];refine⟨decide_eq_true hi,i,h,by rw[L.nth_lt h],fun j c=> ?_⟩;have:=a j c;rw[L.nth_lt (by omega)] at this;simp[this]
 unfold U.wW;rw[e]
theorem jqM {l:List Int} (a:∀b:Nat,b<l.length->nth l b=0):U.wW l=0:=by
 have e:l.find? (fun n=>decide (n≠0))=none:=by
  rw[List.find?_eq_none];intro x c;obtain⟨i,hi,rfl⟩:=L.mem_iff.1 c;simp[a i hi]
 unfold U.wW;rw[e]
theorem jqC:jnf:=by
 rintro⟨l,⟨⟩⟩ f;refine⟨⟨0,⟨⟨rfl,trivial⟩,trivial⟩,jHd _,fun b c=>by omega⟩,fun x d=>⟨fun h=> ?_,fun h=> ?_⟩⟩
 .have h:x<l.length:=(by simpa using h);simp only[jG7];refine⟨by omega,by omega,fun a=> ?_,fun a=>⟨L.in64 (by omega) (by simp only at f;omega),x+1,⟨⟨by simp,trivial⟩,trivial⟩,⟨h,fun b c=> ?_⟩,by omega⟩⟩
  .rw[jwN h d.2 (of_decide_eq_true a)]
  .by_cases e:b=x
   .subst e;exact Classical.not_not.1 (of_decide_eq_false a)
   .exact d.2 b (by omega)
 .have h:l.length<=x:=(by simpa using h);rw[jqM (fun b c=>d.2 b (by simp only at c;omega))]
theorem ja4:zu PR 72 jnv:=wi joN jqC Tryz.func72 kcN koN
theorem jlR:jje:=fun _=>rfl
theorem jj0:zu PR 84 jjt:=jZ jlR Tryz.func84 (kcC qq (kcC ja4 kcN)) koN
theorem jww:jrG:=fun _=>rfl
theorem jsP:zu PR 96 jr9:=jZ jww Tryz.func96 (kcC qq (kcC ja4 kcN)) koN
theorem jiw:jgG:=by
 rintro⟨l,⟨⟩⟩ b c a;have b:l.length<=100000:=b;refine⟨fun h=>⟨?_,rfl⟩,fun _=>⟨by simp only;omega,by simp,rfl⟩⟩;have:l=[]:=a h;rw[this]
theorem jgZ:qa PR 82 jgR:=jka jiw Tryz.func82 kcN koN
theorem jf7:jd2:=by
 unfold jd2 q66_1 q66_4 q66_3 q66_2 q66_0;rintro⟨l,⟨⟩⟩ m C;have m:l.length<=100000:=m;obtain⟨eq,k⟩:∃eq,eq=U.wL:=⟨_,rfl⟩;have A:∀a b:ShD,decide (a=b)=eq a b:=fun a b=>by rw[k];rfl
 simp only[<-k,A,jG7];refine⟨fun h=>⟨?_,trivial⟩,fun h=> ?_⟩
 .have h:(l.length:Int)<2:=of_decide_eq_true h;rw[L.comp_short (by omega)]
 have h:¬(l.length:Int)<2:=of_decide_eq_false h;refine⟨⟨1,⟨⟨rfl,trivial⟩,trivial⟩,jG5 _,by omega,?_⟩,fun i hi _=>⟨fun g=> ?_,fun g=>⟨?_,trivial⟩⟩⟩
 .rw[L.comp_short];rw[jHC];omega
 .have g:(i:Int)<(l.length:Int):=of_decide_eq_true g;obtain⟨s,D,f⟩:=hi;have z:((i:Int)-1).toNat=i-1:=(by omega);rw[z];have n:=L.comp_take (eq:=eq) (l:=l) s (by omega:i<l.length);refine⟨by omega,g,by unfold jy;omega,by omega,by omega,fun j=>⟨by omega,by omega,jH9 _,⟨(1,l),⟨⟨rfl,?_,trivial⟩,rfl,trivial⟩,jG5 _,by omega,rfl,?_,rfl,?_⟩,fun x q _=>⟨fun e=> ?_,fun e=> ?_⟩⟩,fun j=>⟨L.in64 (by omega) (by omega),i+1,⟨⟨by simp,trivial⟩,trivial⟩,⟨by omega,by omega,?_⟩,by omega⟩⟩
  .unfold U.jdG;rw[n,if_pos j,jHw,f,jHC];omega
  .rw[n,if_pos j,jHw,f,jHC];show l.take i=l.take (min i l.length);congr 1;omega
  .rw[n,if_pos j,jHw,f,jHC];omega
  .have e:(x.1:Int)<((l.length-i:Nat):Int):=of_decide_eq_true e;have r:=q;obtain⟨G,H,I,v,J,w⟩:=r;obtain⟨E,F⟩:=L.inv9_next s q (by omega);have y:((x.1:Int)-1).toNat=x.1-1:=(by omega);have o:i+(x.1-1)=i+x.1-1:=(by omega);rw[y,o];have p:U.jdG eq l (i+x.1)=((U.vL eq (l.take (i+x.1))).length:Int):=rfl;refine⟨by omega,e,by unfold jy;omega,by omega,by omega,fun c=> ?_,fun c=> ?_⟩
   .have c:eq (nth x.2 (i+x.1)) (nth x.2 (i+x.1-1))=false:=(by simpa using c);obtain⟨t,u⟩:=E c;refine⟨by omega,e,by omega,by omega,by unfold jy;omega,L.in64 (by omega) (by omega),(x.1+1,_),⟨⟨by simp,t.symm,trivial⟩,rfl,trivial⟩,u,by show _-(x.1+1)<_;omega⟩
   .have c:eq (nth x.2 (i+x.1)) (nth x.2 (i+x.1-1))=true:=(by simpa using c);obtain⟨t,u⟩:=F c;exact⟨L.in64 (by omega) (by omega),(x.1+1,x.2),⟨⟨t.symm,by simp,trivial⟩,rfl,trivial⟩,u,by show _-(x.1+1)<_;omega⟩
  .have e:¬(x.1:Int)<((l.length-i:Nat):Int):=of_decide_eq_false e;obtain⟨G,H,I,v,J,w⟩:=q;have p:U.jdG eq l (i+x.1)=((U.vL eq (l.take (i+x.1))).length:Int):=rfl;have d:l.take (i+x.1)=l:=jHU (by omega);rw[d] at p v w;rw[p];simp only[jG7];have B:=L.comp_len (eq:=eq) l;refine⟨by omega,by omega,jH9 _,by omega,by omega,by omega,?_,⟨?_,trivial⟩⟩
   .simp only[jHo,jHC,jH3];omega
   .congr 1;rw[show(U.vL eq l).length-Int.toNat 0=(U.vL eq l).length from rfl];rw[List.take_left' (by rw[jHC];omega)];exact v.symm
  .rw[n,if_neg (by rw[j];simp),f];exact(L.take_succ (by omega)).symm
 .have g:¬(i:Int)<(l.length:Int):=of_decide_eq_false g;obtain⟨s,D,f⟩:=hi;have d:l.take i=l:=jHU (by omega);rw[d] at f;rw[f]
theorem jev:qa PR 85 jef:=jdH je0 jf7 Tryz.func85 kcN koN
theorem vQ:qa PR 83 jdn:=
 jsq Tryz.sortSh 55 rfl (jHg (by kernel_rfl)) Tryz.isAgg55 Tryz.sizeOf55 (w9 Tryz.func83 (c:=zZ Tryz.f83) (by kernel_rfl) (by kernel_rfl))
theorem jCt:jbS U.y7:=by
 have e:U.y7=jAY (fun a b=>U.jaB (U.wo a) (U.wo b)) (jAY (fun a b=>U.jaB (U.jjq a) (U.jjq b)) (jAY (fun a b=>U.jaB (U.jyd a) (U.jyd b)) (jAY (fun a b=>U.jaB (U.jdq a) (U.jdq b)) (fun a b=>U.jaB (U.qE a) (U.qE b))))):=by
  funext a b;unfold U.y7;simp only[zK,wK,jAY]
  split<;>(try rfl);split<;>(try rfl);split<;>(try rfl);split<;>(try rfl);split<;>(try rfl)
  rename_i h;exact(Classical.not_not.1 h).symm
 rw[e];exact jg6 (jhD jgo U.wo) (jg6 (jhD jgo U.jjq) (jg6 (jhD jgo U.jyd) (jg6 (jhD jgo U.jdq) (jhD jgo U.qE))))
theorem jw5 {a b:ShD} (h:U.y7 a b=0):a=b:=by
 unfold U.y7 at h;rw[zK] at h
 split at h
 .contradiction
 rename_i c;rw[zK] at h
 split at h
 .contradiction
 rename_i d;rw[zK] at h
 split at h
 .contradiction
 rename_i e;rw[zK] at h
 split at h
 .contradiction
 rename_i f;rw[wK] at h;have c:=vX.1 (Classical.not_not.1 c);have d:=vX.1 (Classical.not_not.1 d);have e:=vX.1 (Classical.not_not.1 e);have f:=vX.1 (Classical.not_not.1 f);have g:=vX.1 h;obtain⟨i,j,k,l,m,⟨⟩⟩:=a;obtain⟨n,o,p,q,r,⟨⟩⟩:=b;have c:i=n:=c;have d:j=o:=d;have e:k=p:=e;have f:l=q:=f;have g:m=r:=g;rw[c,d,e,f,g]
theorem jBy (l:List ShD):kZ (U.ji tSh fun x=>(U.y7 x.1 x.2.1,())) l:=jnR jCt (fun _ _ _ _ h=>jw5 h)
theorem jAj (l:List ShD):(U.zf l).length<=l.length:=by
 unfold U.zf;refine jHi (L.comp_len _) ?_;rw[(zB l).length_eq];exact jG5 _
theorem jqz:jnc:=by
 unfold jnc q67_0;rintro⟨l,⟨⟩⟩ a;exact⟨a,fun _ _ _ _=>trivial,jBy l,by rw[(zB (lt:=U.ji tSh fun x=>(U.y7 x.1 x.2.1,())) l).length_eq];exact a,rfl,rfl⟩
theorem jfO:qa PR 54 jnz:=jka jqz Tryz.func54 (kcC jj0 kcN) (koC jgZ (koC vQ (koC jev koN)))
theorem jtn:jo7:=by
 unfold jo7 q68_0;rintro⟨s,⟨m,⟨⟩⟩,⟨⟩⟩ h;have h:U.jyc m:=h;have:=h (U.wo s);have this:0<=wh 0 (zU .int s.1 m)/\wh 0 (zU .int s.1 m)<=200000:=this;exact⟨L.in64 (by simp only;omega) (by simp only;omega),rfl,rfl⟩
theorem jqe:qa PR 88 jpF:=jka jtn Tryz.func88 kcN koN
theorem jaz {m:List (Int×Int)} {l:List ShD} {i:Nat} (h:i<l.length):U.wq m l (i+1)=U.jdd (U.wq m l i) (nth l i):=by
 unfold U.wq;rw[L.take_succ h,jHk];rfl
theorem jDl (l:List ShD):∀i,i<=l.length->∀k,0<=wh 0 (zU .int k (U.wq [] l i))/\wh 0 (zU .int k (U.wq [] l i))<=(i:Int)
 |0,_,k=>⟨jH9 0,jH9 0⟩
 |i+1,hi,k=>by
  have b:=jDl l i (by omega)
  rw[jaz (by omega)]
  unfold U.jdd
  by_cases e:k=U.wo (nth l i)
  .rw[e]
   have a:=M.mfind_mput (kt:= .int) (U.wo (nth l i)) (wh 0 (zU .int (U.wo (nth l i)) (U.wq [] l i))+1) (U.wq [] l i)
   rw[a]
   have:=b (U.wo (nth l i))
   show 0<=wh 0 (zU .int (U.wo (nth l i)) (U.wq [] l i))+1/\wh 0 (zU .int (U.wo (nth l i)) (U.wq [] l i))+1<=_
   omega
  .have a:=M.mfind_mput_ne (kt:= .int) (k:=U.wo (nth l i)) (k':=k) e (wh 0 (zU .int (U.wo (nth l i)) (U.wq [] l i))+1) (U.wq [] l i)
   rw[a]
   have:=b k
   omega
theorem jCL {m:List (Int×Int)} {l:List ShD} {i:Nat} (h:i<l.length) (a:∀b:Nat,b<i->U.jgy m l b=false) (hi:U.jgy m l i=true):U.jcN m l=(i:Int)/\U.jAN m l=i+1:=by
 have e:(List.range l.length).findIdx? (U.jgy m l)=some i:=by
  rw[List.findIdx?_eq_some_iff_getElem];refine⟨by simpa using h,by simpa using hi,fun j c=>by simp[a j c]⟩
 unfold U.jcN U.jAN U.jaH;rw[e];exact⟨rfl,rfl⟩
theorem jm3 {m:List (Int×Int)} {l:List ShD} (a:∀b:Nat,b<l.length->U.jgy m l b=false):U.jcN m l= -1/\U.jAN m l=l.length:=by
 have e:(List.range l.length).findIdx? (U.jgy m l)=none:=by
  rw[List.findIdx?_eq_none_iff];intro x c;exact a x (jHj.1 c)
 unfold U.jcN U.jAN U.jaH;rw[e];exact⟨rfl,rfl⟩
theorem ja9:gH:=by
 rintro⟨l,⟨m,⟨⟩⟩,⟨⟩⟩ n g o;have g:m=[]:=g;subst g;have n:l.length<=100000:=n;refine⟨⟨0,⟨⟨rfl,trivial⟩,rfl,trivial⟩,jHd _,fun b j=>by omega⟩,fun x a=>⟨fun h=> ?_,fun h=> ?_⟩⟩
 .have h:x<l.length:=(by simpa using h);simp only[jG7];refine⟨by omega,by omega,fun k=> ?_,fun f=> ?_,fun f=>⟨L.in64 (by omega) (by omega),x+1,⟨⟨by simp,trivial⟩,⟨trivial,trivial⟩,(jaz h).symm,trivial⟩,⟨h,fun b j=> ?_⟩,by omega⟩⟩
  .have:=jDl l x (by omega) k;omega
  .obtain⟨c,d⟩:=jCL h a.2 f;unfold U.jeR;rw[c,d,jaz h];exact⟨rfl,rfl⟩
  .by_cases e:b=x
   .subst e;exact f
   .exact a.2 b (by omega)
 .have h:l.length<=x:=(by simpa using h);obtain⟨c,d⟩:=jm3 (m:=[]) (l:=l) (fun b j=>a.2 b (by omega));have i:x=l.length:=(by have:=a.1;simp only at this;omega);unfold U.jeR;rw[c,d,i];exact⟨rfl,rfl⟩
theorem jaa:qa PR 119 gQ:=jdH jaD ja9 Tryz.func119 kcN (koC jqe koN)
theorem yQ:yc:=fun _ a b=>⟨a,b,rfl,rfl⟩
theorem yp:qa PR 87 yi:=jka yQ Tryz.func87 kcN (koC jaa koN)
theorem jzH:jvw:=fun _ h=>⟨h,rfl,rfl⟩
theorem jwc:zu PR 56 jvQ:=jZ jzH Tryz.func56 kcN (koC yp koN)
theorem jBi {c:CrD} (h:U.jl c=true):U.jW c (0,1,0,0,0,1,())=true:=by
 obtain⟨a,_⟩:=jv h;unfold U.jW;refine decide_eq_true ?_;refine⟨by decide,?_,by decide,?_,by decide,by decide,by decide,by decide,by decide,by decide,by decide,by decide,by decide⟩
 .show(0:Int)<=U.la c-1;omega
 .show(1:Int)<=U.la c-1;omega
theorem jAt (c:CrD):U.kj c (0,1,0,0,0,1,())=if U.jl c=false then 30 else 0:=by
 unfold U.kj;by_cases h:U.jl c=false
 .rw[if_pos h,if_pos h]
 .rw[if_neg h,if_neg h,if_neg (by rw[jBi (by simpa using h)];simp)]
theorem jol:jlo:=by
 unfold jlo q72_0;rintro⟨d,⟨⟩⟩;have e:=jAt d.1;simp only[e];by_cases f:U.jl d.1=false
 .rw[if_pos f];refine⟨fun _=> ?_,fun h=>by simp at h⟩;have f:U.jl (U.jb d)=false:=f;unfold U.jk4;rw[if_pos f]
 .rw[if_neg f];have c:U.jl (U.jb d)=true:=eq_true_of_ne_false f;refine⟨fun h=>by simp at h,fun _ k=>⟨⟨0,⟨⟨rfl,trivial⟩,trivial⟩,jHd _,fun b j=>by omega⟩,fun x l=>⟨fun h=> ?_,fun h=> ?_⟩⟩⟩
  .have h:(x:Int)<((U.jq d).length:Int):=of_decide_eq_true h;have h:x<(U.jq d).length:=(by omega);have k:(U.jq d).length<4611686018427387904:=k;have m:U.kj d.1 (nth d.2.2.1 x).1=if U.jW (U.jb d) (U.yJ (nth (U.jq d) x))=false then 31 else 0:=by
    show(if U.jl (U.jb d)=false then(30:Int) else if U.jW (U.jb d) (U.yJ (nth (U.jq d) x))=false then 31 else 0)=_;rw[if_neg (by rw[c];simp)]
   simp only[jG7,m];refine⟨by omega,by show(x:Int)<((U.jq d).length:Int);omega,fun a=> ?_,fun a=>⟨L.in64 (by omega) (by omega),x+1,⟨⟨by simp,trivial⟩,trivial⟩,⟨h,fun b j=> ?_⟩,(by show(U.jq d).length-(x+1)<(U.jq d).length-x;omega)⟩⟩
   .have a:=of_decide_eq_true a;by_cases g:U.jW (U.jb d) (U.yJ (nth (U.jq d) x))=false
    .rw[if_pos g];unfold U.jk4;rw[if_neg (by rw[c];simp),if_pos];unfold U.jwq;exact L.all_false h g
    .rw[if_neg g] at a;exact absurd rfl a
   .have a:=of_decide_eq_false a;by_cases n:b=x
    .subst n;by_cases g:U.jW (U.jb d) (U.yJ (nth (U.jq d) b))=false
     .rw[if_pos g] at a;exact absurd (by decide) a
     .exact eq_true_of_ne_false g
    .exact l.2 b (by omega)
  .have h:¬(x:Int)<((U.jq d).length:Int):=of_decide_eq_false h;have h:(U.jq d).length<=x:=(by omega);unfold U.jk4;rw[if_neg (by rw[c];simp),if_neg];rw[Bool.not_eq_false];unfold U.jwq;rw[jHE];intro b j;obtain⟨i,hi,rfl⟩:=L.mem_iff.1 j;exact l.2 i (by omega)
theorem jlH:zu PR 80 jlv:=wi jl2 jol Tryz.func80 (kcC jmn kcN) koN
theorem jzJ:jvy:=by
 rintro⟨d,⟨⟩⟩ c;refine⟨fun h=> ?_,fun h=>⟨fun b=> ?_,fun b=>⟨c,jHi (jAj _) c,fun a=> ?_,fun a=> ?_⟩⟩⟩
 .have h:=of_decide_eq_true h;simp only at h⊢;unfold U.jz;rw[if_pos h]
 .have h:=of_decide_eq_false h;simp only at h⊢;unfold U.jz;rw[if_neg h,if_pos (by simpa using b)]
 .have h:=of_decide_eq_false h;simp only at h⊢;unfold U.jz;rw[if_neg h,if_neg (by simpa using b)];have a:U.jxx (U.zf (U.zc d))=true:=a;rw[if_pos a]
 .have h:=of_decide_eq_false h;simp only at h⊢;unfold U.jz;rw[if_neg h,if_neg (by simpa using b)];have a:U.jxx (U.zf (U.zc d))=false:=a;rw[if_neg (by rw[a];simp)]
theorem jmp:zu PR 53 jvS:=jZ jzJ Tryz.func53 (kcC jlH (kcC jwb (kcC jwc kcN))) (koC jfO koN)
end Go.X
namespace Go.X
namespace U
def jvH {α:Type} [Inhabited α] (l:List α) (j k:Nat):List α:=(l.set j (nth l k)).set k (nth l j)
def jdo {α:Type} [Inhabited α] (lt:α->α->Bool):List α->Nat->List α
 |l,0=>l
 |l,j+1=>if lt (nth l (j+1)) (nth l j)=true then jdo lt (jvH l (j+1) j) j else l
def gp {α:Type} [Inhabited α] (lt:α->α->Bool) (l:List α) (i:Nat):List α:=(List.range i).foldl (jdo lt) l
def jbz {α:Type} [Inhabited α] (lt:α->α->Bool) (l:List α):List α:=gp lt l l.length
def jeD {α:Type} (lt:α->α->Bool) (x:α):List α->List α
 |[]=>[x]
 |y::r=>if lt x y=true then y::jeD lt x r else x::y::r
end U
namespace IS
variable {α:Type} [Inhabited α] {lt:α->α->Bool}
theorem swap_perm {l:List α} {j k:Nat} (a:j<l.length) (hk:k<l.length):(U.jvH l j k).Perm l:=by
 unfold U.jvH;rw[L.nth_lt a,L.nth_lt hk];exact List.set_set_perm a hk
theorem sink_perm:∀(j:Nat) (l:List α),j<l.length->(U.jdo lt l j).Perm l
 |0,l,_=>List.Perm.refl _
 |j+1,l,h=>by
  unfold U.jdo
  have a:=swap_perm (l:=l) (j:=j+1) (k:=j) h (by omega)
  split
  .exact(sink_perm j _ (by rw[a.length_eq];omega)).trans a
  .exact List.Perm.refl _
theorem part_succ (lt:α->α->Bool) (l:List α) (i:Nat):U.gp lt l (i+1)=U.jdo lt (U.gp lt l i) i:=by
 simp[U.gp,jHq]
theorem part_perm {l:List α}:∀(i:Nat),i<=l.length->(U.gp lt l i).Perm l
 |0,_=>List.Perm.refl _
 |i+1,h=>by
  rw[part_succ]
  have a:=part_perm (l:=l) i (by omega)
  exact(sink_perm i _ (by rw[a.length_eq];omega)).trans a
theorem isort_perm (lt:α->α->Bool) (l:List α):(U.jbz lt l).Perm l:=part_perm _ (jG5 _)
theorem part_isort {l:List α} {i:Nat} (a:1<=i) (b:i<=max l.length 1) (c:l.length<=i):U.gp lt l i=U.jbz lt l:=by
 unfold U.jbz;by_cases h:l.length=0
 .have:i=1:=(by omega);subst this;rw[h];rfl
 .have:i=l.length:=(by omega);rw[this]
theorem insR_len {α:Type} {lt:α->α->Bool} (x:α):∀q:List α,(U.jeD lt x q).length=q.length+1
 |[]=>rfl
 |y::r=>by
  unfold U.jeD
  split
  .simp[insR_len x r]
  .simp
theorem nth_mid (a:List α) (x:α) (s:List α):nth (a++x::s) a.length=x:=by
 rw[L.nth_lt (by simp)];simp
theorem sink_app:∀(q:List α) (x:α) (s:List α),U.jdo lt (q.reverse++x::s) q.length=(U.jeD lt x q).reverse++s
 |[],x,s=>rfl
 |y::r,x,s=>by
  have e:(y::r).reverse++x::s=r.reverse++y::x::s:=by simp
  rw[e]
  have g:nth (r.reverse++y::x::s) (r.length+1)=x:=by
   have:=nth_mid (r.reverse++[y]) x s;simpa using this
  have h:nth (r.reverse++y::x::s) r.length=y:=by
   have:=nth_mid r.reverse y (x::s);simpa using this
  show(if lt (nth _ (r.length+1)) (nth _ r.length)=true then U.jdo lt (U.jvH _ (r.length+1) r.length) r.length else _)=_;rw[g,h];unfold U.jeD
  split
  .have a:U.jvH (r.reverse++y::x::s) (r.length+1) r.length=r.reverse++x::(y::s):=by
    unfold U.jvH;rw[g,h];apply List.ext_getElem?;intro k;simp only[List.getElem?_set,List.length_set];by_cases b:r.length=k
    .subst b;rw[if_pos rfl,if_pos (by simp)];rw[jHe (by simp)];simp
    .rw[if_neg b];by_cases c:r.length+1=k
     .subst c;rw[if_pos rfl,if_pos (by simp)];rw[jHe (by simp)];simp
     .rw[if_neg c];by_cases f:k<r.length
      .rw[jHf (by simpa using f),jHf (by simpa using f)]
      .rw[jHe (by simp;omega),jHe (by simp;omega)];obtain⟨d,i⟩:∃d,k-r.reverse.length=d+2:=⟨k-r.length-2,by simp;omega⟩;rw[i];simp
   rw[a,sink_app r x (y::s)];simp
  .simp
theorem fold_len {α:Type} {lt:α->α->Bool}:∀(l q:List α),(l.foldl (fun q x=>U.jeD lt x q) q).length=q.length+l.length
 |[],q=>rfl
 |x::l,q=>by
  simp only[List.foldl_cons,jHD]
  rw[fold_len l,insR_len];omega
theorem part_eq (l:List α):∀i,i<=l.length->U.gp lt l i=((l.take i).foldl (fun q x=>U.jeD lt x q) []).reverse++l.drop i
 |0,_=>by simp[U.gp]
 |i+1,h=>by
  rw[part_succ,part_eq l i (by omega)]
  have b:l.drop i=nth l i::l.drop (i+1):=by
   rw[L.nth_lt (by omega)];exact List.drop_eq_getElem_cons (by omega)
  rw[b];have a:((l.take i).foldl (fun q x=>U.jeD lt x q) []).length=i:=(by rw[fold_len];simp;omega);have:=sink_app (lt:=lt) ((l.take i).foldl (fun q x=>U.jeD lt x q) []) (nth l i) (l.drop (i+1));rw[a] at this;rw[this,L.take_succ (by omega),jHk];rfl
theorem isort_eq (l:List α):U.jbz lt l=(l.foldl (fun q x=>U.jeD lt x q) []).reverse:=by
 unfold U.jbz;rw[part_eq l _ (jG5 _)];simp
theorem insR_mem {α:Type} {lt:α->α->Bool} {x z:α}:∀{q:List α},z∈U.jeD lt x q↔z=x\/z∈q
 |[]=>by simp[U.jeD]
 |y::r=>by
  unfold U.jeD
  split
  .simp only[jG4,insR_mem (q:=r)]
   constructor
   .rintro(h|h|h)<;>simp[h]
   .rintro(h|h|h)<;>simp[h]
  .simp
theorem insR_desc {α:Type} {lt:α->α->Bool} {x:α}:∀{q:List α},kZ lt (x::q)->q.Pairwise (fun a b=>lt a b=false)->(U.jeD lt x q).Pairwise (fun a b=>lt a b=false)
 |[],_,_=>by simp[U.jeD]
 |y::r,ho,h=>by
  rw[jHS] at h
  unfold U.jeD
  split
  .rename_i d
   rw[jHS]
   refine⟨fun z c=> ?_,insR_desc (ho.sub (fun z c=>by rcases jG4.1 c with h|h;exact h▸jHH;exact jHb _ (jHb _ h))) h.2⟩
   rcases insR_mem.1 c with rfl|c
   .exact ho.asymm (by simp) (by simp) d
   .exact h.1 z c
  .rename_i d
   have d:lt x y=false:=by simpa using d
   rw[jHS]
   refine⟨fun z c=> ?_,jHS.2 h⟩
   rcases jG4.1 c with rfl|c
   .exact d
   .exact ho.ntrans (by simp) (by simp) (by simp[c]) d (h.1 z c)
theorem fold_desc {α:Type} {lt:α->α->Bool}:∀(l q:List α),kZ lt (l++q)->q.Pairwise (fun a b=>lt a b=false)->(l.foldl (fun q x=>U.jeD lt x q) q).Pairwise (fun a b=>lt a b=false)
 |[],q,_,h=>h
 |x::l,q,ho,h=>by
  refine fold_desc l _ (ho.sub (fun z c=> ?_)) (insR_desc (ho.sub (fun z c=> ?_)) h)
  .rcases jHa.1 c with c|c
   .simp[c]
   .rcases insR_mem.1 c with rfl|c
    .simp
    .simp[c]
  .rcases jG4.1 c with rfl|c
   .simp
   .simp[c]
theorem isort_asc {l:List α} (a:kZ lt l):jvo lt (U.jbz lt l):=by
 rw[isort_eq];unfold jvo;rw[List.pairwise_reverse];exact fold_desc l [] (by simpa using a) (by simp)
theorem isort_sort {l:List α} (a:kZ lt l):U.jbz lt l=U.jd lt l:=jpB a (isort_perm lt l) (isort_asc a)
end IS
end Go.X
namespace Go.X
open Go.Proofs
def U.len8tab:ByteArray:=⟨#[0,1,2,2,3,3,3,3,4,4,4,4,4,4,4,4,5,5,5,5,5,5,5,5,5,5,5,5,5,5,5,5,6,6,6,6,6,6,6,6,6,6,6,6,6,6,6,6,6,6,6,6,6,6,6,6,6,6,6,6,6,6,6,6,7,7,7,7,7,7,7,7,7,7,7,7,7,7,7,7,7,7,7,7,7,7,7,7,7,7,7,7,7,7,7,7,7,7,7,7,7,7,7,7,7,7,7,7,7,7,7,7,7,7,7,7,7,7,7,7,7,7,7,7,7,7,7,7,8,8,8,8,8,8,8,8,8,8,8,8,8,8,8,8,8,8,8,8,8,8,8,8,8,8,8,8,8,8,8,8,8,8,8,8,8,8,8,8,8,8,8,8,8,8,8,8,8,8,8,8,8,8,8,8,8,8,8,8,8,8,8,8,8,8,8,8,8,8,8,8,8,8,8,8,8,8,8,8,8,8,8,8,8,8,8,8,8,8,8,8,8,8,8,8,8,8,8,8,8,8,8,8,8,8,8,8,8,8,8,8,8,8,8,8,8,8,8,8,8,8,8,8,8,8,8,8]⟩
abbrev rwI:Sh:= .cl (.row 3 .int .unk)
namespace U
abbrev FC:=Int×Int×Unit->Int×Unit
abbrev vW (F:FC):Int->Int->Bool:=ji .int F
def jbw (p:Int×Int×Unit->List Prop) (l:List Int):Prop:=∀x∈l,∀y∈l,jG (p (x,y,()))
def jeV (n:Int):Int:=if n=0 then 0 else if n<2 then 1 else if n<4 then 2 else if n<8 then 3 else 4
end U
def jnx:j7:=⟨[.val (.uint .u64)],[.int],false,fun d=>[0<=d.1/\d.1<=12],fun d=>(U.jeV d.1,())⟩
abbrev q74_0 (d:Int×Unit):=(d.1/(2:Int)^Int.toNat 32/(2:Int)^Int.toNat 16/(2:Int)^Int.toNat 8)
abbrev q74_1 (d:Int×Unit):=(d.1/(2:Int)^Int.toNat 32/(2:Int)^Int.toNat 16)
abbrev q74_2 (d:Int×Unit):=(d.1/(2:Int)^Int.toNat 32/(2:Int)^Int.toNat 8)
abbrev q74_3 (d:Int×Unit):=(d.1/(2:Int)^Int.toNat 16/(2:Int)^Int.toNat 8)
abbrev q74_4 (d:Int×Unit):=(256<=d.1/(2:Int)^Int.toNat 32/(2:Int)^Int.toNat 16)
def jnh:Prop:=∀(d:Int×Unit),0<=d.1/\d.1<=12->(decide (4294967296<=d.1)=true->(0:Int)<=32/\(32:Int)<=64/\(decide (65536<=d.1/(2:Int)^Int.toNat 32)=true->(0:Int)<=16/\(16:Int)<=64/\jy ((32:Int)+16)/\(decide (q74_4 d)=true->(0:Int)<=8/\(8:Int)<=64/\jy ((32:Int)+16+8)/\0<=d.1/(2:Int)^Int.toNat 32/(2:Int)^Int.toNat 16/(2:Int)^Int.toNat 8/\d.1/(2:Int)^Int.toNat 32/(2:Int)^Int.toNat 16/(2:Int)^Int.toNat 8<=255/\0<=d.1/(2:Int)^Int.toNat 32/(2:Int)^Int.toNat 16/(2:Int)^Int.toNat 8/\d.1/(2:Int)^Int.toNat 32/(2:Int)^Int.toNat 16/(2:Int)^Int.toNat 8<(U.len8tab.size:Int)/\jy (qC U.len8tab (q74_0 d).toNat)/\jy ((32:Int)+16+8+qC U.len8tab (q74_0 d).toNat)/\((32:Int)+16+8+qC U.len8tab (q74_0 d).toNat,())=(U.jeV d.1,()))/\(decide (q74_4 d)=false->0<=d.1/(2:Int)^Int.toNat 32/(2:Int)^Int.toNat 16/\d.1/(2:Int)^Int.toNat 32/(2:Int)^Int.toNat 16<=255/\0<=d.1/(2:Int)^Int.toNat 32/(2:Int)^Int.toNat 16/\d.1/(2:Int)^Int.toNat 32/(2:Int)^Int.toNat 16<(U.len8tab.size:Int)/\jy (qC U.len8tab (q74_1 d).toNat)/\jy ((32:Int)+16+qC U.len8tab (q74_1 d).toNat)/\((32:Int)+16+qC U.len8tab (q74_1 d).toNat,())=(U.jeV d.1,())))/\(decide (65536<=d.1/(2:Int)^Int.toNat 32)=false->(decide (256<=d.1/(2:Int)^Int.toNat 32)=true->(0:Int)<=8/\(8:Int)<=64/\jy ((32:Int)+8)/\0<=d.1/(2:Int)^Int.toNat 32/(2:Int)^Int.toNat 8/\d.1/(2:Int)^Int.toNat 32/(2:Int)^Int.toNat 8<=255/\0<=d.1/(2:Int)^Int.toNat 32/(2:Int)^Int.toNat 8/\d.1/(2:Int)^Int.toNat 32/(2:Int)^Int.toNat 8<(U.len8tab.size:Int)/\jy (qC U.len8tab (q74_2 d).toNat)/\jy ((32:Int)+8+qC U.len8tab (q74_2 d).toNat)/\((32:Int)+8+qC U.len8tab (q74_2 d).toNat,())=(U.jeV d.1,()))/\(decide (256<=d.1/(2:Int)^Int.toNat 32)=false->0<=d.1/(2:Int)^Int.toNat 32/\d.1/(2:Int)^Int.toNat 32<=255/\0<=d.1/(2:Int)^Int.toNat 32/\d.1/(2:Int)^Int.toNat 32<(U.len8tab.size:Int)/\jy (qC U.len8tab (d.1/(2:Int)^Int.toNat 32).toNat)/\jy ((32:Int)+qC U.len8tab (d.1/(2:Int)^Int.toNat 32).toNat)/\((32:Int)+qC U.len8tab (d.1/(2:Int)^Int.toNat 32).toNat,())=(U.jeV d.1,()))))/\(decide (4294967296<=d.1)=false->(decide (65536<=d.1)=true->(0:Int)<=16/\(16:Int)<=64/\jy ((0:Int)+16)/\(decide (256<=d.1/(2:Int)^Int.toNat 16)=true->(0:Int)<=8/\(8:Int)<=64/\jy ((0:Int)+16+8)/\0<=d.1/(2:Int)^Int.toNat 16/(2:Int)^Int.toNat 8/\d.1/(2:Int)^Int.toNat 16/(2:Int)^Int.toNat 8<=255/\0<=d.1/(2:Int)^Int.toNat 16/(2:Int)^Int.toNat 8/\d.1/(2:Int)^Int.toNat 16/(2:Int)^Int.toNat 8<(U.len8tab.size:Int)/\jy (qC U.len8tab (q74_3 d).toNat)/\jy ((0:Int)+16+8+qC U.len8tab (q74_3 d).toNat)/\((0:Int)+16+8+qC U.len8tab (q74_3 d).toNat,())=(U.jeV d.1,()))/\(decide (256<=d.1/(2:Int)^Int.toNat 16)=false->0<=d.1/(2:Int)^Int.toNat 16/\d.1/(2:Int)^Int.toNat 16<=255/\0<=d.1/(2:Int)^Int.toNat 16/\d.1/(2:Int)^Int.toNat 16<(U.len8tab.size:Int)/\jy (qC U.len8tab (d.1/(2:Int)^Int.toNat 16).toNat)/\jy ((0:Int)+16+qC U.len8tab (d.1/(2:Int)^Int.toNat 16).toNat)/\((0:Int)+16+qC U.len8tab (d.1/(2:Int)^Int.toNat 16).toNat,())=(U.jeV d.1,())))/\(decide (65536<=d.1)=false->(decide (256<=d.1)=true->(0:Int)<=8/\(8:Int)<=64/\jy ((0:Int)+8)/\0<=d.1/(2:Int)^Int.toNat 8/\d.1/(2:Int)^Int.toNat 8<=255/\0<=d.1/(2:Int)^Int.toNat 8/\d.1/(2:Int)^Int.toNat 8<(U.len8tab.size:Int)/\jy (qC U.len8tab (d.1/(2:Int)^Int.toNat 8).toNat)/\jy ((0:Int)+8+qC U.len8tab (d.1/(2:Int)^Int.toNat 8).toNat)/\((0:Int)+8+qC U.len8tab (d.1/(2:Int)^Int.toNat 8).toNat,())=(U.jeV d.1,()))/\(decide (256<=d.1)=false->0<=d.1/\d.1<=255/\0<=d.1/\d.1<(U.len8tab.size:Int)/\jy (qC U.len8tab d.1.toNat)/\jy ((0:Int)+qC U.len8tab d.1.toNat)/\((0:Int)+qC U.len8tab d.1.toNat,())=(U.jeV d.1,()))))
def jsk:j7:=⟨[.val (.uint .u64)],[.int],false,fun d=>[0<=d.1/\d.1<=12],fun d=>(U.jeV d.1,())⟩
def jrS:Prop:=∀(d:Int×Unit),0<=d.1/\d.1<=12->(false=true->False)/\(false=false->(0<=d.1/\d.1<=12)/\(U.jeV d.1,())=(U.jeV d.1,()))
def vd:zP:=⟨[.own rwI true,.val .int,.val .int,.fn [.int,.int] [.int]],[],fun d=>[d.2.1=0/\d.2.2.1=(d.1.length:Int)/\d.1.length<=12,U.jbw d.2.2.2.1.pre d.1],fun d=>((),(U.jbz (U.vW d.2.2.2.1.F) d.1,()))⟩
def vB:Ann:=fun r=>match r with
 |1=>some fun σ=>{X:=Nat,sl:=fun i=>[(8,.dat .int (i:Int))],ob:=fun i=>[(1000000,some (.row 3 .int false .unk (U.gp (U.vW (gfn [.int,.int] [.int] σ 3)) (gr .int σ 1000000) i)))],inv:=fun i=>1<=i/\i<=max (gr .int σ 1000000).length 1,mu:=fun i=>(gr .int σ 1000000).length-i}
 |4=>some fun σ=>{X:=Nat×List Int,sl:=fun x=>[(9,.dat .int (x.1:Int))],ob:=fun x=>[(1000000,some (.row 3 .int false .unk x.2))],inv:=fun x=>(x.1:Int)<=gd .int σ 8/\x.2.Perm (gr .int σ 1000000)/\U.jdo (U.vW (gfn [.int,.int] [.int] σ 3)) x.2 x.1=U.jdo (U.vW (gfn [.int,.int] [.int] σ 3)) (gr .int σ 1000000) (gd .int σ 8).toNat,mu:=fun x=>x.1}
 |_=>none
abbrev q76_0 (a:Nat×List Int):=(nth a.2 (a.1:Int).toNat,nth a.2 ((a.1:Int)-1).toNat,())
abbrev q76_1 (d:List Int×Int×Int×FnD [Ty.int,Ty.int] [Ty.int]×Unit):=(U.vW d.2.2.2.1.2)
def q9:Prop:=∀(d:List Int×Int×Int×FnD [Ty.int,Ty.int] [Ty.int]×Unit),d.2.1=0/\d.2.2.1=(d.1.length:Int)/\d.1.length<=12->U.jbw d.2.2.2.1.1 d.1->jy (d.2.1+1)/\(∃(x:Nat),((d.2.1+1=(x:Int)/\True)/\d.1=U.gp (q76_1 d) d.1 x/\True)/\1<=x/\x<=max d.1.length 1)/\∀(x:Nat),1<=x/\x<=max d.1.length 1->(decide ((x:Int)<d.2.2.1)=true->(∃(a:Nat×List Int),(((x:Int)=(a.1:Int)/\True)/\U.gp (q76_1 d) d.1 x=a.2/\True)/\(a.1:Int)<=(x:Int)/\a.2.Perm (U.gp (q76_1 d) d.1 x)/\U.jdo (q76_1 d) a.2 a.1=U.jdo (q76_1 d) (U.gp (q76_1 d) d.1 x) (x:Int).toNat)/\∀(a:Nat×List Int),(a.1:Int)<=(x:Int)/\a.2.Perm (U.gp (q76_1 d) d.1 x)/\U.jdo (q76_1 d) a.2 a.1=U.jdo (q76_1 d) (U.gp (q76_1 d) d.1 x) (x:Int).toNat->(decide (d.2.1<(a.1:Int))=true->0<=(a.1:Int))/\(decide (d.2.1<(a.1:Int))=true->(a.1:Int)<(a.2.length:Int))/\(decide (d.2.1<(a.1:Int))=true->jy ((a.1:Int)-1))/\(decide (d.2.1<(a.1:Int))=true->0<=(a.1:Int)-1)/\(decide (d.2.1<(a.1:Int))=true->(a.1:Int)-1<(a.2.length:Int))/\jAE (decide (d.2.1<(a.1:Int))) (d.2.2.2.1.1 (q76_0 a)) (((decide (d.2.1<(a.1:Int))&&decide ((d.2.2.2.1.2 (q76_0 a)).1<0))=true->jy ((a.1:Int)-1)/\jy ((a.1:Int)-1)/\0<=(a.1:Int)-1/\(a.1:Int)-1<(a.2.length:Int)/\0<=(a.1:Int)/\(a.1:Int)<(a.2.length:Int)/\0<=(a.1:Int)/\(a.1:Int)<(a.2.length:Int)/\0<=(a.1:Int)-1/\(a.1:Int)-1<(↑(a.2.set (a.1:Int).toNat (nth a.2 ((a.1:Int)-1).toNat)).length:Int)/\jy ((a.1:Int)-1)/\∃(b:Nat×List Int),(((a.1:Int)-1=(b.1:Int)/\True)/\(a.2.set (a.1:Int).toNat (nth a.2 ((a.1:Int)-1).toNat)).set ((a.1:Int)-1).toNat (nth a.2 (a.1:Int).toNat)=b.2/\True)/\((b.1:Int)<=(x:Int)/\b.2.Perm (U.gp (q76_1 d) d.1 x)/\U.jdo (q76_1 d) b.2 b.1=U.jdo (q76_1 d) (U.gp (q76_1 d) d.1 x) (x:Int).toNat)/\b.1<a.1)/\((decide (d.2.1<(a.1:Int))&&decide ((d.2.2.2.1.2 (q76_0 a)).1<0))=false->jy ((x:Int)+1)/\∃(c:Nat),(((x:Int)+1=(c:Int)/\True)/\a.2=U.gp (q76_1 d) d.1 c/\True)/\(1<=c/\c<=max d.1.length 1)/\d.1.length-c<d.1.length-x)))/\(decide ((x:Int)<d.2.2.1)=false->()=()/\(U.gp (q76_1 d) d.1 x,())=(U.jbz (q76_1 d) d.1,()))
def gP:zP:=⟨[.own rwI true,.val .int,.val .int,.val .int,.fn [.int,.int] [.int]],[],fun d=>[d.2.1=0/\d.2.2.1=(d.1.length:Int)/\d.1.length<=12,U.jbw d.2.2.2.2.1.pre d.1],fun d=>((),(U.jbz (U.vW d.2.2.2.2.1.F) d.1,()))⟩
def jaC:Ann:=fun r=>match r with
 |1000002=>some fun _=>{X:=Unit,sl:=fun _=>[],ob:=fun _=>[],inv:=fun _=>True,mu:=fun _=>0}
 |_=>none
def gG:Prop:=∀(d:List Int×Int×Int×Int×FnD [Ty.int,Ty.int] [Ty.int]×Unit),d.2.1=0/\d.2.2.1=(d.1.length:Int)/\d.1.length<=12->U.jbw d.2.2.2.2.1.1 d.1->jy (d.2.2.1-d.2.1)/\(decide (d.2.2.1-d.2.1<=12)=true->(d.2.1=0/\d.2.2.1=(d.1.length:Int)/\d.1.length<=12)/\U.jbw d.2.2.2.2.1.1 d.1/\()=()/\(U.jbz (U.vW d.2.2.2.2.1.2) d.1,())=(U.jbz (U.vW d.2.2.2.2.1.2) d.1,()))/\(decide (d.2.2.1-d.2.1<=12)=false->(decide (d.2.2.2.1=0)=true->False)/\(decide (d.2.2.2.1=0)=false->((!true)=true->False)/\((!true)=false->False)))
def zX:zP:=⟨[.own rwI true,.fn [.int,.int] [.int]],[],fun d=>[d.1.length<=12,U.jbw d.2.1.pre d.1,kZ (U.vW d.2.1.F) d.1],fun d=>((),(U.jd (U.vW d.2.1.F) d.1,()))⟩
def jfb:Prop:=∀(d:List Int×FnD [Ty.int,Ty.int] [Ty.int]×Unit),d.1.length<=12->U.jbw d.2.1.1 d.1->kZ (U.vW d.2.1.2) d.1->d.1.length<4611686018427387904->0<=(d.1.length:Int)/\(d.1.length:Int)<=18446744073709551615/\(0<=(d.1.length:Int)/\(d.1.length:Int)<=12)/\((0:Int)=0/\(d.1.length:Int)=(d.1.length:Int)/\d.1.length<=12)/\U.jbw d.2.1.1 d.1/\()=()/\(U.jbz (U.vW d.2.1.2) d.1,())=(U.jd (U.vW d.2.1.2) d.1,())
def asI (l:List Int):List (Ty.st [.int]).Data:=l.map (fun x=>(x,()))
def LVi (d:PD [.ref (.slice .int)]) (xs:List (Ty.st [.int]).Data):Prop:=xs=asI d.1
def jgw:ji0 (YS [.int]):=fun r=>match r with
 |1=>some fun σ ys=>{X:=Nat,sl:=fun i=>[(7,.dat .int (i:Int))],ob:=fun _=>[],ys:=fun i=>(asI ((gd (.slice .int) σ 5).take i),true),inv:=fun i=>i<=(gd (.slice .int) σ 5).length,mu:=fun i=>(gd (.slice .int) σ 5).length-i}
 |_=>none
abbrev q79_0 (d:List Int×Unit)(x:Nat):=(nth d.1 (x:Int).toNat,())
def yS:Prop:=∀(d:List Int×Unit) (l:Nat),d.1.length<4611686018427387904->(∃(x:Nat),((0=(x:Int)/\True)/\True)/\([],true)=(List.map (fun(f:Int)=>(f,())) (List.take x d.1),true)/\x<=d.1.length)/\∀(x:Nat),x<=d.1.length->(decide ((x:Int)<(d.1.length:Int))=true->0<=(x:Int)/\(x:Int)<(d.1.length:Int)/\l=l/\(∃(rest:List (Int×Unit)),List.map (fun(g:Int)=>(g,())) (List.take x d.1)++[(q79_0 d x)]++rest=List.map (fun(h:Int)=>(h,())) d.1)/\(((!true)=true->true=true->List.map (fun(i:Int)=>(i,())) (List.take x d.1)++[(q79_0 d x)]=List.map (fun(j:Int)=>(j,())) d.1)/\((!true)=false->jy ((x:Int)+1)/\∃(a:Nat),(((x:Int)+1=(a:Int)/\True)/\True)/\(List.map (fun(k:Int)=>(k,())) (List.take x d.1)++[(q79_0 d x)],true)=(List.map (fun(z6:Int)=>(z6,())) (List.take a d.1),true)/\a<=d.1.length/\d.1.length-a<d.1.length-x))/\((!false)=true->false=true->List.map (fun(z7:Int)=>(z7,())) (List.take x d.1)++[(q79_0 d x)]=List.map (fun(z8:Int)=>(z8,())) d.1)/\((!false)=false->jy ((x:Int)+1)/\∃(a:Nat),(((x:Int)+1=(a:Int)/\True)/\True)/\(List.map (fun(m:Int)=>(m,())) (List.take x d.1)++[(q79_0 d x)],false)=(List.map (fun(b:Int)=>(b,())) (List.take a d.1),true)/\a<=d.1.length/\d.1.length-a<d.1.length-x))/\(decide ((x:Int)<(d.1.length:Int))=false->true=true->List.map (fun(c:Int)=>(c,())) (List.take x d.1)=List.map (fun(e:Int)=>(e,())) d.1)
theorem jbW:(jBk (ctx 16 [] []) (zZ Tryz.f101) [.int] [.ref (.slice .int)] LVi (fun _=>[]) (fun _ _=>jgw) (fun d l=>hkY [.int] l [13] (fun q=>∃rest,LVi d (q++rest)) (fun _=>none)))=yS:=by kernel_rfl
def z6:je5:=⟨[.val (.slice .int)],fun _=>[],101,[.slice .int],fun d=>(d.1,())⟩
def jbp:Prop:=∀(d:List Int×Unit),d=d
theorem jdZ:(jAw (ctx 4 [] []) (fun _=>none) Tryz.f70 (zZ Tryz.f70) z6)=jbp:=by kernel_rfl
def ym:jro [.int]:={ps:=[.own (.box 34 [.row 3 .int .unk]) true],slots:=[2],dst:=20,pre:=fun _=>[],G:=fun d q=>((d.1.1++q.map (·.1),()),()),seq:=fun sv=>match sv with
 | .clo 101 [.ep t m]=>(match zz t (.slice .int) m with
  |some a=>some (True,fun xs=>xs=asI a)
  |none=>none)
 |_=>none}
def qc:Nat->Option ((ts:List Ty)×jro ts):=fun r=>match r with
 |3=>some ⟨[.int],ym⟩
 |_=>none
def ku:je2:=⟨[none,some (101,1)],[.nil false,.ref (.slice .int)],[rwI],fun d=>[d.2.1.length<=12],fun d r=>r.1.1=d.2.1⟩
def kR:je2:=⟨[some (101,1)],[.ref (.slice .int)],[rwI],fun d=>[d.1.length<=12],fun d r=>r.1.1=d.1⟩
def kc:je2:=⟨[some (101,1),none],[.ref (.slice .int),.fn [.int,.int] [.int]],[rwI],fun d=>[d.1.length<=12,U.jbw d.2.1.pre d.1,kZ (U.vW d.2.1.F) d.1],fun d r=>r.1.1=U.jd (U.vW d.2.1.F) d.1⟩
def jeW (d:OD ku.ps):List SV:=[.lit (.slice none 0 0),.clo 101 [.ep (.slice .int) d.2.1]]
def yd:Prop:=∀(d:Unit×List Int×Unit),d.2.1.length<=12/\True->True/\True/\(([]++List.map (fun(a:Int×Unit)=>a.1) [],()),())=(([],()),())/\(∀(q:List (Int×Unit)) (x:Int×Unit) (rest:List (Int×Unit)),q++x::rest=List.map (fun(b:Int)=>(b,())) d.2.1->wx (fun(i:List (Int×Unit))=>false) q->(([]++List.map (fun(e:Int×Unit)=>e.1) q).length+[x.1].length)*8<=140737488355328/\false=false/\(([]++List.map (fun(f:Int×Unit)=>f.1) q++[x.1],()),())=(([]++List.map (fun(g:Int×Unit)=>g.1) (q++[x]),()),()))/\(∀(xs:List (Int×Unit)),xs=List.map (fun(z6:Int)=>(z6,())) d.2.1->wx (fun(z7:List (Int×Unit))=>false) xs->∃(k:Unit),[]++List.map (fun(z8:Int×Unit)=>z8.1) xs=d.2.1)/\∀(q:List (Int×Unit)) (x:Int×Unit) (rest:List (Int×Unit)),q++x::rest=List.map (fun(h:Int)=>(h,())) d.2.1->wx (fun(c:List (Int×Unit))=>false) q->false=true->∃(k:Unit),[]=d.2.1
theorem jbI:(jyq (ctx 13 [] []) (fun _=>none) (hkC (ctx 13 [] []) (fun _=>none) qc [] []) Tryz.f122 (zZ Tryz.f122) ku jeW)=yd:=by kernel_rfl
def jhr (d:OD kR.ps):List SV:=[.clo 101 [.ep (.slice .int) d.1]]
def gK:Prop:=∀(d:List Int×Unit),d.1.length<=12/\True->(d.1.length<=12/\True)/\∀(r:(List Int×Unit)×Unit),r.1.1=d.1->∃(k:Unit),r.1.1=d.1
theorem jdi:(jyq (ctx 5 [] []) (fun _=>none) (hkC (ctx 5 [] []) (fun _=>none) jDH [4] [(122,20,ku)]) Tryz.f99 (zZ Tryz.f99) kR jhr)=gK:=by kernel_rfl
def jdz (d:OD kc.ps):List SV:=[.clo 101 [.ep (.slice .int) d.1],.fn [.int,.int] [.int] d.2.1.pre d.2.1.F]
def vM:Prop:=∀(d:List Int×FnD [Ty.int,Ty.int] [Ty.int]×Unit),d.1.length<=12/\U.jbw d.2.1.1 d.1/\kZ (U.vW d.2.1.2) d.1/\True->(d.1.length<=12/\True)/\∀(r:(List Int×Unit)×Unit),r.1.1=d.1->r.1.1.length<=12/\U.jbw d.2.1.1 r.1.1/\kZ (U.vW d.2.1.2) r.1.1/\∃(k:Unit),U.jd (U.vW d.2.1.2) r.1.1=U.jd (U.vW d.2.1.2) d.1
theorem jaN:(jyq (ctx 12 [] [(100,zX)]) (fun _=>none) (hkC (ctx 12 [] [(100,zX)]) (fun _=>none) jDH [7] [(99,20,kR)]) Tryz.f69 (zZ Tryz.f69) kc jdz)=vM:=by kernel_rfl
end Go.X
namespace Go.X
open Go.Proofs
theorem jxo {γ:Bool} {l:List Prop} {k:Prop} (h:γ=true->U.jG l) (hk:k):jAE γ l k:=by
 induction l with
 |nil=>exact hk
 |cons p l b=>exact⟨fun a=>(h a).1,b (fun a=>(h a).2)⟩
theorem jGR:∀n:Nat,n<13->qC U.len8tab n=U.jeV (n:Int):=by decide+kernel
theorem jEP (n:Int):0<=U.jeV n/\U.jeV n<=4:=by
 unfold U.jeV
 split
 .omega
 split
 .omega
 split
 .omega
 split<;>omega
theorem jqE:jnh:=by
 unfold jnh q74_4 q74_3 q74_2 q74_1 q74_0;rintro⟨n,⟨⟩⟩ ⟨a,b⟩;have a:0<=n:=a;have b:n<=12:=b;refine⟨fun h=>absurd (of_decide_eq_true h) (by simp only;omega),fun _=>⟨fun h=>absurd (of_decide_eq_true h) (by simp only;omega),fun _=>⟨fun h=>absurd (of_decide_eq_true h) (by simp only;omega),fun _=> ?_⟩⟩⟩;have c:=jGR n.toNat (by omega);rw[Int.toNat_of_nonneg a] at c;have d:=jEP n;simp only;rw[c];refine⟨by omega,by omega,by omega,?_,by unfold jy;omega,by unfold jy;omega,by rw[Int.zero_add]⟩;have:U.len8tab.size=256:=(by decide+kernel);omega
theorem jnZ:zu PR 153 jnx:=jZ jqE Tryz.func153 kcN koN
theorem jwI:jrS:=by
 rintro⟨n,⟨⟩⟩ h;exact⟨fun e=>(by cases e),fun _=>⟨h,rfl⟩⟩
theorem js0:zu PR 118 jsk:=jZ jwI Tryz.func118 (kcC jnZ kcN) koN
theorem vI:q9:=by
 unfold q9 q76_1 q76_0;rintro⟨l,a,b,⟨pre,c⟩,⟨⟩⟩ x y;obtain⟨z,n,E⟩:a=0/\b=(l.length:Int)/\l.length<=12:=x;have s:U.jbw pre l:=y;subst z n;simp only;refine⟨by unfold jy;omega,⟨1,⟨⟨rfl,trivial⟩,rfl,trivial⟩,jG5 _,by omega⟩,fun i hi=>⟨fun h=> ?_,fun h=> ?_⟩⟩
 .have h:i<l.length:=(by have:=of_decide_eq_true h;omega);have u:=IS.part_perm (lt:=U.vW c) (l:=l) i (by omega);refine⟨⟨(i,U.gp (U.vW c) l i),⟨⟨rfl,trivial⟩,rfl,trivial⟩,jH9 _,List.Perm.refl _,rfl⟩,?_⟩;rintro⟨j,m⟩ ⟨v,o,p⟩;have v:(j:Int)<=i:=v;have o:m.Perm (U.gp (U.vW c) l i):=o;have p:U.jdo (U.vW c) m j=U.jdo (U.vW c) (U.gp (U.vW c) l i) i:=p;have C:m.length=l.length:=(o.trans u).length_eq;have g:∀{k:Nat},k<m.length->nth m k∈l:=fun hk=>(o.trans u).mem_iff.1 (L.mem_nth hk)
  simp only[jG7];refine⟨fun _=>by omega,fun f=>by have:=of_decide_eq_true f;omega,fun f=>by have:=of_decide_eq_true f;unfold jy;omega,fun f=>by have:=of_decide_eq_true f;omega,fun f=>by have:=of_decide_eq_true f;omega,jxo (fun f=> ?_) ⟨fun n=> ?_,fun n=> ?_⟩⟩
  .have f:=of_decide_eq_true f;exact s _ (g (by omega)) _ (g (by omega))
  .simp only[jG3,decide_eq_true_eq] at n;obtain⟨D,q⟩:=n;obtain⟨d,rfl⟩:∃d,j=d+1:=⟨j-1,by omega⟩;have r:((d+1:Nat):Int)-1=(d:Int):=(by omega);rw[r] at q⊢;simp only[jG7] at q⊢;have t:=IS.swap_perm (l:=m) (j:=d+1) (k:=d) (by omega) (by omega);have e:jy (d:Int):=(by unfold jy;omega);refine⟨e,e,by omega,by omega,by omega,by omega,by omega,by omega,by omega,by simp;omega,e,⟨(d,U.jvH m (d+1) d),⟨⟨rfl,trivial⟩,rfl,trivial⟩,⟨by simp only;omega,t.trans o,?_⟩,by simp⟩⟩;rw[<-p];show _=(if U.vW c (nth m (d+1)) (nth m d)=true then U.jdo (U.vW c) (U.jvH m (d+1) d) d else m);have w:U.vW c (nth m (d+1)) (nth m d)=true:=decide_eq_true q;rw[if_pos w]
  .have B:m=U.gp (U.vW c) l (i+1):=by
    rw[IS.part_succ,<-p];cases j with
    |zero=>rfl
    |succ d=>
     unfold U.jdo;rw[if_neg];intro A;refine absurd n (by
      rw[Bool.and_eq_false_iff];rintro(h|h)
      .exact absurd (of_decide_eq_false h) (by simp)
      .refine of_decide_eq_false h ?_;have r:((d+1:Nat):Int)-1=(d:Int):=(by omega);rw[r];exact of_decide_eq_true A)
   exact⟨by unfold jy;omega,i+1,⟨⟨by simp,trivial⟩,B,trivial⟩,by omega,by omega⟩
 .have h:l.length<=i:=(by have:=of_decide_eq_false h;omega);exact⟨trivial,by rw[IS.part_isort hi.1 hi.2 h]⟩
theorem vn:qa PR 163 vd:=jdH vB vI Tryz.func163 kcN koN
theorem ja8:gG:=by
 rintro⟨l,a,b,lim,⟨pre,c⟩,⟨⟩⟩ e d;obtain⟨f,g,i⟩:a=0/\b=(l.length:Int)/\l.length<=12:=e;subst f g;refine⟨by unfold jy;simp only;omega,fun _=>⟨⟨rfl,rfl,by simp only;omega⟩,d,rfl,rfl⟩,fun h=>absurd (of_decide_eq_false h) (by simp only;omega)⟩
theorem gZ:qa PR 123 gP:=jdH jaC ja8 Tryz.func123 kcN (koC vn koN)
theorem jhb:jfb:=by
 rintro⟨l,⟨pre,c⟩,⟨⟩⟩ a b d _;have a:l.length<=12:=a;exact⟨by simp only;omega,by simp only;omega,⟨by simp only;omega,by simp only;omega⟩,⟨rfl,rfl,a⟩,b,rfl,congrArg (·,()) (IS.isort_sort d)⟩
theorem jfI:qa PR 100 zX:=jka jhb Tryz.func100 (kcC js0 kcN) (koC gZ koN)
theorem jCH {l:List Int} {i:Nat} (h:i<l.length):asI (l.take (i+1))=asI (l.take i)++[(nth l i,())]:=by
 unfold asI;rw[L.take_succ h,jHR];rfl
theorem jha:yS:=by
 unfold yS q79_0;rintro⟨l,⟨⟩⟩ y b;have b:l.length<4611686018427387904:=b;refine⟨⟨0,⟨⟨rfl,trivial⟩,trivial⟩,rfl,jHd _⟩,fun x c=>⟨fun h=> ?_,fun h _=> ?_⟩⟩
 .have h:(x:Int)<(l.length:Int):=of_decide_eq_true h;have a:x<l.length:=(by omega);have e:=jCH a;unfold asI at e;simp only[jG7];refine⟨by omega,h,trivial,⟨asI (l.drop (x+1)),?_⟩,⟨fun h=>(by cases h),fun _=>⟨L.in64 (by omega) (by omega),x+1,⟨⟨by simp,trivial⟩,trivial⟩,?_,by show x+1<=l.length;omega,by show l.length-(x+1)<l.length-x;omega⟩⟩,fun _ h=>(by cases h),fun h=>(by cases h)⟩
  .rw[<-e];unfold asI;rw[<-jHR,jIp]
  .rw[e]
 .have h:¬(x:Int)<(l.length:Int):=of_decide_eq_false h;have c:x<=l.length:=c;rw[jHU (by show l.length<=x;omega)]
theorem jvY {H:Imm} {lb:Array Value} {d:PD [.ref (.slice .int)]} (e:pvs PR H [.ref (.slice .int)] lb.toList d):jCP PR H [.int] (LVi d) (.func (.func 101) #[] lb):=
 jC3 (C:=ctx 16 [] []) (jkZ trivial trivial) mixed Tryz.func101 (by kernel_rfl) (by kernel_rfl) (by kernel_rfl) (by kernel_rfl) (by decide) (jbW.mpr jha) (fun d l B0 R f a b c=>jFs a c) e trivial
theorem jkw:jbp:=by intro d;rfl
theorem jio:jrr PR 70 z6:=jFu (jdZ.mpr jkw) Tryz.func70 (by kernel_rfl) (by kernel_rfl) (by kernel_rfl) (by kernel_rfl) trivial trivial
theorem jES (l:List Int):(asI l).map (fun(x:Int×Unit)=>x.1)=l:=by
 unfold asI;rw[List.map_map];exact List.map_id l
theorem jf8:yd:=by
 intro d ⟨a,_⟩;refine⟨trivial,trivial,rfl,fun q x rest h _=>⟨?_,rfl,?_⟩,fun xs h _=>⟨(),?_⟩,fun _ _ _ _ _ h=>(by cases h)⟩
 .have b:=congrArg List.length h;simp only[jH6,jHo,jHD] at b;have a:d.2.1.length<=12:=a;simp only[jHz,jH6,jHD,jHJ];omega
 .simp
 .rw[h,jHz];exact jES d.2.1
theorem jiv:gK:=fun d a=>⟨a,fun r h=>⟨(),h⟩⟩
theorem jeF:vM:=fun d ⟨a,b,c,_⟩=>⟨⟨a,trivial⟩,fun r h=>by rw[h];exact⟨a,b,c,(),rfl⟩⟩
theorem ju5 {P:Program} {ρ:Env} {H:Imm} (b:ρ.H=H) {g:Nat} {t:Ty} {d:t.Data} {lb:Array Value} {w:World} {bs:List Nat} (a:jaG P H w [.ref t] lb.toList (d,()) bs):SV.den P ρ (.clo g [.ep t d]) (.func (.func g) #[] lb):=by
 subst b
 match e:lb.toList,a with
 |[],a=>exact a.elim
 |[x],⟨_,_,_,⟨c,_⟩,_⟩=>
  simp only[SV.den,SV.denL];exact⟨lb,rfl,x,[],e,c,rfl⟩
 |x::y::r,⟨_,_,_,_,h2⟩=>cases h2.1
theorem jsK {lb:Array Value} (h:lb.size=1):∃x,lb.toList=[x]:=by
 have a:lb.toList.length=1:=(by rw[jHA];exact h);exact List.length_eq_one_iff.1 a
theorem jyL {g n:Nat} {s:je2} (h:ROK PR g s):∀(f:Nat) (p:Nat×je2),jD [(g,n,s)] f=some p->ROK PR f p.2:=by
 intro f p a;simp only[jD] at a
 split at a
 .rename_i b;have:=jG0 b;subst this;simp at a;subst a;exact h
 .cases a
theorem jCA (n:Nat):(ctx n [] []).ok PR:=jkZ trivial trivial
theorem jdr:ROK PR 122 ku:=by
 refine jyp (body:=zZ Tryz.f122) (C:=ctx 13 [] []) (hk:=hkC (ctx 13 [] []) (fun _=>none) qc [] []) (jCA 13) mixed Tryz.func122 (by kernel_rfl) (by kernel_rfl) (by kernel_rfl) (fun B=>jmJ (jCA 13) mixed ?_ jD8 B) rfl (fun H w vals fl d bs c b ρ f=> ?_) (fun d=>rfl) (jbI.mpr jf8)
 .intro k t rs sv A L v ρ hk a p g;unfold qc at hk
  split at hk
  case h_2=>cases hk
  simp only[Option.some.injEq] at hk;cases hk;simp only[ym] at a
  split at a
  case h_2=>cases a
  rename_i t m
  split at a
  case h_2=>cases a
  rename_i z o;simp only[Option.some.injEq,Prod.mk.injEq] at a;obtain⟨rfl,rfl⟩:=a;obtain⟨e,rfl⟩:=jm o;subst e;simp only[SV.den,SV.denL] at g;obtain⟨lb,rfl,x,r,n,j,l⟩:=g;exact jvY (d:=(m,())) (by rw[n,l];exact⟨j,rfl⟩)
 .obtain⟨v,q,h,rfl,rfl,lb,s,i,rfl,rfl,_,rfl,rfl⟩:=c;obtain⟨u,y,_,⟨rfl,_⟩,b⟩:=b;rw[jHw] at b;refine⟨_,_,rfl,rfl,_,_,rfl,ju5 f b,rfl⟩
theorem jfC:ROK PR 99 kR:=by
 refine jyp (body:=zZ Tryz.f99) (C:=ctx 5 [] []) (hk:=hkC (ctx 5 [] []) (fun _=>none) jDH [4] [(122,20,ku)]) (jCA 5) mixed Tryz.func99 (by kernel_rfl) (by kernel_rfl) (by kernel_rfl) (fun B=>jmJ (jCA 5) mixed jrY (jyL jdr) B) rfl (fun H w vals fl d bs a c ρ b=> ?_) (fun d=>rfl) (jdi.mpr jiv);obtain⟨lb,f,e,rfl,rfl,_,rfl,rfl⟩:=a;rw[jHw] at c;exact⟨_,_,rfl,ju5 b c,rfl⟩
theorem jmU:(ctx 12 [] [(100,zX)]).ok PR:=jkZ trivial ⟨jfI,trivial⟩
theorem jcc:ROK PR 69 kc:=by
 refine jyp (body:=zZ Tryz.f69) (C:=ctx 12 [] [(100,zX)]) (hk:=hkC (ctx 12 [] [(100,zX)]) (fun _=>none) jDH [7] [(99,20,kR)]) jmU mixed Tryz.func69 (by kernel_rfl) (by kernel_rfl) (by kernel_rfl)
  (fun B=>jmJ jmU mixed jrY (jyL jfC) B) rfl (fun H w vals fl d bs a e ρ c=> ?_) (fun d=>rfl) (jaN.mpr jeF)
 obtain⟨lb,k,g,rfl,rfl,b,v,l,h,rfl,rfl,rfl,rfl⟩:=a;obtain⟨x,f⟩:=jsK b;rw[f] at e;obtain⟨m,n,_,⟨i,_⟩,c1,c2,_,⟨j,_⟩,_⟩:=e;subst c;refine⟨_,_,rfl,⟨lb,rfl,x,[],f,i,rfl⟩,_,_,rfl,j,rfl⟩
end Go.X
namespace Go.X
open Go.Proofs
abbrev tRo:Ty:= .st [tDy,.slice .int,.slice (.slice .int),.slice .int]
abbrev RoD:Type:=DyD×List Int×List (List Int)×List Int×Unit
namespace U
def ro (o:Option RoD):RoD:=jR (Ty.dflt tRo) o
def rd (r:RoD):DyD:=r.1
def jak (r:RoD):List Int:=r.2.1
def jY (r:RoD):List (List Int):=r.2.2.1
def jGc (r:RoD):List Int:=r.2.2.2.1
def kz (d:DyD) (b:Int):Prop:=0<=b/\b<((jq d).length:Int)
def jfQ (d:DyD) (l:List Int):Prop:=l.length<=12/\∀b∈l,kz d b
def jgD (d:DyD):Prop:=jl (jb d)=true/\jwq d=true/\zL d=true
def jag (r:RoD):Prop:=jgD (rd r)/\(jak r).length=(jq (rd r)).length
def jn0 (d:DyD) (p:Int):Prop:=0<=p/\p<((je (jb d)).length:Int)
def jgp (d:DyD) (a b:Int):Int:=wW [jaB (jbg (bk d a)) (jbg (bk d b)),jaB a b]
def jr (d:DyD) (l:List Int):List Int:=jd (qm d) l
def kw (d:DyD) (s:List Int) (n:Nat):Int:=jn8 d (s.take n)
def jn1 (d:DyD) (kE:List Int) (p:Int) (s:List Int) (i:Nat):Bool:= !(decide (qH (nth kE (nth s i).toNat/2^p.toNat) 1=0)||(s.drop (i+1)).any (fun c=>decide (vb d (nth s i) c<0)))
def jEL (d:DyD) (kE:List Int) (p:Int) (s:List Int):Bool:=(List.range s.length).all (jn1 d kE p s)&&decide (jn8 d s<=jxv d)
def joI (d:DyD) (kE:List Int) (p:Int) (l:List Int):Bool:=jEL d kE p (jr d l)
def gE (r:RoD) (p:Int) (l:List Int):Bool:=joI (rd r) (jak r) p l
def qO (on:List (List Int)) (b:Int) (n:Nat):Int:=(List.range n).foldl (fun s p=>if(nth on p).any (fun x=>decide (x=b))=true then bor s (1*2^p) else s) 0
def jA (on:List (List Int)) (b:Int):Int:=qO on b on.length
def jat (d:DyD) (b t:Int):Bool:=(decide (va (jb d) (yJ (bk d b)) t=0)&&decide (jE8 (jb d) (yJ (bk d b)) t=0))&&decide (t≠0)
def vT (l:List PeD) (t:Int) (n:Nat):Int:=(List.range n).foldl (fun s i=>s+qH (t/2^i) 1*fe (nth l i)) 0
def wb (d:DyD) (t:Int):Int:=vT (je (jb d)) t (je (jb d)).length
def jkI (r:RoD) (b:Int) (p:Nat):Bool:= !((nth (jY r) p).any (fun x=>decide (x=b)))&&gE r (p:Int) (nth (jY r) p++[b])
def kx (r:RoD) (b:Int) (n:Nat):List Int:=((List.range n).filter (jkI r b)).map (fun(p:Nat)=>(p:Int))
def jp (r:RoD) (b:Int):List Int:=kx r b (jY r).length
def js1 (r:RoD):Prop:=(jY r).length=(je (jb (rd r))).length/\∀l∈jY r,l.length<=11/\∀b∈l,kz (rd r) b
end U
def jgM:j7:=⟨[.val (.ptr tRo),.val .int,.val .int],[.int],false,fun d=>[d.1.isSome=true,U.jgD (U.rd (U.ro d.1)),U.kz (U.rd (U.ro d.1)) d.2.1,U.kz (U.rd (U.ro d.1)) d.2.2.1],fun d=>(U.vb (U.rd (U.ro d.1)) d.2.1 d.2.2.1,())⟩
abbrev q84_0 (d:Option RoD×Int×Int×Unit):=(jR ((((0:Int),[],[],()),[],[],(0:Int),(0:Int),[],()),[],[],[],()) d.1)
abbrev q84_1 (d:Option RoD×Int×Int×Unit):=(nth (q84_0 d).1.2.2.1 d.2.1.toNat)
abbrev q84_2 (d:Option RoD×Int×Int×Unit):=(nth (q84_0 d).1.2.2.1 d.2.2.1.toNat)
def jgI:Prop:=∀(d:Option RoD×Int×Int×Unit),d.1.isSome=true->U.jgD (U.rd (U.ro d.1))->U.kz (U.rd (U.ro d.1)) d.2.1->U.kz (U.rd (U.ro d.1)) d.2.2.1->d.1.isSome=true/\0<=d.2.1/\d.2.1<(↑(q84_0 d).1.2.2.1.length:Int)/\d.1.isSome=true/\0<=d.2.2.1/\d.2.2.1<(↑(q84_0 d).1.2.2.1.length:Int)/\jy ((q84_2 d).2.2.1-(q84_1 d).2.2.2.1)/\d.1.isSome=true/\jy ((q84_2 d).2.2.1-(q84_1 d).2.2.2.1-(q84_0 d).1.2.2.2.1)/\d.1.isSome=true/\(0:Int)<=(q84_1 d).2.1/\(q84_1 d).2.1<(↑(q84_0 d).1.2.1.length:Int)/\(0:Int)<=(q84_2 d).2.1/\(q84_2 d).2.1<(↑(nth (q84_0 d).1.2.1 (q84_1 d).2.1.toNat).length:Int)/\jy ((q84_2 d).2.2.1-(q84_1 d).2.2.2.1-(q84_0 d).1.2.2.2.1-(nth (nth (q84_0 d).1.2.1 (q84_1 d).2.1.toNat) (q84_2 d).2.1.toNat).2.1)/\((q84_2 d).2.2.1-(q84_1 d).2.2.2.1-(q84_0 d).1.2.2.2.1-(nth (nth (q84_0 d).1.2.1 (q84_1 d).2.1.toNat) (q84_2 d).2.1.toNat).2.1,())=(U.vb (U.rd (U.ro d.1)) d.2.1 d.2.2.1,())
def zH:j7:=⟨[.val .int,.val .int,.ref (.ptr tRo)],[.int],false,fun d=>[d.2.2.1.isSome=true,U.kz (U.rd (U.ro d.2.2.1)) d.1,U.kz (U.rd (U.ro d.2.2.1)) d.2.1],fun d=>(U.jgp (U.rd (U.ro d.2.2.1)) d.1 d.2.1,())⟩
abbrev q85_0 (d:Int×Int×Option RoD×Unit):=(jR ((((0:Int),[],[],()),[],[],(0:Int),(0:Int),[],()),[],[],[],()) d.2.2.1)
def jdj:Prop:=∀(d:Int×Int×Option RoD×Unit),d.2.2.1.isSome=true->U.kz (U.rd (U.ro d.2.2.1)) d.1->U.kz (U.rd (U.ro d.2.2.1)) d.2.1->d.2.2.1.isSome=true/\0<=d.1/\d.1<(↑(q85_0 d).1.2.2.1.length:Int)/\d.2.2.1.isSome=true/\0<=d.2.1/\d.2.1<(↑(q85_0 d).1.2.2.1.length:Int)/\(U.wW [U.jaB (nth (q85_0 d).1.2.2.1 d.1.toNat).2.2.1 (nth (q85_0 d).1.2.2.1 d.2.1.toNat).2.2.1,U.jaB d.1 d.2.1],())=(U.jgp (U.rd (U.ro d.2.2.1)) d.1 d.2.1,())
def yW:j7:=⟨[.val (.ptr tRo),.val (.slice .int)],[.slice .int],false,fun d=>[d.1.isSome=true,U.jfQ (U.rd (U.ro d.1)) d.2.1],fun d=>(U.jr (U.rd (U.ro d.1)) d.2.1,())⟩
def yT:Prop:=∀(d:Option RoD×List Int×Unit),d.1.isSome=true->U.jfQ (U.rd (U.ro d.1)) d.2.1->(d.2.1.length<=12/\U.jbw (fun(a:Int×Int×Unit)=>[d.1.isSome=true,U.kz (U.rd (U.ro d.1)) a.1,U.kz (U.rd (U.ro d.1)) a.2.1]) d.2.1/\kZ (U.vW fun(b:Int×Int×Unit)=>(U.jgp (U.rd (U.ro d.1)) b.1 b.2.1,())) d.2.1/\True)/\∀(r:(List Int×Unit)×Unit),r.1.1=U.jd (U.vW fun(c:Int×Int×Unit)=>(U.jgp (U.rd (U.ro d.1)) c.1 c.2.1,())) d.2.1->r.1=(U.jr (U.rd (U.ro d.1)) d.2.1,())
theorem jbZ:(jDT (jry 9 [(71,zH)] [] [(70,z6)] []) (fun _=>none) (hkC (jry 9 [(71,zH)] [] [(70,z6)] []) (fun _=>none) jDH [8] [(69,20,kc)]) Tryz.f38 (zZ Tryz.f38) yW)=yT:=by kernel_rfl
def jgN:j7:=⟨[.val .int,.ref (.ptr tRo),.ref .int],[.bool],false,fun d=>[d.2.1.isSome=true,U.jgD (U.rd (U.ro d.2.1)),U.kz (U.rd (U.ro d.2.1)) d.1,U.kz (U.rd (U.ro d.2.1)) d.2.2.1],fun d=>(decide (U.vb (U.rd (U.ro d.2.1)) d.2.2.1 d.1<0),())⟩
def jgJ:Prop:=∀(d:Int×Option RoD×Int×Unit),d.2.1.isSome=true->U.jgD (U.rd (U.ro d.2.1))->U.kz (U.rd (U.ro d.2.1)) d.1->U.kz (U.rd (U.ro d.2.1)) d.2.2.1->d.2.1.isSome=true/\U.jgD (U.rd (U.ro d.2.1))/\U.kz (U.rd (U.ro d.2.1)) d.2.2.1/\U.kz (U.rd (U.ro d.2.1)) d.1/\(decide (U.vb (U.rd (U.ro d.2.1)) d.2.2.1 d.1<0),())=(decide (U.vb (U.rd (U.ro d.2.1)) d.2.2.1 d.1<0),())
def jb7:j7:=⟨[.val (.ptr tRo),.val .int,.val (.slice .int)],[.bool],false,fun d=>[d.1.isSome=true,U.jag (U.ro d.1),U.jn0 (U.rd (U.ro d.1)) d.2.1,U.jfQ (U.rd (U.ro d.1)) d.2.2.1],fun d=>(U.gE (U.ro d.1) d.2.1 d.2.2.1,())⟩
def jlf:Ann:=fun r=>match r with
 |4=>some fun σ=>{X:=Nat,sl:=fun i=>[(16,.dat .int (i:Int)),(7,.dat .int (U.kw (U.rd (U.ro (gd (.ptr tRo) σ 0))) (gd (.slice .int) σ 14) i))],ob:=fun _=>[],inv:=fun i=>i<=(gd (.slice .int) σ 14).length/\∀b:Nat,b<i->U.jn1 (U.rd (U.ro (gd (.ptr tRo) σ 0))) (U.jak (U.ro (gd (.ptr tRo) σ 0))) (gd .int σ 1) (gd (.slice .int) σ 14) b=true,mu:=fun i=>(gd (.slice .int) σ 14).length-i}
 |_=>none
abbrev q88_0 (d:Option RoD×Int×List Int×Unit):=(jR ((((0:Int),[],[],()),[],[],(0:Int),(0:Int),[],()),[],[],[],()) d.1)
abbrev q88_5 (d:Option RoD×Int×List Int×Unit):=(U.rd (U.ro d.1))
abbrev q88_1 (d:Option RoD×Int×List Int×Unit):=(U.jr (q88_5 d) d.2.2.1)
abbrev q88_4 (d:Option RoD×Int×List Int×Unit):=(↑(q88_1 d).length:Int)
abbrev q88_6 (d:Option RoD×Int×List Int×Unit)(x:Nat):=(nth (q88_1 d) (x:Int).toNat)
abbrev q88_2 (d:Option RoD×Int×List Int×Unit)(x:Nat):=(qH (nth (q88_0 d).2.1 (q88_6 d x).toNat/(2:Int)^d.2.1.toNat) (1:Int)=0)
abbrev q88_3 (d:Option RoD×Int×List Int×Unit)(x:Nat):=((nth (q88_0 d).1.2.2.1 (q88_6 d x).toNat).2.2.2.1-(nth (q88_0 d).1.2.2.1 (q88_6 d x).toNat).2.2.1)
abbrev q88_7 (d:Option RoD×Int×List Int×Unit)(x:Nat):=(List.take ((q88_4 d).toNat-((x:Int)+1).toNat) (List.drop ((x:Int)+1).toNat (q88_1 d)))
def jjc:Prop:=∀(d:Option RoD×Int×List Int×Unit),d.1.isSome=true->U.jag (U.ro d.1)->U.jn0 (q88_5 d) d.2.1->U.jfQ (q88_5 d) d.2.2.1->d.1.isSome=true/\U.jfQ (q88_5 d) d.2.2.1/\((q88_1 d).length<4611686018427387904->(∃(x:Nat),((0=(x:Int)/\0=U.kw (q88_5 d) (q88_1 d) x/\True)/\True)/\x<=(q88_1 d).length/\∀(b:Nat),b<x->U.jn1 (q88_5 d) (U.jak (U.ro d.1)) d.2.1 (q88_1 d) b=true)/\∀(x:Nat),(x<=(q88_1 d).length/\∀(b:Nat),b<x->U.jn1 (q88_5 d) (U.jak (U.ro d.1)) d.2.1 (q88_1 d) b=true)->(decide ((x:Int)<(q88_4 d))=true->0<=(x:Int)/\(x:Int)<(q88_4 d)/\d.1.isSome=true/\0<=nth (q88_1 d) (x:Int).toNat/\nth (q88_1 d) (x:Int).toNat<(↑(q88_0 d).1.2.2.1.length:Int)/\d.1.isSome=true/\0<=nth (q88_1 d) (x:Int).toNat/\nth (q88_1 d) (x:Int).toNat<(↑(q88_0 d).1.2.2.1.length:Int)/\jy (q88_3 d x)/\jy (U.kw (q88_5 d) (q88_1 d) x+(q88_3 d x))/\d.1.isSome=true/\0<=nth (q88_1 d) (x:Int).toNat/\nth (q88_1 d) (x:Int).toNat<(↑(q88_0 d).2.1.length:Int)/\0<=d.2.1/\d.2.1<=64/\((!decide (q88_2 d x))=true->jy ((x:Int)+1))/\((!decide (q88_2 d x))=true->0<=(x:Int)+1)/\((!decide (q88_2 d x))=true->(x:Int)+1<=(q88_4 d))/\((!decide (q88_2 d x))=true->(q88_4 d)<=(q88_4 d))/\((!decide (q88_2 d x))=true->∀(g:Int),g∈List.take ((q88_4 d).toNat-((x:Int)+1).toNat) (List.drop ((x:Int)+1).toNat (q88_1 d))->U.jG [d.1.isSome=true,U.jgD (q88_5 d),U.kz (q88_5 d) g,U.kz (q88_5 d) (q88_6 d x)])/\((decide (q88_2 d x)||(q88_7 d x).any (U.jc fun(c:Int×Unit)=>(decide (U.vb (q88_5 d) (q88_6 d x) c.1<0),())))=true->(false,())=(U.gE (U.ro d.1) d.2.1 d.2.2.1,()))/\((decide (q88_2 d x)||(q88_7 d x).any (U.jc fun(e:Int×Unit)=>(decide (U.vb (q88_5 d) (q88_6 d x) e.1<0),())))=false->jy ((x:Int)+1)/\∃(a:Nat),(((x:Int)+1=(a:Int)/\U.kw (q88_5 d) (q88_1 d) x+(q88_3 d x)=U.kw (q88_5 d) (q88_1 d) a/\True)/\True)/\(a<=(q88_1 d).length/\∀(b:Nat),b<a->U.jn1 (q88_5 d) (U.jak (U.ro d.1)) d.2.1 (q88_1 d) b=true)/\(q88_1 d).length-a<(q88_1 d).length-x))/\(decide ((x:Int)<(q88_4 d))=false->d.1.isSome=true/\(decide (U.kw (q88_5 d) (q88_1 d) x<=(q88_0 d).1.2.2.2.2.1),())=(U.gE (U.ro d.1) d.2.1 d.2.2.1,())))
def jia:j7:=⟨[.val (.ptr tRo),.val .int],[.int],false,fun d=>[d.1.isSome=true,(U.jY (U.ro d.1)).length<=60],fun d=>(U.jA (U.jY (U.ro d.1)) d.2.1,())⟩
def jiF:Ann:=fun r=>match r with
 |2=>some fun σ=>{X:=Nat,sl:=fun i=>[(12,.dat .int (i:Int)),(4,.dat .int (U.qO (U.jY (U.ro (gd (.ptr tRo) σ 0))) (gd .int σ 1) i))],ob:=fun _=>[],inv:=fun i=>i<=(U.jY (U.ro (gd (.ptr tRo) σ 0))).length,mu:=fun i=>(U.jY (U.ro (gd (.ptr tRo) σ 0))).length-i}
 |_=>none
abbrev q89_0 (d:Option RoD×Int×Unit):=(jR ((((0:Int),[],[],()),[],[],(0:Int),(0:Int),[],()),[],[],[],()) d.1)
abbrev q89_1 (d:Option RoD×Int×Unit):=(U.jY (U.ro d.1))
def jh0:Prop:=∀(d:Option RoD×Int×Unit),d.1.isSome=true->(q89_1 d).length<=60->d.1.isSome=true/\((q89_0 d).2.2.1.length<4611686018427387904->(∃(x:Nat),((0=(x:Int)/\0=U.qO (q89_1 d) d.2.1 x/\True)/\True)/\x<=(q89_1 d).length)/\∀(x:Nat),x<=(q89_1 d).length->(decide ((x:Int)<(↑(q89_0 d).2.2.1.length:Int))=true->0<=(x:Int)/\(x:Int)<(↑(q89_0 d).2.2.1.length:Int)/\(((nth (q89_0 d).2.2.1 (x:Int).toNat).any fun(b:Int)=>decide (b=d.2.1))=true->0<=(x:Int)/\(x:Int)<=64/\jy ((1:Int)*2^(x:Int).toNat)/\jy ((x:Int)+1)/\∃(a:Nat),(((x:Int)+1=(a:Int)/\bor (U.qO (q89_1 d) d.2.1 x) ((1:Int)*2^(x:Int).toNat)=U.qO (q89_1 d) d.2.1 a/\True)/\True)/\a<=(q89_1 d).length/\(q89_1 d).length-a<(q89_1 d).length-x)/\(((nth (q89_0 d).2.2.1 (x:Int).toNat).any fun(c:Int)=>decide (c=d.2.1))=false->jy ((x:Int)+1)/\∃(a:Nat),((U.qO (q89_1 d) d.2.1 x=U.qO (q89_1 d) d.2.1 a/\(x:Int)+1=(a:Int)/\True)/\True)/\a<=(q89_1 d).length/\(q89_1 d).length-a<(q89_1 d).length-x))/\(decide ((x:Int)<(↑(q89_0 d).2.2.1.length:Int))=false->(U.qO (q89_1 d) d.2.1 x,())=(U.jA (q89_1 d) d.2.1,())))
def jic:j7:=⟨[.val (.ptr tRo),.val .int,.val .int],[.bool],false,fun d=>[d.1.isSome=true,U.kz (U.rd (U.ro d.1)) d.2.1],fun d=>(U.jat (U.rd (U.ro d.1)) d.2.1 d.2.2.1,())⟩
abbrev q90_0 (d:Option RoD×Int×Int×Unit):=(jR ((((0:Int),[],[],()),[],[],(0:Int),(0:Int),[],()),[],[],[],()) d.1)
def jh2:Prop:=∀(d:Option RoD×Int×Int×Unit),d.1.isSome=true->U.kz (U.rd (U.ro d.1)) d.2.1->d.1.isSome=true/\d.1.isSome=true/\0<=d.2.1/\d.2.1<(↑(q90_0 d).1.2.2.1.length:Int)/\(decide (U.va (q90_0 d).1.1 (nth (q90_0 d).1.2.2.1 d.2.1.toNat).1 d.2.2.1=0)&&decide (U.jE8 (q90_0 d).1.1 (nth (q90_0 d).1.2.2.1 d.2.1.toNat).1 d.2.2.1=0)&&decide (d.2.2.1≠0),())=(U.jat (U.rd (U.ro d.1)) d.2.1 d.2.2.1,())
def jb6:j7:=⟨[.val (.ptr tRo),.val .int],[.int],false,fun d=>[d.1.isSome=true,U.jl (U.jb (U.rd (U.ro d.1)))=true,0<=d.2.1,d.2.1<=1000000],fun d=>(U.wb (U.rd (U.ro d.1)) d.2.1,())⟩
def jle:Ann:=fun r=>match r with
 |2=>some fun σ=>{X:=Nat,sl:=fun i=>[(14,.dat .int (i:Int)),(4,.dat .int (U.vT (U.je (U.jb (U.rd (U.ro (gd (.ptr tRo) σ 0))))) (gd .int σ 1) i))],ob:=fun _=>[],inv:=fun i=>i<=(U.je (U.jb (U.rd (U.ro (gd (.ptr tRo) σ 0))))).length,mu:=fun i=>(U.je (U.jb (U.rd (U.ro (gd (.ptr tRo) σ 0))))).length-i}
 |_=>none
abbrev q91_0 (d:Option RoD×Int×Unit):=(jR ((((0:Int),[],[],()),[],[],(0:Int),(0:Int),[],()),[],[],[],()) d.1)
abbrev q91_1 (d:Option RoD×Int×Unit):=(U.je (U.jb (U.rd (U.ro d.1))))
def jjb:Prop:=∀(d:Option RoD×Int×Unit),d.1.isSome=true->U.jl (U.jb (U.rd (U.ro d.1)))=true->0<=d.2.1->d.2.1<=1000000->d.1.isSome=true/\((q91_0 d).1.1.2.1.length<4611686018427387904->(∃(x:Nat),((0=(x:Int)/\0=U.vT (q91_1 d) d.2.1 x/\True)/\True)/\x<=(q91_1 d).length)/\∀(x:Nat),x<=(q91_1 d).length->(decide ((x:Int)<(↑(q91_0 d).1.1.2.1.length:Int))=true->0<=(x:Int)/\(x:Int)<(↑(q91_0 d).1.1.2.1.length:Int)/\0<=(x:Int)/\(x:Int)<=64/\jy (qH (d.2.1/(2:Int)^(x:Int).toNat) (1:Int)*(nth (q91_0 d).1.1.2.1 (x:Int).toNat).2.2.2.2.2.1)/\jy (U.vT (q91_1 d) d.2.1 x+qH (d.2.1/(2:Int)^(x:Int).toNat) (1:Int)*(nth (q91_0 d).1.1.2.1 (x:Int).toNat).2.2.2.2.2.1)/\jy ((x:Int)+1)/\∃(a:Nat),(((x:Int)+1=(a:Int)/\U.vT (q91_1 d) d.2.1 x+qH (d.2.1/(2:Int)^(x:Int).toNat) (1:Int)*(nth (q91_0 d).1.1.2.1 (x:Int).toNat).2.2.2.2.2.1=U.vT (q91_1 d) d.2.1 a/\True)/\True)/\a<=(q91_1 d).length/\(q91_1 d).length-a<(q91_1 d).length-x)/\(decide ((x:Int)<(↑(q91_0 d).1.1.2.1.length:Int))=false->(U.vT (q91_1 d) d.2.1 x,())=(U.wb (U.rd (U.ro d.1)) d.2.1,())))
def jjw:zP:=⟨[.val (.slice .int)],[rwI],fun d=>[d.1.length<=100000],fun d=>((d.1,()),())⟩
def jja:Prop:=∀(d:List Int×Unit),d.1.length<=100000->∀(a:Bool),(a=true->d.1=[])->(a=true->([],())=d/\()=())/\(a=false->(0+d.1.length)*8<=140737488355328/\([]++d.1,())=d/\()=())
def jib:j7:=⟨[.val (.ptr tRo),.val .int],[.slice .int],false,fun d=>[d.1.isSome=true,U.jag (U.ro d.1),U.js1 (U.ro d.1),U.kz (U.rd (U.ro d.1)) d.2.1],fun d=>(U.jp (U.ro d.1) d.2.1,())⟩
def jiG:Ann:=fun r=>match r with
 |3=>some fun σ=>{X:=Nat,sl:=fun i=>[(13,.dat .int (i:Int)),(5,.own 5 .int)],ob:=fun i=>[(5,some (.row 3 .int false .yes (U.kx (U.ro (gd (.ptr tRo) σ 0)) (gd .int σ 1) i)))],inv:=fun i=>i<=(U.jY (U.ro (gd (.ptr tRo) σ 0))).length,mu:=fun i=>(U.jY (U.ro (gd (.ptr tRo) σ 0))).length-i}
 |3000005=>some fun _=>{X:=Unit,sl:=fun _=>[],ob:=fun _=>[],inv:=fun _=>True,mu:=fun _=>0}
 |_=>none
abbrev q93_0 (d:Option RoD×Int×Unit):=(jR ((((0:Int),[],[],()),[],[],(0:Int),(0:Int),[],()),[],[],[],()) d.1)
abbrev q93_1 (d:Option RoD×Int×Unit)(x:Nat):=(nth (q93_0 d).2.2.1 (x:Int).toNat)
abbrev q93_2 (d:Option RoD×Int×Unit):=(U.jY (U.ro d.1))
abbrev q93_3 (x:Nat)(a:Nat)(d:Option RoD×Int×Unit):=(((x:Int)+1=(a:Int)/\True/\True)/\U.kx (U.ro d.1) d.2.1 x++[(x:Int)]=U.kx (U.ro d.1) d.2.1 a/\True)
abbrev q93_4 (x:Nat)(a:Nat)(d:Option RoD×Int×Unit):=((True/\(x:Int)+1=(a:Int)/\True)/\U.kx (U.ro d.1) d.2.1 x=U.kx (U.ro d.1) d.2.1 a/\True)
abbrev q93_5 (d:Option RoD×Int×Unit)(x:Nat):=(nth (q93_0 d).2.2.1 (x:Int).toNat++[d.2.1])
def jh1:Prop:=∀(d:Option RoD×Int×Unit),d.1.isSome=true->U.jag (U.ro d.1)->U.js1 (U.ro d.1)->U.kz (U.rd (U.ro d.1)) d.2.1->d.1.isSome=true/\((q93_0 d).2.2.1.length<4611686018427387904->(∃(x:Nat),((0=(x:Int)/\True/\True)/\U.kx (U.ro d.1) d.2.1 x=[]/\True)/\x<=(q93_2 d).length)/\∀(x:Nat),x<=(q93_2 d).length->(decide ((x:Int)<(↑(q93_0 d).2.2.1.length:Int))=true->0<=(x:Int)/\(x:Int)<(↑(q93_0 d).2.2.1.length:Int)/\((!(q93_1 d x).any fun(k:Int)=>decide (k=d.2.1))=true->(!(q93_1 d x).any fun(l:Int)=>decide (l=d.2.1))=true/\(!(q93_1 d x).any fun(m:Int)=>decide (m=d.2.1))=true/\(!(q93_1 d x).any fun(n:Int)=>decide (n=d.2.1))=true/\(q93_1 d x).length<=100000/\(!(q93_1 d x).any fun(o:Int)=>decide (o=d.2.1))=true/\(!(q93_1 d x).any fun(p:Int)=>decide (p=d.2.1))=true/\(!(q93_1 d x).any fun(z6:Int)=>decide (z6=d.2.1))=true/\((q93_1 d x).length+[d.2.1].length)*8<=140737488355328/\(!(q93_1 d x).any fun(z7:Int)=>decide (z7=d.2.1))=true/\d.1.isSome=true/\U.jag (U.ro d.1)/\U.jn0 (U.rd (U.ro d.1)) (x:Int)/\U.jfQ (U.rd (U.ro d.1)) (q93_5 d x)/\(!(q93_1 d x).any fun(z8:Int)=>decide (z8=d.2.1))=true/\(U.gE (U.ro d.1) (x:Int) (q93_5 d x)=true->((U.kx (U.ro d.1) d.2.1 x).length+[(x:Int)].length)*8<=140737488355328/\jy ((x:Int)+1)/\∃(a:Nat),(q93_3 x a d)/\a<=(q93_2 d).length/\(q93_2 d).length-a<(q93_2 d).length-x)/\(U.gE (U.ro d.1) (x:Int) (q93_5 d x)=false->jy ((x:Int)+1)/\∃(a:Nat),(q93_4 x a d)/\a<=(q93_2 d).length/\(q93_2 d).length-a<(q93_2 d).length-x))/\((!(q93_1 d x).any fun(q:Int)=>decide (q=d.2.1))=false->(!(q93_1 d x).any fun(b:Int)=>decide (b=d.2.1))=false/\(!(q93_1 d x).any fun(c:Int)=>decide (c=d.2.1))=false/\(!(q93_1 d x).any fun(e:Int)=>decide (e=d.2.1))=false/\(!(q93_1 d x).any fun(f:Int)=>decide (f=d.2.1))=false/\(!(q93_1 d x).any fun(g:Int)=>decide (g=d.2.1))=false/\(!(q93_1 d x).any fun(h:Int)=>decide (h=d.2.1))=false/\(!(q93_1 d x).any fun(i:Int)=>decide (i=d.2.1))=false/\(!(q93_1 d x).any fun(j:Int)=>decide (j=d.2.1))=false/\(false=true->((U.kx (U.ro d.1) d.2.1 x).length+[(x:Int)].length)*8<=140737488355328/\jy ((x:Int)+1)/\∃(a:Nat),(q93_3 x a d)/\a<=(q93_2 d).length/\(q93_2 d).length-a<(q93_2 d).length-x)/\(false=false->jy ((x:Int)+1)/\∃(a:Nat),(q93_4 x a d)/\a<=(q93_2 d).length/\(q93_2 d).length-a<(q93_2 d).length-x)))/\(decide ((x:Int)<(↑(q93_0 d).2.2.1.length:Int))=false->(U.kx (U.ro d.1) d.2.1 x,())=(U.jp (U.ro d.1) d.2.1,())))
def jee:j7:=⟨[.val (.ptr tRo),.val .int],[.bool],false,fun d=>[d.1.isSome=true,(U.jq (U.rd (U.ro d.1))).length<=4],fun d=>(U.ja d.2.1 0 (((U.jq (U.rd (U.ro d.1))).length:Int)-1),())⟩
abbrev q94_0 (d:Option RoD×Int×Unit):=(jR ((((0:Int),[],[],()),[],[],(0:Int),(0:Int),[],()),[],[],[],()) d.1)
def jd4:Prop:=∀(d:Option RoD×Int×Unit),d.1.isSome=true->(U.jq (U.rd (U.ro d.1))).length<=4->d.1.isSome=true/\((q94_0 d).1.2.2.1.length<4611686018427387904->jy ((↑(q94_0 d).1.2.2.1.length:Int)-1)/\(U.ja d.2.1 (0:Int) ((↑(q94_0 d).1.2.2.1.length:Int)-1),())=(U.ja d.2.1 (0:Int) ((↑(U.jq (U.rd (U.ro d.1))).length:Int)-1),()))
end Go.X
namespace Go.X
open Go.Proofs
theorem za {d:DyD} (h:U.zL d=true):(U.jq d).length<=4/\(1<=(U.jL d).length/\(U.jL d).length<=5)/\(0<=U.jej d/\U.jej d<=300)/\(0<=U.jxv d/\U.jxv d<=1440)/\(U.zc d).length<=30/\
 (∀r∈U.jL d,U.vR (U.jL d).length r=true)/\(∀b∈U.jq d,U.jco (U.jL d).length b=true)/\∀s∈U.zc d,U.jaf (U.jq d).length (U.je (U.jb d)).length s=true:=by
 unfold U.zL at h;simp only[jG3,decide_eq_true_eq,jHE] at h;obtain⟨⟨e,f,g,i,j,k,l,m⟩,n,a,c⟩:=h;exact⟨e,⟨f,g⟩,⟨i,j⟩,⟨k,l⟩,m,n,a,c⟩
theorem jF0 {d:DyD} {b:Int} (h:U.kz d b):U.bk d b∈U.jq d:=by
 unfold U.bk;exact L.mem_nth (by unfold U.kz at h;omega)
theorem vY {d:DyD} (h:U.zL d=true) {b:Int} (a:U.kz d b):(0<=U.jxd (U.bk d b)/\U.jxd (U.bk d b)<((U.jL d).length:Int))/\0<=U.jbg (U.bk d b)/\U.jbg (U.bk d b)<U.jrh (U.bk d b)/\U.jrh (U.bk d b)<=1440:=by
 have:=(za h).2.2.2.2.2.2.1 _ (jF0 a);unfold U.jco at this;have:=of_decide_eq_true this;omega
theorem jfA {d:DyD} (h:U.zL d=true) {i:Nat} (hi:i<(U.jL d).length):(nth (U.jL d) i).length=(U.jL d).length/\∀j,j<(U.jL d).length->0<=U.lo (nth (nth (U.jL d) i) j)/\U.lo (nth (nth (U.jL d) i) j)<=U.hi (nth (nth (U.jL d) i) j)/\U.hi (nth (nth (U.jL d) i) j)<=300:=by
 have:=(za h).2.2.2.2.2.1 _ (L.mem_nth hi);unfold U.vR at this;rw[jG3,decide_eq_true_eq,jHE] at this;refine⟨this.1,fun j b=> ?_⟩;have a:=this.2 _ (L.mem_nth (l:=nth (U.jL d) i) (i:=j) (by omega));unfold U.jfP at a;exact of_decide_eq_true a
theorem jkO {d:DyD} (h:U.zL d=true) {a b:Int} (c:U.kz d a) (e:U.kz d b):0<=U.jtz d a b/\U.jtz d a b<=300:=by
 have f:=(vY h c).1;have g:=(vY h e).1;have:=(jfA h (i:=(U.jxd (U.bk d a)).toNat) (by omega)).2 (U.jxd (U.bk d b)).toNat (by omega);unfold U.jtz;omega
theorem jiy:jgI:=by
 unfold jgI q84_2 q84_1 q84_0;rintro⟨(_|r),a,b,⟨⟩⟩ h c d e
 .cases h
 obtain⟨c1,c2,c⟩:U.jgD (U.rd r):=c;have d:U.kz (U.rd r) a:=d;have e:U.kz (U.rd r) b:=e;have g:=vY c d;have j:=vY c e;have k:=jkO c d e;have l:=(za c).2.2.1;have m:=(jfA c (i:=(U.jxd (U.bk (U.rd r) a)).toNat) (by omega)).1;have f:(0<=a/\a<((U.jq (U.rd r)).length:Int))/\0<=b/\b<((U.jq (U.rd r)).length:Int):=⟨d,e⟩;refine⟨rfl,f.1.1,f.1.2,rfl,f.2.1,f.2.2,?_,rfl,?_,rfl,g.1.1,g.1.2,j.1.1,?_,?_,rfl⟩
 .show jy (U.jbg (U.bk (U.rd r) b)-U.jrh (U.bk (U.rd r) a));exact L.in64 (by omega) (by omega)
 .show jy (U.jbg (U.bk (U.rd r) b)-U.jrh (U.bk (U.rd r) a)-U.jej (U.rd r));exact L.in64 (by omega) (by omega)
 .show U.jxd (U.bk (U.rd r) b)<((nth (U.jL (U.rd r)) (U.jxd (U.bk (U.rd r) a)).toNat).length:Int);omega
 .show jy (U.jbg (U.bk (U.rd r) b)-U.jrh (U.bk (U.rd r) a)-U.jej (U.rd r)-U.jtz (U.rd r) a b);exact L.in64 (by omega) (by omega)
theorem jg0:zu PR 39 jgM:=jZ jiy Tryz.func39 kcN koN
theorem jeH:jdj:=by
 unfold jdj q85_0;rintro⟨a,b,(_|r),⟨⟩⟩ e c d
 .cases e
 have c:U.kz (U.rd r) a:=c;have d:U.kz (U.rd r) b:=d;exact⟨rfl,c.1,c.2,rfl,d.1,d.2,rfl⟩
theorem jdv:zu PR 71 zH:=jZ jeH Tryz.func71 (kcC qq (kcC ja4 kcN)) koN
theorem jEG (d:DyD):jbS (U.jgp d):=by
 have e:U.jgp d=jAY (fun a b=>U.jaB (U.jbg (U.bk d a)) (U.jbg (U.bk d b))) U.jaB:=by
  funext a b;unfold U.jgp;rw[zK,wK];rfl
 rw[e];exact jg6 (jhD jgo (fun a=>U.jbg (U.bk d a))) jgo
theorem jAq {d:DyD} {a b:Int} (h:U.jgp d a b=0):a=b:=by
 unfold U.jgp at h;rw[zK] at h
 split at h
 .contradiction
 .rw[wK] at h;exact vX.1 h
theorem jAr (d:DyD) (a b:Int):decide (U.jgp d a b<0)=U.qm d a b:=by
 unfold U.jgp U.qm;rw[zK,wK];refine decide_eq_decide.2 ?_;by_cases c:U.jbg (U.bk d a)<U.jbg (U.bk d b)
 .have e:U.jaB (U.jbg (U.bk d a)) (U.jbg (U.bk d b))= -1:=(by unfold U.jaB;rw[if_pos c]);rw[e];simp;omega
 .by_cases f:U.jbg (U.bk d b)<U.jbg (U.bk d a)
  .have e:U.jaB (U.jbg (U.bk d a)) (U.jbg (U.bk d b))=1:=(by unfold U.jaB;rw[if_neg c,if_pos f]);rw[e];simp;omega
  .have e:U.jaB (U.jbg (U.bk d a)) (U.jbg (U.bk d b))=0:=(by unfold U.jaB;rw[if_neg c,if_neg f]);rw[e];unfold U.jaB;simp only[ne_eq,not_true_eq_false,if_false]
   split<;>(try split)<;>omega
theorem jGU (d:DyD) (l:List Int):kZ (U.qm d) l:=by
 have:=jnR (t:= .int) (jEG d) (l:=l) (fun _ _ _ _ h=>jAq h);have e:(U.ji .int fun(x:Int×Int×Unit)=>(U.jgp d x.1 x.2.1,()))=U.qm d:=by
  funext a b;exact jAr d a b
 rw[e] at this;exact this
theorem ltK (d:DyD):(U.vW fun(x:Int×Int×Unit)=>(U.jgp d x.1 x.2.1,()))=U.qm d:=by
 funext a b;exact jAr d a b
theorem jhe:yT:=by
 rintro⟨(_|r),l,⟨⟩⟩ c f
 .cases c
 obtain⟨d,b⟩:U.jfQ (U.rd r) l:=f;refine⟨⟨d,fun x g y h=>⟨rfl,b x g,b y h,trivial⟩,?_,trivial⟩,fun q a=> ?_⟩
 .have e:=ltK (U.rd r);show kZ (U.vW fun(x:Int×Int×Unit)=>(U.jgp (U.rd r) x.1 x.2.1,())) l;rw[e];exact jGU _ l
 .have e:=ltK (U.rd r);have a:q.1.1=U.jd (U.vW fun(x:Int×Int×Unit)=>(U.jgp (U.rd r) x.1 x.2.1,())) l:=a;rw[e] at a;obtain⟨⟨q,⟨⟩⟩,⟨⟩⟩:=q;rw[show q=_ from a];rfl
theorem jq4:(jry 9 [(71,zH)] [] [(70,z6)] []).ok PR:=jtM ⟨fun _=>jdv,trivial⟩ trivial ⟨jio,trivial⟩ trivial
theorem jfK:zu PR 38 yW:=
 jFh (body:=zZ Tryz.f38) (C:=jry 9 [(71,zH)] [] [(70,z6)] []) (hk:=hkC (jry 9 [(71,zH)] [] [(70,z6)] []) (fun _=>none) jDH [8] [(69,20,kc)]) jq4 mixed Tryz.func38 (by kernel_rfl) (by kernel_rfl) (by kernel_rfl) (by decide)
  (fun B=>jmJ jq4 mixed jrY (jyL jcc) B) (jbZ.mpr jhe)
theorem jiz:jgJ:=by
 rintro⟨b,(_|r),a,⟨⟩⟩ c f e d
 .cases c
 exact⟨rfl,f,d,e,rfl⟩
theorem jg1:zu PR 105 jgN:=jZ jiz Tryz.func105 (kcC jg0 kcN) koN
theorem jey {d:DyD} {s:List Int} {i:Nat} (h:i<s.length):U.kw d s (i+1)=U.kw d s i+(U.jrh (U.bk d (nth s i))-U.jbg (U.bk d (nth s i))):=by
 unfold U.kw U.jn8;rw[L.take_succ h,jHR,jHk];rfl
theorem js4 {d:DyD} (a:U.zL d=true) {s:List Int} (c:∀b∈s,U.kz d b):∀i,i<=s.length->0<=U.kw d s i/\U.kw d s i<=1440*(i:Int)
 |0,_=>⟨jH9 _,jH9 _⟩
 |i+1,hi=>by
  have f:=js4 a c i (by omega)
  have e:=vY a (c _ (L.mem_nth (l:=s) (i:=i) (by omega)))
  rw[jey (by omega)]
  omega
theorem jsn {d:DyD} {l:List Int} {b:Int}:b∈U.jr d l↔b∈l:=(zB l).mem_iff
theorem jso (d:DyD) (l:List Int):(U.jr d l).length=l.length:=(zB l).length_eq
theorem jlP:jjc:=by
 unfold jjc q88_7 q88_3 q88_2 q88_6 q88_4 q88_1 q88_5 q88_0;rintro⟨(_|r),p,l,⟨⟩⟩ D v q K
 .cases D
 obtain⟨⟨c1,c2,u⟩,v⟩:U.jag r:=v;have q:U.jn0 (U.rd r) p:=q;obtain⟨z,A⟩:U.jfQ (U.rd r) l:=K;have N:=(jv c1).2.2.1;refine⟨rfl,⟨z,A⟩,fun _=> ?_⟩;obtain⟨s,o⟩:∃s,s=U.jr (U.rd r) l:=⟨_,rfl⟩;have O:s.length<=12:=(by rw[o,jso];exact z);have k:∀b∈s,U.kz (U.rd r) b:=fun b d=>A b (by rw[o] at d;exact jsn.1 d)
 have t:U.ro (some r)=r:=rfl;simp only[t,<-o];refine⟨⟨0,⟨⟨rfl,rfl,trivial⟩,trivial⟩,jHd _,fun b d=>by omega⟩,fun x w=>⟨fun h=> ?_,fun h=> ?_⟩⟩
 .have h:(x:Int)<(s.length:Int):=of_decide_eq_true h;have a:x<s.length:=(by omega);have d:=k _ (L.mem_nth a);have H:=vY u d;have M:=js4 u k x (by omega);have C:((x:Int)+1).toNat=x+1:=(by omega);have B:(s.drop (x+1)).take (s.length-(x+1))=s.drop (x+1):=jHU (by rw[jIo];omega);have I:U.jbg (U.bk (U.rd r) (nth s x))=(nth (U.jq (U.rd r)) (nth s x).toNat).2.2.1:=rfl;simp only[jG7,C,B];have n:(nth s x)<((U.jak r).length:Int):=(by rw[v];exact d.2);have m:U.jn1 (U.rd r) (U.jak r) p s x= !(decide (qH (nth (U.jak r) (nth s x).toNat/2^p.toNat) 1=0)||(s.drop (x+1)).any (fun c=>decide (U.vb (U.rd r) (nth s x) c<0))):=rfl;have j:((s.drop (x+1)).any (U.jc fun(y:Int×Unit)=>(decide (U.vb (U.rd r) (nth s x) y.fst<0),())))=(s.drop (x+1)).any (fun c=>decide (U.vb (U.rd r) (nth s x) c<0)):=rfl;unfold U.jn0 at q;refine⟨by omega,h,rfl,d.1,d.2,rfl,d.1,d.2,?_,?_,rfl,d.1,n,q.1,by omega,fun _=>L.in64 (by omega) (by omega),fun _=>by omega,fun _=>by omega,fun _=>by omega,fun _ g J=>⟨rfl,⟨c1,c2,u⟩,k g (jIq J),d,trivial⟩,fun f=> ?_,fun f=>⟨L.in64 (by omega) (by omega),x+1,⟨⟨by simp,(jey a).symm,trivial⟩,trivial⟩,⟨by omega,fun b G=> ?_⟩,by omega⟩⟩
  .show jy (U.jrh (U.bk (U.rd r) (nth s x))-U.jbg (U.bk (U.rd r) (nth s x)));exact L.in64 (by omega) (by omega)
  .show jy (U.kw (U.rd r) s x+(U.jrh (U.bk (U.rd r) (nth s x))-U.jbg (U.bk (U.rd r) (nth s x))));exact L.in64 (by omega) (by omega)
  .have f:(decide (qH (nth (U.jak r) (nth s x).toNat/2^p.toNat) 1=0)||((s.drop (x+1)).any (U.jc fun(y:Int×Unit)=>(decide (U.vb (U.rd r) (nth s x) y.fst<0),()))))=true:=f;have f:U.jn1 (U.rd r) (U.jak r) p s x=false:=(by rw[m,<-j,f];rfl);have:U.gE r p l=false:=by
    unfold U.gE U.joI U.jEL;rw[<-o];have:(List.range s.length).all (U.jn1 (U.rd r) (U.jak r) p s)=false:=by
     rw[jId];exact⟨x,by simpa using a,by rw[f];simp⟩
    rw[this];rfl
   rw[this]
  .by_cases e:b=x
   .subst e;have f:(decide (qH (nth (U.jak r) (nth s b).toNat/2^p.toNat) 1=0)||((s.drop (b+1)).any (U.jc fun(y:Int×Unit)=>(decide (U.vb (U.rd r) (nth s b) y.fst<0),()))))=false:=f;rw[m,<-j,f];rfl
   .exact w.2 b (by omega)
 .have h:¬(x:Int)<(s.length:Int):=of_decide_eq_false h;have a:x=s.length:=(by have:=w.1;omega);refine⟨rfl,?_⟩;have E:(List.range s.length).all (U.jn1 (U.rd r) (U.jak r) p s)=true:=by
   rw[jHE];intro i hi;exact w.2 i (by rw[a];simpa using hi)
  have F:U.kw (U.rd r) s x=U.jn8 (U.rd r) s:=by
   unfold U.kw;rw[a,jHU (jG5 _)]
  rw[F];have:U.gE r p l=decide (U.jn8 (U.rd r) s<=U.jxv (U.rd r)):=by
   unfold U.gE U.joI U.jEL;rw[<-o,E,Bool.true_and]
  rw[this];rfl
theorem yq:zu PR 76 jb7:=wi jlf jlP Tryz.func76 (kcC jfK (kcC jg1 (kcC qK kcN))) koN
theorem jjh (on:List (List Int)) (b:Int) (n:Nat):U.qO on b (n+1)=if(nth on n).any (fun x=>decide (x=b))=true then bor (U.qO on b n) (1*2^n) else U.qO on b n:=by
 unfold U.qO;rw[jHq,jHk];rfl
theorem gw (n:Nat):(1:Int)*2^n=2^n:=Int.one_mul _
theorem jkz:jh0:=by
 unfold jh0 q89_1 q89_0;rintro⟨(_|r),b,⟨⟩⟩ g d
 .cases g
 have d:(U.jY r).length<=60:=d;have c:U.ro (some r)=r:=rfl;refine⟨rfl,fun _=>⟨⟨0,⟨⟨rfl,rfl,trivial⟩,trivial⟩,jHd _⟩,fun x f=>⟨fun h=> ?_,fun h=> ?_⟩⟩⟩
 .have h:(x:Int)<((U.jY r).length:Int):=of_decide_eq_true h;have e:=jjh (U.jY r) b x;have i:BT.Set' ((2:Int)^x):=BT.two_set (by omega);unfold BT.Set' at i;simp only[jG7,c];refine⟨by omega,h,fun a=>⟨by omega,by omega,by rw[gw];exact L.in64 (by omega) (by omega),L.in64 (by omega) (by omega),x+1,⟨⟨by simp,?_,trivial⟩,trivial⟩,by omega,by omega⟩,fun a=>⟨L.in64 (by omega) (by omega),x+1,⟨⟨?_,by simp,trivial⟩,trivial⟩,by omega,by omega⟩⟩
  .rw[e];have a:((nth (U.jY r) x).any fun y=>decide (y=b))=true:=a;rw[if_pos a]
  .rw[e];have a:((nth (U.jY r) x).any fun y=>decide (y=b))=false:=a;rw[if_neg (by rw[a];simp)]
 .have h:¬(x:Int)<((U.jY r).length:Int):=of_decide_eq_false h;have f:x<=(U.jY r).length:=f;rw[show x=(U.jY r).length by omega];rfl
theorem vG:zu PR 35 jia:=wi jiF jkz Tryz.func35 (kcC qp kcN) koN
theorem jkB:jh2:=by
 unfold jh2 q90_0;rintro⟨(_|r),b,t,⟨⟩⟩ c a
 .cases c
 have a:U.kz (U.rd r) b:=a;exact⟨rfl,rfl,a.1,a.2,rfl⟩
theorem vH:zu PR 41 jic:=jZ jkB Tryz.func41 (kcC jsO kcN) koN
theorem jmR (l:List PeD) (t:Int) (n:Nat):U.vT l t (n+1)=U.vT l t n+qH (t/2^n) 1*U.fe (nth l n):=by
 unfold U.vT;rw[jHq,jHk];rfl
theorem jiT {c:CrD} (h:U.jl c=true) {i:Nat} (hi:i<(U.je c).length):0<=U.fe (nth (U.je c) i)/\U.fe (nth (U.je c) i)<=1000:=by
 have:=(jv h).2.2.2.2.1 _ (L.mem_nth hi);unfold U.gy at this;simp only[jG3,decide_eq_true_eq] at this;obtain⟨⟨_,_,_,_,_,_,a,b⟩,_⟩:=this;exact⟨a,b⟩
theorem jAA {z f:Int} (a:0<=f/\f<=1000):0<=qH z 1*f/\qH z 1*f<=1000:=by
 rcases jvd z with h|h
 .rw[h,Int.zero_mul];omega
 .rw[h,Int.one_mul];omega
theorem jox {c:CrD} (h:U.jl c=true) (t:Int):∀i,i<=(U.je c).length->0<=U.vT (U.je c) t i/\U.vT (U.je c) t i<=1000*(i:Int)
 |0,_=>⟨jH9 _,jH9 _⟩
 |i+1,hi=>by
  have a:=jox h t i (by omega)
  have:=jAA (z:=t/2^i) (jiT h (i:=i) (by omega))
  rw[jmR]
  omega
theorem jlO:jjb:=by
 unfold jjb q91_1 q91_0;rintro⟨(_|r),t,⟨⟩⟩ d a f g
 .cases d
 have a:U.jl (U.jb (U.rd r))=true:=a;have l:=(jv a).2.2.1;have b:U.ro (some r)=r:=rfl;refine⟨rfl,fun _=>⟨⟨0,⟨⟨rfl,rfl,trivial⟩,trivial⟩,jHd _⟩,fun x c=>⟨fun h=> ?_,fun h=> ?_⟩⟩⟩
 .have h:(x:Int)<((U.je (U.jb (U.rd r))).length:Int):=of_decide_eq_true h;have e:=jmR (U.je (U.jb (U.rd r))) t x;have j:=jox a t x (by omega);have k:=jAA (z:=t/2^x) (jiT a (i:=x) (by omega));simp only[jG7,b];refine⟨by omega,h,by omega,by omega,L.in64 (by show _<=qH (t/2^x) 1*U.fe (nth (U.je (U.jb (U.rd r))) x);omega) (by show qH (t/2^x) 1*U.fe (nth (U.je (U.jb (U.rd r))) x)<=_;omega),L.in64 (by show _<=U.vT _ t x+qH (t/2^x) 1*U.fe (nth (U.je (U.jb (U.rd r))) x);omega) (by show U.vT _ t x+qH (t/2^x) 1*U.fe (nth (U.je (U.jb (U.rd r))) x)<=_;omega),L.in64 (by omega) (by omega),x+1,⟨⟨by simp,e.symm,trivial⟩,trivial⟩,by omega,by omega⟩
 .have h:¬(x:Int)<((U.je (U.jb (U.rd r))).length:Int):=of_decide_eq_false h;have c:x<=(U.je (U.jb (U.rd r))).length:=c;rw[show x=(U.je (U.jb (U.rd r))).length by omega];rfl
theorem jck:zu PR 49 jb6:=wi jle jlO Tryz.func49 kcN koN
theorem jlN:jja:=by
 rintro⟨l,⟨⟩⟩ b c a;have b:l.length<=100000:=b;refine⟨fun h=>⟨?_,rfl⟩,fun _=>⟨by simp only;omega,by simp,rfl⟩⟩;have:l=[]:=a h;rw[this]
theorem jjY:qa PR 75 jjw:=jka jlN Tryz.func75 kcN koN
theorem jtv (r:RoD) (b:Int) (n:Nat):U.kx r b (n+1)=U.kx r b n++(if U.jkI r b n=true then[(n:Int)] else[]):=by
 unfold U.kx;rw[L.range_filter_succ,jHR];by_cases h:U.jkI r b n=true
 .rw[if_pos h,if_pos h];rfl
 .rw[if_neg h,if_neg h];rfl
theorem jmN (r:RoD) (b:Int) (n:Nat):(U.kx r b n).length<=n:=by
 unfold U.kx;rw[jH6];exact jHi (jH4 _ _) (by simp)
theorem jkA:jh1:=by
 unfold jh1 q93_5 q93_4 q93_3 q93_2 q93_1 q93_0;rintro⟨(_|r),b,⟨⟩⟩ t j u o
 .cases t
 have j:U.jag r:=j;obtain⟨o1,o2⟩:U.js1 r:=u;have o:U.kz (U.rd r) b:=o;have w:=(jv j.1.1).2.2.1;have n:U.ro (some r)=r:=rfl;refine⟨rfl,fun _=>⟨⟨0,⟨⟨rfl,trivial,trivial⟩,rfl,trivial⟩,jHd _⟩,fun x q=>⟨fun h=> ?_,fun h=> ?_⟩⟩⟩
 .have h:(x:Int)<((U.jY r).length:Int):=of_decide_eq_true h;have p:=jtv r b x;have z:=jmN r b x;obtain⟨s,v⟩:=o2 _ (L.mem_nth (l:=U.jY r) (i:=x) (by omega));have s:(nth r.2.2.1 x).length<=11:=s;have on:∀{k:Bool},U.jkI r b x=k->(k=true->U.kx r b x++[(x:Int)]=U.kx r b (x+1))/\(k=false->U.kx r b x=U.kx r b (x+1)):=by
   intro k g;refine⟨fun e=> ?_,fun e=> ?_⟩
   .rw[p,if_pos (g.trans e)]
   .rw[p,if_neg (by rw[g,e];simp),jHw]
  have m:U.jkI r b x=(!((nth r.2.2.1 x).any fun y=>decide (y=b))&&U.gE r (x:Int) (nth r.2.2.1 x++[b])):=rfl;simp only[jG7,n,jR];refine⟨by omega,h,fun a=>⟨a,a,a,by omega,a,a,a,by simp only[jHD,jHJ];omega,a,rfl,j,⟨by omega,by omega⟩,⟨by simp only[jHo,jHD,jHJ];omega,fun c d=> ?_⟩,a,fun f=>⟨by simp only[jHD,jHJ];omega,L.in64 (by omega) (by omega),x+1,⟨⟨by simp,trivial,trivial⟩,?_,trivial⟩,by omega,by omega⟩,fun f=>⟨L.in64 (by omega) (by omega),x+1,⟨⟨trivial,by simp,trivial⟩,?_,trivial⟩,by omega,by omega⟩⟩,
   fun a=>⟨a,a,a,a,a,a,a,a,fun f=>(by cases f),fun _=>⟨L.in64 (by omega) (by omega),x+1,⟨⟨trivial,by simp,trivial⟩,?_,trivial⟩,by omega,by omega⟩⟩⟩
  .rcases jHa.1 d with d|d
   .exact v c d
   .simp at d;subst d;exact o
  .exact(on (by rw[m,a,f];rfl)).1 rfl
  .exact(on (by rw[m,a,f];rfl)).2 rfl
  .exact(on (by rw[m,a];rfl)).2 rfl
 .have h:¬(x:Int)<((U.jY r).length:Int):=of_decide_eq_false h;have q:x<=(U.jY r).length:=q;rw[show x=(U.jY r).length by omega];rfl
theorem jbv:zu PR 47 jib:=wi jiG jkA Tryz.func47 (kcC qp (kcC yq kcN)) (koC jjY koN)
theorem jf9:jd4:=by
 unfold jd4 q94_0;rintro⟨(_|r),b,⟨⟩⟩ a c
 .cases a
 have d:(r.1.2.2.1.length)<=4:=c;exact⟨rfl,fun _=>⟨L.in64 (by simp only[jR];omega) (by simp only[jR];omega),rfl⟩⟩
theorem yr:zu PR 46 jee:=jZ jf9 Tryz.func46 (kcC ja3 kcN) koN
end Go.X
namespace Go.X
theorem jeO {l:List ShD} {s:ShD}:s∈U.zf l↔s∈l:=by
 have e:U.zf l=U.vL (fun a b=>decide (a=b)) (U.jd (U.ji tSh fun x=>(U.y7 x.1 x.2.1,())) l):=by
  unfold U.zf;congr 1
 rw[e,L.comp_mem];exact(zB l).mem_iff
theorem jq0 (l:List ShD):(U.zf l).Nodup:=by
 have e:U.zf l=U.vL (fun a b=>decide (a=b)) (U.jd (U.ji tSh fun x=>(U.y7 x.1 x.2.1,())) l):=by
  unfold U.zf;congr 1
 rw[e];refine L.asc_nodup (lt:=U.ji tSh fun x=>(U.y7 x.1 x.2.1,())) (fun x=> ?_) (L.comp_asc (jBy _) (gO (jBy l)));exact(jBy [x]).irrefl x (jH2.2 rfl)
theorem jDm (l:List ShD):∀i,i<=l.length->∀k,wh 0 (zU .int k (U.wq [] l i))=(((l.take i).countP (fun s=>decide (U.wo s=k)):Nat):Int)
 |0,_,k=>rfl
 |i+1,hi,k=>by
  have a:=jDm l i (by omega)
  rw[jaz (by omega),L.take_succ (by omega),jIw]
  unfold U.jdd
  by_cases e:k=U.wo (nth l i)
  .rw[e]
   rw[M.mfind_mput (kt:= .int) (U.wo (nth l i)) (wh 0 (zU .int (U.wo (nth l i)) (U.wq [] l i))+1) (U.wq [] l i)]
   show wh 0 (zU .int (U.wo (nth l i)) (U.wq [] l i))+1=_
   rw[a]
   simp
  .rw[M.mfind_mput_ne (kt:= .int) (k:=U.wo (nth l i)) (k':=k) e (wh 0 (zU .int (U.wo (nth l i)) (U.wq [] l i))+1) (U.wq [] l i),a]
   have:decide (U.wo (nth l i)=k)=false:=decide_eq_false fun h=>e h.symm
   simp[this]
theorem jvj {l:List ShD} {i:Nat} (h:i<l.length):U.jgy [] l i=(l.take i).any (fun s=>decide (U.wo s=U.wo (nth l i))):=by
 unfold U.jgy U.jvk;rw[<-jaz h,jDm l (i+1) (by omega),L.take_succ h,jIw];rw[jHs,decide_eq_true_eq,jHF];have b:List.countP (fun s=>decide (U.wo s=U.wo (nth l i))) [nth l i]=1:=(by simp);rw[b];constructor
 .intro a;have:0<(l.take i).countP (fun s=>decide (U.wo s=U.wo (nth l i))):=(by omega);rw[List.countP_pos_iff] at this;exact this
 .intro a;have:0<(l.take i).countP (fun s=>decide (U.wo s=U.wo (nth l i))):=List.countP_pos_iff.2 a;omega
theorem jEA (l:List ShD):U.jxx l=false↔(l.map U.wo).Nodup:=by
 have g:U.jxx l=false↔∀i,i<l.length->U.jgy [] l i=false:=by
  unfold U.jxx;constructor
  .intro h i hi;cases k:U.jgy [] l i with
   |false=>rfl
   |true=>
    exfalso;have b:(List.range l.length).findIdx? (U.jgy [] l)≠none:=by
     intro f;rw[List.findIdx?_eq_none_iff] at f;have:=f i (jHj.2 hi);rw[k] at this;cases this
    unfold U.jcN U.jaH at h;cases d:(List.range l.length).findIdx? (U.jgy [] l) with
    |none=>exact b d
    |some j=>
     rw[d] at h;have h:=of_decide_eq_false h;exact h (jHu j)
  .intro h;rw[(jm3 h).1];rfl
 rw[g,List.nodup_iff_pairwise_ne,jIt,jH5];constructor
 .intro h i j hi a m e;have:=h j a;rw[jvj a,jHO] at this;have c:=this (l[i]) (by rw[jHK];exact⟨i,by omega,rfl⟩);rw[L.nth_lt a] at c;simp[e] at c
 .intro h i hi;rw[jvj hi,jHO];intro s b;rw[jHK] at b;obtain⟨j,a,rfl⟩:=b;have:=h j i (by omega) hi (by omega);rw[L.nth_lt hi];simpa using this
theorem jAa (l:List ShD):U.jxx (U.zf l)=false↔∀a∈l,∀b∈l,U.wo a=U.wo b->a=b:=by
 rw[jEA];constructor
 .intro h a c b d e;exact L.nodup_inj h (jeO.2 c) (jeO.2 d) e
 .intro h;rw[List.nodup_iff_pairwise_ne,jIt];exact(List.Pairwise.imp_of_mem (fun{a b} c d f e=>f (h a (jeO.1 c) b (jeO.1 d) e)) (jq0 l))
theorem jra (l:List ShD):U.vU l=false↔∀a∈l,∀b∈l,U.wo a=U.wo b->a=b:=by
 have k:U.vU l=false↔∀i,i<l.length->∀j,j<i->U.jk2 (nth l i) (nth l j)=false:=by
  unfold U.vU U.qv U.jiW;rw[jHO];constructor
  .intro h i hi j d;have:=h i (jHj.2 hi);rw[Bool.not_eq_true,jHO] at this;have:=this (nth l j) (by rw[jHK];exact⟨j,by omega,(L.nth_lt (by omega)).symm⟩);simpa using this
  .intro h i hi;have hi:=jHj.1 hi;rw[Bool.not_eq_true,jHO];intro s g;rw[jHK] at g;obtain⟨j,d,rfl⟩:=g;have:=h i hi j (by omega);rw[L.nth_lt (l:=l) (i:=j) (by omega)] at this;simpa using this
 rw[k];have f:∀a b:ShD,U.jk2 a b=false↔(U.wo a=U.wo b->a=b):=by
  intro a b;unfold U.jk2;rw[Bool.and_eq_false_iff];simp only[decide_eq_false_iff_not,jHT,decide_eq_true_eq];constructor
  .rintro(h|h) e
   .exact absurd e h
   .exact h
  .intro h;by_cases e:U.wo a=U.wo b
   .exact .inr (h e)
   .exact .inl e
 constructor
 .intro h a m b n e;obtain⟨i,hi,rfl⟩:=L.mem_iff.1 m;obtain⟨j,d,rfl⟩:=L.mem_iff.1 n;rcases Nat.lt_trichotomy i j with c|rfl|c
  .exact((f _ _).1 (h j d i c) e.symm).symm
  .rfl
  .exact(f _ _).1 (h i hi j c) e
 .intro h i hi j d;exact(f _ _).2 (h _ (L.mem_nth hi) _ (L.mem_nth (by omega)))
theorem jAb (l:List ShD):U.jxx (U.zf l)=U.vU l:=by
 have:=(jAa l).trans (jra l).symm;cases a:U.jxx (U.zf l) with
 |false=>exact(this.1 a).symm
 |true=>
  cases b:U.vU l with
  |false=>rw[this.2 b] at a;cases a
  |true=>rfl
theorem wC (d:DyD):U.jz d=U.w5 d:=by
 unfold U.jz U.jk4 U.w5;rw[jAb]
 split
 .rfl
 .split
  .rfl
  .rw[if_neg (by simp)]
end Go.X
