/-
  Part 5 of the road: a checked reading of bodies, and what the functions on it do (T L BT BS NL DF RC FX A1 P1 A2 P2 A4 P4 A5 P5 A3 P6 CM MP O1 B1 P7 IS B2 P8 B3 P9 DI B4).
-/
import Derived.Test.YtphbhcmpebmadaaGreatDoorK04
import Derived.Test.YtphbhcmpebmadaaGreatDoorProg
import Derived.KernelRfl
import Derived.Shelf.SlSortCmp.WholeK
import Derived.Shelf.Sort.Plain
namespace Go.X
open Go.Proofs
abbrev bT:=true
abbrev bF:=false
abbrev vO:Value:=.int .i64 0
abbrev qy0:Ty:=.ptr (.uint .u8)
abbrev qy1:Ty:=.st [.int,.int]
abbrev qy2:Ty:=.ptr (.uint .u64)
abbrev qy3:Ty:=.slice (.slice .int)
abbrev qy4:Ty:=.st [.int,.int,.bool]
abbrev qy5:Ty:=.slice qy1
abbrev qy6:Ty:=.slice qy4
abbrev qy7:Ty:=.st [.int,.int,.int,.int,.int]
abbrev qy8:Ty:=.slice qy5
abbrev qy9:Ty:=.st [.int,.int,.bool,.uint .u8]
abbrev qy10:Ty:=.st [.int,.int,.int,.int,.int,.int]
abbrev qy11:Ty:=.slice qy7
abbrev qy12:Ty:=.slice qy10
abbrev qy13:Ty:=.slice qy11
abbrev qy14:Ty:=.st [.slice .int,.int,.int,.slice .int,.bool,.int]
abbrev qy15:Ty:=.map qy1 qy7
abbrev qy16:Ty:=.slice qy14
abbrev qy17:Ty:=.st [qy10,.int,.int,.int]
abbrev qy18:Ty:=.slice qy17
abbrev qy19:Ty:=.st [.int,qy16,qy6]
abbrev qy20:Ty:=.st [qy19,qy10,qy4]
abbrev qy21:Ty:=.ptr qy20
abbrev qy22:Ty:=.st [qy19,qy8,qy18,.int,.int,qy11]
abbrev qy23:Ty:=.slice qy22
abbrev qy24:Ty:=.st [qy22,.slice .int,qy3,.slice .int]
abbrev qy25:Ty:=.ptr qy24
abbrev qy26:Ty:=.st [qy25,qy3,.slice .int,.slice .int,.int,.bool]
abbrev qy27:Ty:=.ptr qy26
def rr (i:Nat)(t:Ty)(n:Nat)(a:Bool)(f:List (Nat×Nat))(s:Bool)(e b:Nat)(z:List Value)(c m:Bool)(k:Nat)(q:Bool):TI:=⟨i,t,n,a,f,s,e,b,z,c,m,k,q,false,false,false⟩
def rf (i:Nat):TI:=⟨i,.unit,1,false,[],false,0,8,[.nilFunc],false,false,0,false,false,false,true⟩
def rq (i:Nat):TI:=⟨i,.unit,1,false,[],false,0,8,[.pointer none],false,false,0,false,false,true,false⟩
def ti:List TI:=[
 rf 1,
 rr 2 .int 1 bF [] bF 0 8 [vO] bF bF 0 bT,
 rr 3 .int 1 bF [] bF 0 8 [vO] bF bF 0 bT,
 rr 4 .bool 1 bF [] bF 0 1 [.bool false] bT bF 0 bF,
 rr 5 (.uint .u8) 1 bF [] bF 0 1 [.int .u8 0] bF bF 0 bF,
 rr 6 (.uint .u8) 1 bF [] bF 0 1 [.int .u8 0] bF bF 0 bF,
 rr 7 qy9 4 bT [(0,2),(1,3),(2,4),(3,6)] bF 0 24 [vO,vO,.bool false,.int .u8 0] bT bF 0 bT,
 rr 8 qy9 4 bT [(0,2),(1,3),(2,4),(3,6)] bF 0 24 [vO,vO,.bool false,.int .u8 0] bT bF 0 bT,
 rr 12 (.uint .u64) 1 bF [] bF 0 8 [.int .u64 0] bF bF 0 bF,
 rq 15,
 rq 16,
 rq 17,
 rr 18 .unit 1 bT [(0,17)] bF 0 8 [.pointer none] bF bF 0 bF,
 rr 19 .unit 1 bT [(0,17)] bF 0 8 [.pointer none] bF bF 0 bF,
 rr 21 (.uint .i32) 1 bF [] bF 0 4 [.int .i32 0] bF bF 0 bF,
 rr 22 qy16 1 bF [] bT 92 24 [.slice none 0 0] bF bF 0 bF,
 rr 23 qy6 1 bF [] bT 116 24 [.slice none 0 0] bF bF 0 bF,
 rr 24 qy19 3 bT [(0,3),(1,22),(2,23)] bF 0 56 [vO,.slice none 0 0,.slice none 0 0] bF bF 0 bF,
 rr 25 qy19 3 bT [(0,3),(1,22),(2,23)] bF 0 56 [vO,.slice none 0 0,.slice none 0 0] bF bF 0 bF,
 rr 26 qy8 1 bF [] bT 37 24 [.slice none 0 0] bF bF 0 bF,
 rr 27 qy18 1 bF [] bT 49 24 [.slice none 0 0] bF bF 0 bF,
 rr 28 qy11 1 bF [] bT 55 24 [.slice none 0 0] bF bF 0 bF,
 rr 29 qy22 8 bT [(0,25),(3,26),(4,27),(5,3),(6,3),(7,28)] bF 0 144 [vO,.slice none 0 0,.slice none 0 0,.slice none 0 0,.slice none 0 0,vO,vO,.slice none 0 0] bF bF 0 bF,
 rr 30 qy22 8 bT [(0,25),(3,26),(4,27),(5,3),(6,3),(7,28)] bF 0 144 [vO,.slice none 0 0,.slice none 0 0,.slice none 0 0,.slice none 0 0,vO,vO,.slice none 0 0] bF bF 0 bF,
 rr 31 qy3 1 bF [] bT 34 24 [.slice none 0 0] bF bF 0 bF,
 rf 32,
 rf 33,
 rr 34 (.slice .int) 1 bF [] bT 3 24 [.slice none 0 0] bF bF 0 bF,
 rr 35 qy1 2 bT [(0,3),(1,3)] bF 0 16 [vO,vO] bT bF 0 bT,
 rr 36 qy1 2 bT [(0,3),(1,3)] bF 0 16 [vO,vO] bT bF 0 bT,
 rr 37 qy5 1 bF [] bT 36 24 [.slice none 0 0] bF bF 0 bF,
 rr 38 .int 1 bF [] bF 0 8 [vO] bF bF 0 bT,
 rf 40,
 rf 42,
 rf 43,
 rf 44,
 rf 45,
 rr 46 qy10 6 bT [(0,3),(1,3),(2,3),(3,3),(4,3),(5,3)] bF 0 48 [vO,vO,vO,vO,vO,vO] bT bF 0 bT,
 rr 47 qy10 6 bT [(0,3),(1,3),(2,3),(3,3),(4,3),(5,3)] bF 0 48 [vO,vO,vO,vO,vO,vO] bT bF 0 bT,
 rr 48 qy17 9 bT [(0,47),(6,3),(7,3),(8,3)] bF 0 72 [vO,vO,vO,vO,vO,vO,vO,vO,vO] bT bF 0 bT,
 rr 49 qy17 9 bT [(0,47),(6,3),(7,3),(8,3)] bF 0 72 [vO,vO,vO,vO,vO,vO,vO,vO,vO] bT bF 0 bT,
 rf 50,
 rf 51,
 rf 52,
 rf 53,
 rr 54 qy7 5 bT [(0,3),(1,3),(2,3),(3,3),(4,3)] bF 0 40 [vO,vO,vO,vO,vO] bT bF 0 bT,
 rr 55 qy7 5 bT [(0,3),(1,3),(2,3),(3,3),(4,3)] bF 0 40 [vO,vO,vO,vO,vO] bT bF 0 bT,
 rf 56,
 rf 57,
 rf 58,
 rf 59,
 rf 60,
 rf 62,
 rf 63,
 rr 64 (.uint .u64) 1 bF [] bF 0 8 [.int .u64 0] bF bF 0 bF,
 rf 65,
 rf 66,
 rf 67,
 rf 68,
 rf 70,
 rf 71,
 rf 72,
 rf 73,
 {rr 74 qy25 1 bF [] bF 0 8 [.pointer none] bF bF 0 bF with pt:=true},
 rf 76,
 rf 77,
 rf 78,
 rf 79,
 rf 80,
 rr 81 qy24 11 bT [(0,30),(8,34),(9,31),(10,34)] bF 0 216 [vO,.slice none 0 0,.slice none 0 0,.slice none 0 0,.slice none 0 0,vO,vO,.slice none 0 0,.slice none 0 0,.slice none 0 0,.slice none 0 0] bF bF 0 bF,
 rr 82 qy24 11 bT [(0,30),(8,34),(9,31),(10,34)] bF 0 216 [vO,.slice none 0 0,.slice none 0 0,.slice none 0 0,.slice none 0 0,vO,vO,.slice none 0 0,.slice none 0 0,.slice none 0 0,.slice none 0 0] bF bF 0 bF,
 rf 83,
 rf 84,
 {rr 85 qy27 1 bF [] bF 0 8 [.pointer none] bF bF 0 bF with pt:=true},
 rr 86 qy26 6 bT [(0,74),(1,31),(2,34),(3,34),(4,3),(5,4)] bF 0 96 [.pointer none,.slice none 0 0,.slice none 0 0,.slice none 0 0,vO,.bool false] bF bF 0 bF,
 rr 87 qy26 6 bT [(0,74),(1,31),(2,34),(3,34),(4,3),(5,4)] bF 0 96 [.pointer none,.slice none 0 0,.slice none 0 0,.slice none 0 0,vO,.bool false] bF bF 0 bF,
 rf 88,
 rf 89,
 rf 90,
 rr 91 qy14 6 bT [(0,34),(1,3),(2,3),(3,34),(4,4),(5,3)] bF 0 80 [.slice none 0 0,vO,vO,.slice none 0 0,.bool false,vO] bF bF 0 bF,
 rr 92 qy14 6 bT [(0,34),(1,3),(2,3),(3,34),(4,4),(5,3)] bF 0 80 [.slice none 0 0,vO,vO,.slice none 0 0,.bool false,vO] bF bF 0 bF,
 rf 93,
 rr 94 qy23 1 bF [] bT 30 24 [.slice none 0 0] bF bF 0 bF,
 rf 95,
 rf 96,
 rf 97,
 rf 98,
 rf 99,
 rf 100,
 rr 101 qy12 1 bF [] bT 47 24 [.slice none 0 0] bF bF 0 bF,
 rf 103,
 rf 104,
 rf 105,
 rf 106,
 rf 107,
 rf 108,
 rf 109,
 rf 110,
 rf 112,
 rf 113,
 rf 114,
 rr 115 qy4 3 bT [(0,3),(1,3),(2,4)] bF 0 24 [vO,vO,.bool false] bT bF 0 bT,
 rr 116 qy4 3 bT [(0,3),(1,3),(2,4)] bF 0 24 [vO,vO,.bool false] bT bF 0 bT,
 rf 117,
 rf 118,
 rf 119,
 rr 120 qy13 1 bF [] bT 28 24 [.slice none 0 0] bF bF 0 bF,
 rf 121,
 rr 122 (.map .int .int) 1 bF [] bF 3 8 [.map none] bF bT 3 bF,
 rf 123,
 rf 124,
 rf 125,
 rf 126,
 rf 127,
 rf 128,
 {rr 129 qy21 1 bF [] bF 0 8 [.pointer none] bF bF 0 bF with pt:=true},
 rf 131,
 rr 132 (.uint .u64) 1 bF [] bF 0 8 [.int .u64 0] bF bF 0 bF,
 rf 133,
 rr 134 qy15 1 bF [] bF 55 8 [.map none] bF bT 136 bF,
 rr 135 qy1 2 bT [(0,3),(1,3)] bF 0 16 [vO,vO] bT bF 0 bT,
 rr 136 qy1 2 bT [(0,3),(1,3)] bF 0 16 [vO,vO] bT bF 0 bT,
 rf 137,
 rf 138,
 rf 139,
 rf 140,
 rf 141,
 rf 142,
 rf 143,
 rf 144,
 rf 145,
 rf 146,
 rf 147,
 rf 148,
 rf 149,
 rf 150,
 rf 151,
 rf 152,
 rf 153,
 rf 154,
 rr 155 qy20 12 bT [(0,25),(3,47),(9,116)] bF 0 128 [vO,.slice none 0 0,.slice none 0 0,vO,vO,vO,vO,vO,vO,vO,vO,.bool false] bF bF 0 bF,
 rr 156 qy20 12 bT [(0,25),(3,47),(9,116)] bF 0 128 [vO,.slice none 0 0,.slice none 0 0,vO,vO,vO,vO,vO,vO,vO,vO,.bool false] bF bF 0 bF,
 rf 157,
 rf 158,
 rf 159,
 rf 160,
 rf 161,
 rf 162,
 rf 163,
 rf 164,
 rf 165,
 rf 166,
 rf 167,
 rf 168,
 rf 169,
 rf 170,
 rr 171 .int 1 bF [] bF 0 8 [vO] bF bF 0 bT,
 rf 173,
 rf 174,
 rf 175,
 rf 177,
 rf 178,
 rr 179 (.uint .u32) 1 bF [] bF 0 4 [.int .u32 0] bF bF 0 bF,
 rf 180,
 rr 181 (.uint .u64) 1 bF [] bF 0 8 [.int .u64 0] bF bF 0 bF,
 rf 182,
 rf 183,
 rf 184,
 rf 185,
 rf 186,
 rf 187,
 rf 188,
 rf 189,
 rf 190,
 rf 191,
 rf 192,
 rf 193,
 rf 194,
 rf 195,
 rf 196,
 rr 197 (.uint .u64) 1 bF [] bF 0 8 [.int .u64 0] bF bF 0 bF,
 rf 198,
 rf 199,
 rf 200,
 {rr 201 (.ptr .int) 1 bF [] bF 0 8 [.pointer none] bF bF 0 bF with pt:=true},
 rf 202,
 rf 203,
 rf 204,
 rf 205,
 rf 206,
 rf 208,
 rf 209,
 rf 210,
 {rr 211 qy2 1 bF [] bF 0 8 [.pointer none] bF bF 0 bF with pt:=true},
 rf 213,
 rf 214,
 rf 215,
 rf 217,
 rf 219,
 rf 220,
 rr 224 .unit 0 bT [(0,223)] bF 0 0 [] bF bF 0 bF,
 rr 225 .unit 0 bT [(0,223)] bF 0 0 [] bF bF 0 bF,
 rr 226 (.uint .u8) 1 bF [] bF 0 1 [.int .u8 0] bF bF 0 bF,
 rr 227 (.uint .u8) 1 bF [] bF 0 1 [.int .u8 0] bF bF 0 bF,
 rf 228,
 {rr 229 qy0 1 bF [] bF 0 8 [.pointer none] bF bF 0 bF with pt:=true},
 rr 230 (.uint .i32) 1 bF [] bF 0 4 [.int .i32 0] bF bF 0 bF,
 rr 231 (.uint .i32) 1 bF [] bF 0 4 [.int .i32 0] bF bF 0 bF,
 rr 232 .unit 11 bT [(0,12),(1,12),(2,179),(3,226),(4,5),(5,5),(6,227),(7,228),(8,229),(9,230),(10,231)] bF 0 48 [.int .u64 0,.int .u64 0,.int .u32 0,.int .u8 0,.int .u8 0,.int .u8 0,.int .u8 0,.nilFunc,.pointer none,.int .i32 0,.int .i32 0] bF bF 0 bF,
 rr 233 .unit 11 bT [(0,12),(1,12),(2,179),(3,226),(4,5),(5,5),(6,227),(7,228),(8,229),(9,230),(10,231)] bF 0 48 [.int .u64 0,.int .u64 0,.int .u32 0,.int .u8 0,.int .u8 0,.int .u8 0,.int .u8 0,.nilFunc,.pointer none,.int .i32 0,.int .i32 0] bF bF 0 bF,
 rf 234,
 rf 236]
def strs:List Nat:=[9,10,11]
noncomputable abbrev PR:Program:=Tryz.prog
theorem jDr:ti.all (jF0 PR)=true:=by kernel_rfl
def jD8 (P:Program) (k:Nat):Bool:=match P.underlying k with|some .string=>true|_=>false
theorem jy9 {P:Program} {l:List Nat} (a:l.all (jD8 P)=true) (T:Nat) (h:yg l T=true):P.underlying T=some .string:=by
 have:=jHg.1 a T ((kh _ _).1 h);unfold jD8 at this
 split at this
 .assumption
 .cases this
theorem jDu:strs.all (jD8 PR)=true:=by kernel_rfl
theorem jxD:∀T,yg strs T=true->PR.underlying T=some .string:=jy9 jDu
theorem mixed:PR.follows .mixedOrders=true:=by kernel_rfl
def jGp (n:Nat) (fs:List (Nat×jT)):Ctx:=⟨n,ti,fs,fun _ _ _ _=>none,strs,false⟩
def ctx (n:Nat) (fs:List (Nat×jT)) (os:List (Nat×zV)):Ctx:=⟨n,ti,fs,jGj (jGp n fs) os,strs,false⟩
def jeG:List (Nat×jT)->Prop
 |[]=>True
 |p::r=>(p.2.own=false->zk PR p.1 p.2)/\jeG r
def yT:List (Nat×zV)->Prop
 |[]=>True
 |p::r=>qv PR p.1 p.2/\yT r
theorem jcK:∀{l:List (Nat×jT)},jeG l->∀f s,jy l f=some s->s.own=false->zk PR f s
 |[],_,f,s,h,_=>by simp[jy] at h
 | (j,x)::r,hk,f,s,h,ho=>by
  simp only[jy] at h
  cases a:Nat.beq j f with
  |true=>rw[a] at h;simp at h;subst h;have:=jGT a;subst this;exact hk.1 ho
  |false=>rw[a] at h;exact jcK hk.2 f s h ho
theorem jeb:∀{l:List (Nat×zV)},yT l->∀f s,jy l f=some s->qv PR f s
 |[],_,f,s,h=>by simp[jy] at h
 | (j,x)::r,hk,f,s,h=>by
  simp only[jy] at h
  cases a:Nat.beq j f with
  |true=>rw[a] at h;simp at h;subst h;have:=jGT a;subst this;exact hk.1
  |false=>rw[a] at h;exact jeb hk.2 f s h
theorem jz2 {n:Nat} {fs:List (Nat×jT)} (h:jeG fs):(jGp n fs).ok PR:=
 ⟨jxv jDr,jcK h,jxD,rfl,fun _ _ _ _ _ a=>by cases a⟩
theorem jkM {n:Nat} {fs:List (Nat×jT)} {os:List (Nat×zV)} (h:jeG fs) (b:yT os):(ctx n fs os).ok PR:=
 ⟨jxv jDr,jcK h,jxD,rfl,fun f dst σ svs out a=>jv1 (jz2 h) (jeb b) a⟩
def gd (t:Ty) (σ:St) (s:Nat):t.Data:=match σ.get s with
 | .dat a d=>(match zn a t d with|some x=>x|none=>t.dflt)
 |_=>t.dflt
def gr (t:Ty) (σ:St) (o:Nat):List t.Data:=match σ.obj o with
 |some (.row _ a _ _ l)=>(match zn (.slice a) (.slice t) l with|some l'=>l'|none=>[])
 |_=>[]
def gfn (ps rs:List Ty) (σ:St) (s:Nat):(Ty.st ps).Data->(Ty.st rs).Data:=match σ.get s with
 | .fn a b _ F=>if h:a=ps/\b=rs then h.1▸h.2▸F else fun _=>(Ty.st rs).dflt
 |_=>fun _=>(Ty.st rs).dflt
def zM (fn:Func):Code:=match fn.body with|some c=>c|none=> .skip
theorem jGG {f:Nat} {fn:Func} {n:Nat} {fs:List (Nat×jT)} {os:List (Nat×zV)} {s:jT} {A:Ann} (h:jFD (ctx n fs os) A fn (zM fn) s) (d:PR.funcs[f]? =some fn) (c:fn.body=some (zM fn)) (a:(fn.name== "runtime.NumGoroutine")=false)
 (e:fn.ntmps=n) (b:Nat.ble s.ps.length n=true) (hk:jeG fs) (g:yT os):zk PR f s:=
 jGn (jkM hk g) mixed d c a e (jHa b) A h
theorem jD1 {f:Nat} {fn:Func} {n:Nat} {fs:List (Nat×jT)} {os:List (Nat×zV)} {s:zV} {A:Ann} (h:jv0 (ctx n fs os) A fn (zM fn) s) (e:PR.funcs[f]? =some fn) (d:fn.body=some (zM fn)) (a:(fn.name== "runtime.NumGoroutine")=false)
 (g:fn.ntmps=n) (c:Nat.ble s.ps.length n=true) (b:w5 (jsP s.ps 0)=true) (hk:jeG fs) (i:yT os):qv PR f s:=
 jFh (jkM hk i) mixed e d a g (jHa c) b A h
theorem kcC {f:Nat} {s:jT} {fs:List (Nat×jT)} (h:zk PR f s) (hk:jeG fs):jeG ((f,s)::fs):=⟨fun _=>h,hk⟩
theorem kcN:jeG []:=trivial
theorem koC {f:Nat} {s:zV} {fs:List (Nat×zV)} (h:qv PR f s) (hk:yT fs):yT ((f,s)::fs):=⟨h,hk⟩
theorem koN:yT []:=trivial
theorem kI (A:Ann) {f:Nat} {fn:Func} {fs:List (Nat×jT)} {os:List (Nat×zV)} {s:jT} {P:Prop} (h:P) (e:PR.funcs[f]? =some fn) (hk:jeG fs) (g:yT os) (d:jFD (ctx fn.ntmps fs os) A fn (zM fn) s=P:=by kernel_rfl) (c:fn.body=some (zM fn):=by kernel_rfl) (a:(fn.name== "runtime.NumGoroutine")=false:=by kernel_rfl) (b:Nat.ble s.ps.length fn.ntmps=true:=by kernel_rfl):zk PR f s:=jGG (d.mpr h) e c a rfl b hk g
theorem jU {f:Nat} {fn:Func} {fs:List (Nat×jT)} {os:List (Nat×zV)} {s:jT} {P:Prop} (h:P) (e:PR.funcs[f]? =some fn) (hk:jeG fs) (g:yT os) (d:jFD (ctx fn.ntmps fs os) (fun _=>none) fn (zM fn) s=P:=by kernel_rfl) (c:fn.body=some (zM fn):=by kernel_rfl) (a:(fn.name== "runtime.NumGoroutine")=false:=by kernel_rfl) (b:Nat.ble s.ps.length fn.ntmps=true:=by kernel_rfl):zk PR f s:=jGG (d.mpr h) e c a rfl b hk g
theorem jjX (A:Ann) {f:Nat} {fn:Func} {fs:List (Nat×jT)} {os:List (Nat×zV)} {s:zV} {P:Prop} (h:P) (g:PR.funcs[f]? =some fn) (hk:jeG fs) (i:yT os) (e:jv0 (ctx fn.ntmps fs os) A fn (zM fn) s=P:=by kernel_rfl) (d:fn.body=some (zM fn):=by kernel_rfl) (a:(fn.name== "runtime.NumGoroutine")=false:=by kernel_rfl) (c:Nat.ble s.ps.length fn.ntmps=true:=by kernel_rfl) (b:w5 (jsP s.ps 0)=true:=by kernel_rfl):qv PR f s:=jD1 (e.mpr h) g d a rfl c b hk i
theorem jmi {f:Nat} {fn:Func} {fs:List (Nat×jT)} {os:List (Nat×zV)} {s:zV} {P:Prop} (h:P) (g:PR.funcs[f]? =some fn) (hk:jeG fs) (i:yT os) (e:jv0 (ctx fn.ntmps fs os) (fun _=>none) fn (zM fn) s=P:=by kernel_rfl) (d:fn.body=some (zM fn):=by kernel_rfl) (a:(fn.name== "runtime.NumGoroutine")=false:=by kernel_rfl) (c:Nat.ble s.ps.length fn.ntmps=true:=by kernel_rfl) (b:w5 (jsP s.ps 0)=true:=by kernel_rfl):qv PR f s:=jD1 (e.mpr h) g d a rfl c b hk i
def jrw (n:Nat) (fs:List (Nat×jT)) (os:List (Nat×zV)) (cs:List (Nat×jeH)) (vs:List (Nat×joH)):Ctx:=⟨n,ti,fs,jGb (jGp n fs) os cs vs,strs,false⟩
def jAA:List (Nat×jeH)->Prop
 |[]=>True
 |p::r=>jro PR p.1 p.2/\jAA r
def jAz:List (Nat×joH)->Prop
 |[]=>True
 |p::r=>VOK PR p.1 p.2/\jAz r
theorem jka:∀{l:List (Nat×jeH)},jAA l->∀f s,jy l f=some s->jro PR f s
 |[],_,f,s,h=>by simp[jy] at h
 | (j,x)::r,hk,f,s,h=>by
  simp only[jy] at h
  cases a:Nat.beq j f with
  |true=>rw[a] at h;simp at h;subst h;have:=jGT a;subst this;exact hk.1
  |false=>rw[a] at h;exact jka hk.2 f s h
theorem jj9:∀{l:List (Nat×joH)},jAz l->∀f s,jy l f=some s->VOK PR f s
 |[],_,f,s,h=>by simp[jy] at h
 | (j,x)::r,hk,f,s,h=>by
  simp only[jy] at h
  cases a:Nat.beq j f with
  |true=>rw[a] at h;simp at h;subst h;have:=jGT a;subst this;exact hk.1
  |false=>rw[a] at h;exact jj9 hk.2 f s h
theorem jtx {n:Nat} {fs:List (Nat×jT)} {os:List (Nat×zV)} {cs:List (Nat×jeH)} {vs:List (Nat×joH)} (h:jeG fs) (c:yT os) (a:jAA cs) (d:jAz vs):(jrw n fs os cs vs).ok PR:=
 ⟨jxv jDr,jcK h,jxD,rfl,fun f dst σ svs out b=>ju3 (jz2 h) (jeb c) (jka a) (jj9 d) b⟩
theorem jFk {f:Nat} {fn:Func} {n:Nat} {fs:List (Nat×jT)} {os:List (Nat×zV)} {s:jeH} {A:Ann} (h:jAb (ctx n fs os) A fn (zM fn) s) (d:PR.funcs[f]? =some fn) (c:fn.body=some (zM fn)) (a:(fn.name== "runtime.NumGoroutine")=false)
 (e:fn.ntmps=n) (b:Nat.ble s.ps.length n=true) (hk:jeG fs) (g:yT os):jro PR f s:=
 jFP (jkM hk g) mixed d c a e (jHa b) A h
end Go.X
namespace Go.X
namespace L
theorem nth_lt {α:Type} [Inhabited α] {l:List α} {i:Nat} (h:i<l.length):nth l i=l[i]:=by
 unfold nth;simp[h]
theorem take_succ {α:Type} [Inhabited α] {l:List α} {i:Nat} (h:i<l.length):l.take (i+1)=l.take i++[nth l i]:=by
 rw[nth_lt h];exact List.take_succ_eq_append_getElem h
theorem mem_nth {α:Type} [Inhabited α] {l:List α} {i:Nat} (h:i<l.length):nth l i∈l:=by
 rw[nth_lt h];exact List.getElem_mem h
theorem mem_iff {α:Type} [Inhabited α] {l:List α} {x:α}:x∈l↔∃i,i<l.length/\nth l i=x:=by
 constructor
 .intro h;obtain⟨i,hi,e⟩:=List.getElem_of_mem h;exact⟨i,hi,by rw[nth_lt hi,e]⟩
 .rintro⟨i,hi,rfl⟩;exact mem_nth hi
theorem all_false {α:Type} [Inhabited α] {l:List α} {i:Nat} {p:α->Bool} (h:i<l.length) (a:p (nth l i)=false):l.all p=false:=by
 rw[jHZ];exact⟨nth l i,mem_nth h,by simp[a]⟩
theorem in64 {x:Int} (a: -9223372036854775808<=x) (b:x<=9223372036854775807):jw x:=⟨a,b⟩
end L
end Go.X
namespace Go.X
namespace BT
theorem two_nat (k:Nat):(2:Int)^k=((2^k:Nat):Int):=by simp
theorem div_nat (n k:Nat):(n:Int)/2^k=((n/2^k:Nat):Int):=by simp
theorem pow63 {k:Nat} (h:k<=62):2^k<2^63:=Nat.pow_lt_pow_right (by decide) (by omega)
theorem ofInt_nat {n:Nat} (a:n<2^63):(BitVec.ofInt 64 (n:Int)).toNat=n:=by
 simp only[BitVec.toNat_ofInt];omega
theorem wrap_nat {n:Nat} (h:n<2^63):IntKind.i64.wrap (n:Int)=(n:Int):=by
 unfold IntKind.wrap;simp[IntKind.signed,IntKind.bits];omega
theorem wrapU_nat {n:Nat} (h:n<2^63):IntKind.u64.wrap (n:Int)=(n:Int):=by
 unfold IntKind.wrap;simp[IntKind.signed,IntKind.bits];omega
theorem band_nat {a b:Nat} (c:a<2^63) (d:b<2^63):qO (a:Int) (b:Int)=((a&&&b:Nat):Int):=by
 unfold qO;rw[BitVec.toNat_and,ofInt_nat c,ofInt_nat d];exact wrap_nat (jIs Nat.and_le_left c)
theorem uand_nat {a b:Nat} (c:a<2^63) (d:b<2^63):wF (a:Int) (b:Int)=((a&&&b:Nat):Int):=by
 unfold wF;rw[BitVec.toNat_and,ofInt_nat c,ofInt_nat d];exact wrapU_nat (jIs Nat.and_le_left c)
theorem bor_nat {a b:Nat} (c:a<2^63) (d:b<2^63):bor (a:Int) (b:Int)=((a|||b:Nat):Int):=by
 unfold bor;rw[BitVec.toNat_or,ofInt_nat c,ofInt_nat d,wrap_nat (Nat.or_lt_two_pow c d)]
def sdiff (a b:Nat):Nat:=a&&&(2^64-(b+1))
theorem sdiff_bit {a b:Nat} (c:a<2^63) (d:b<2^63) (i:Nat):(sdiff a b).testBit i=(a.testBit i&& !b.testBit i):=by
 unfold sdiff;rw[Nat.testBit_and,Nat.testBit_two_pow_sub_succ (by omega)];by_cases hi:i<64
 .rw[decide_eq_true hi,Bool.true_and]
 .have:a.testBit i=false:=Nat.testBit_lt_two_pow (jHU c (Nat.pow_le_pow_right (by decide) (by omega)));rw[this];simp
theorem bandn_nat {a b:Nat} (c:a<2^63) (d:b<2^63):jkY (a:Int) (b:Int)=((sdiff a b:Nat):Int):=by
 unfold jkY;rw[BitVec.toNat_and,BitVec.toNat_not,ofInt_nat c,ofInt_nat d];have:2^64-1-b=2^64-(b+1):=(by omega);rw[this];exact wrap_nat (jIs Nat.and_le_left c)
def Set' (s:Int):Prop:=0<=s/\s<2^62
def has (s:Int) (p:Nat):Bool:=s.toNat.testBit p
theorem nat_of {s:Int} (h:Set' s):∃n:Nat,s=(n:Int)/\n<2^62:=⟨s.toNat,by unfold Set' at h;omega,by unfold Set' at h;omega⟩
theorem lt63 {n:Nat} (h:n<2^62):n<2^63:=by omega
theorem has_shr {s:Int} (h:Set' s) (p:Nat):decide (qO (s/2^p) 1=1)=has s p:=by
 obtain⟨n,rfl,b⟩:=nat_of h;unfold has;rw[jG1,div_nat];have a:n/2^p<2^63:=jIs (Nat.div_le_self _ _) (lt63 b);rw[show(1:Int)=((1:Nat):Int) from rfl,band_nat a (by decide),Nat.and_one_is_mod,Nat.testBit_eq_decide_div_mod_eq];exact decide_eq_decide.2 ⟨fun h=>by omega,fun h=>by omega⟩
theorem has_ushr {s:Int} (h:Set' s) (p:Nat):decide (wF (s/2^p) 1=1)=has s p:=by
 obtain⟨n,rfl,b⟩:=nat_of h;unfold has;rw[jG1,div_nat];have a:n/2^p<2^63:=jIs (Nat.div_le_self _ _) (lt63 b);rw[show(1:Int)=((1:Nat):Int) from rfl,uand_nat a (by decide),Nat.and_one_is_mod,Nat.testBit_eq_decide_div_mod_eq];exact decide_eq_decide.2 ⟨fun h=>by omega,fun h=>by omega⟩
theorem bit_num {s:Int} (h:Set' s) (p:Nat):qO (s/2^p) 1=if has s p=true then 1 else 0:=by
 obtain⟨n,rfl,b⟩:=nat_of h;unfold has;rw[jG1,div_nat];have a:n/2^p<2^63:=jIs (Nat.div_le_self _ _) (lt63 b);rw[show(1:Int)=((1:Nat):Int) from rfl,band_nat a (by decide),Nat.and_one_is_mod,Nat.testBit_eq_decide_div_mod_eq]
 split
 .rename_i h;have:=of_decide_eq_true h;omega
 .rename_i h;have:¬(n/2^p%2=1):=fun e=>h (decide_eq_true e);omega
theorem has_zero (p:Nat):has 0 p=false:=by unfold has;simp
theorem has_two (k p:Nat):has ((2:Int)^k) p=decide (k=p):=by
 unfold has;rw[two_nat,jG1,Nat.testBit_two_pow]
theorem has_bor {a b:Int} (c:Set' a) (d:Set' b) (p:Nat):has (bor a b) p=(has a p||has b p):=by
 obtain⟨n,rfl,f⟩:=nat_of c;obtain⟨m,rfl,e⟩:=nat_of d;unfold has;rw[bor_nat (lt63 f) (lt63 e)];simp only[jG1,Nat.testBit_or]
theorem has_bandn {a b:Int} (e:Set' a) (f:Set' b) (p:Nat):has (jkY a b) p=(has a p&& !has b p):=by
 obtain⟨n,rfl,d⟩:=nat_of e;obtain⟨m,rfl,c⟩:=nat_of f;unfold has;rw[bandn_nat (lt63 d) (lt63 c)];simp only[jG1];exact sdiff_bit (lt63 d) (lt63 c) p
theorem bor_set {a b:Int} (e:Set' a) (f:Set' b):Set' (bor a b):=by
 obtain⟨n,rfl,d⟩:=nat_of e;obtain⟨m,rfl,c⟩:=nat_of f;rw[bor_nat (lt63 d) (lt63 c)];have:n|||m<2^62:=Nat.or_lt_two_pow d c;unfold Set';omega
theorem bandn_set {a b:Int} (c:Set' a) (d:Set' b):Set' (jkY a b):=by
 obtain⟨n,rfl,f⟩:=nat_of c;obtain⟨m,rfl,e⟩:=nat_of d;rw[bandn_nat (lt63 f) (lt63 e)];have:sdiff n m<=n:=Nat.and_le_left;unfold Set';omega
theorem zero_set:Set' 0:=by unfold Set';omega
theorem two_set {k:Nat} (h:k<=61):Set' ((2:Int)^k):=by
 rw[two_nat];have:2^k<2^62:=Nat.pow_lt_pow_right (by decide) (by omega);obtain⟨q,a⟩:∃q,q=2^k:=⟨_,rfl⟩;rw[<-a] at this⊢;unfold Set';omega
theorem ext {a b:Int} (c:Set' a) (d:Set' b) (h:∀p,has a p=has b p):a=b:=by
 obtain⟨n,rfl,f⟩:=nat_of c;obtain⟨m,rfl,e⟩:=nat_of d;have:n=m:=jIn (fun i=>by have:=h i;unfold has at this;simpa using this);rw[this]
theorem has_lt {s:Int} {k:Nat} (c:0<=s) (h:s<2^k) {p:Nat} (b:has s p=true):p<k:=by
 obtain⟨n,rfl⟩:∃n:Nat,s=(n:Int):=⟨s.toNat,by omega⟩;rw[two_nat] at h;unfold has at b;rw[jG1] at b;have d:=Nat.ge_two_pow_of_testBit b;rcases Nat.lt_or_ge p k with a|a
 .exact a
 .have:=Nat.pow_le_pow_right (n:=2) (by decide) a;omega
theorem lt_of_has {s:Int} {k:Nat} (a:Set' s) (h:∀p,has s p=true->p<k):s<2^k:=by
 obtain⟨n,rfl,b⟩:=nat_of a;rw[two_nat];have:n<2^k:=Nat.lt_pow_two_of_testBit n (fun i hi=>by
  cases e:n.testBit i with
  |false=>rfl
  |true=>have:=h i (by unfold has;simpa using e);omega)
 omega
theorem or_two {n p:Nat} (h:n.testBit p=false):n+2^p=n|||2^p:=by
 have g:n=2^(p+1)*(n/2^(p+1))+n%2^(p+1):=(Nat.div_add_mod _ _).symm;have c:n%2^(p+1)<2^p:=by
  have b:n%2^(p+1)<2^(p+1):=Nat.mod_lt _ (Nat.pow_pos (by decide));rcases Nat.lt_or_ge (n%2^(p+1)) (2^p) with a|a
  .exact a
  .exfalso;have:(n%2^(p+1)).testBit p=true:=Nat.testBit_of_two_pow_le_and_two_pow_add_one_gt a b;rw[Nat.testBit_mod_two_pow,h] at this;simp at this
 apply jIn;intro i;rw[Nat.testBit_or,Nat.testBit_two_pow];have e:n+2^p=2^(p+1)*(n/2^(p+1))+(2^p+n%2^(p+1)):=(by omega);have j:2^p+n%2^(p+1)<2^(p+1):=jHU (Nat.add_lt_add_left c _) (by rw[Nat.pow_succ];omega);rw[e,Nat.testBit_two_pow_mul_add _ j]
 conv=>rhs;rw[g,Nat.testBit_two_pow_mul_add _ (Nat.mod_lt _ (Nat.pow_pos (by decide)))]
 have f:2^p+n%2^(p+1)=2^p*1+n%2^(p+1):=(by omega);by_cases hi:i<p+1
 .rw[if_pos hi,if_pos hi,f,Nat.testBit_two_pow_mul_add _ c];by_cases d:i<p
  .rw[if_pos d,decide_eq_false (by omega),Bool.or_false]
  .have:i=p:=(by omega);subst this;rw[if_neg d,Nat.sub_self,decide_eq_true rfl,Bool.or_true];simp
 .rw[if_neg hi,if_neg hi,decide_eq_false (by omega),Bool.or_false]
theorem add_two {s:Int} (b:Set' s) {p:Nat} (c:p<=61) (h:has s p=false):s+2^p=bor s (2^p):=by
 obtain⟨n,rfl,a⟩:=nat_of b;rw[two_nat,bor_nat (lt63 a) (pow63 (by omega))];unfold has at h;rw[jG1] at h;rw[<-or_two h];omega
def size (s:Int):Int:=(((List.range 62).countP (fun p=>has s p):Nat):Int)
theorem size_zero:size 0=0:=by
 unfold size;have:(List.range 62).countP (fun p=>has 0 p)=0:=jIg.2 (fun p _=>by rw[has_zero];simp);rw[this];rfl
theorem size_le (s:Int):0<=size s/\size s<=62:=by
 have:=List.countP_le_length (l:=List.range 62) (p:=fun p=>has s p);rw[List.length_range] at this;unfold size;omega
theorem has_half {s:Int} (a:Set' s) (p:Nat):has (s/2) p=has s (p+1):=by
 obtain⟨n,rfl,b⟩:=nat_of a;unfold has;have:((n:Int)/2).toNat=n/2:=(by omega);rw[this,jG1,Nat.testBit_succ]
theorem size_half {s:Int} (d:Set' s):size s=s%2+size (s/2):=by
 obtain⟨n,e,i⟩:=nat_of d;have b:has (s/2) 61=false:=by
  rw[has_half d];subst e;unfold has;rw[jG1];exact Nat.testBit_lt_two_pow i
 have j:(List.range 62)=0::(List.range 61).map (·+1):=by
  rw[show(62:Nat)=61+1 from rfl,List.range_succ_eq_map]
 have c:(List.range 62)=List.range 61++[61]:=(by rw[show(62:Nat)=61+1 from rfl,jHn]);have f:(has s 0=true)↔s%2=1:=by
  subst e;unfold has;rw[jG1,Nat.testBit_zero];simp only[decide_eq_true_eq];omega
 have g:(List.range 62).countP (fun p=>has (s/2) p)=(List.range 61).countP (fun p=>has s (p+1)):=by
  rw[c,jIr];simp only[jIo,List.countP_nil,b];simp only[has_half d];simp
 unfold size;rw[g]
 conv=>lhs;rw[j]
 rw[jIo,List.countP_map];have h:((fun p=>has s p)∘fun(x:Nat)=>x+1)=fun p=>has s (p+1):=rfl
 rw[h];by_cases a:has s 0=true
 .rw[if_pos a];have:=f.1 a;omega
 .rw[if_neg a];have:¬s%2=1:=fun e=>a (f.2 e);omega
end BT
end Go.X
namespace Go.X
namespace BT
theorem uor_nat {a b:Nat} (c:a<2^63) (d:b<2^63):uor (a:Int) (b:Int)=((a|||b:Nat):Int):=by
 unfold uor;rw[BitVec.toNat_or,ofInt_nat c,ofInt_nat d,wrapU_nat (Nat.or_lt_two_pow c d)]
theorem has_uor {a b:Int} (c:Set' a) (d:Set' b) (p:Nat):has (uor a b) p=(has a p||has b p):=by
 obtain⟨n,rfl,f⟩:=nat_of c;obtain⟨m,rfl,e⟩:=nat_of d;unfold has;rw[uor_nat (lt63 f) (lt63 e)];simp only[jG1,Nat.testBit_or]
theorem uor_set {a b:Int} (e:Set' a) (f:Set' b):Set' (uor a b):=by
 obtain⟨n,rfl,d⟩:=nat_of e;obtain⟨m,rfl,c⟩:=nat_of f;rw[uor_nat (lt63 d) (lt63 c)];have:n|||m<2^62:=Nat.or_lt_two_pow d c;unfold Set';omega
theorem pred_odd (k:Nat):(2*k+1)&&&(2*k+1-1)=2*k:=by
 apply jIn;intro i;rw[Nat.testBit_and,Nat.add_sub_cancel];cases i with
 |zero=>simp
 |succ i=>
  rw[Nat.testBit_succ,Nat.testBit_succ];have:(2*k+1)/2=k:=(by omega);have a:(2*k)/2=k:=(by omega);rw[this,a,Bool.and_self]
theorem pred_even (k:Nat) (h:k≠0):(2*k)&&&(2*k-1)=2*(k&&&(k-1)):=by
 apply jIn;intro i;rw[Nat.testBit_and];cases i with
 |zero=>simp
 |succ i=>
  rw[Nat.testBit_succ,Nat.testBit_succ,Nat.testBit_succ];have:(2*k)/2=k:=(by omega);have a:(2*k-1)/2=k-1:=(by omega);have b:(2*(k&&&(k-1)))/2=k&&&(k-1):=(by omega);rw[this,a,b,Nat.testBit_and]
theorem size_dbl {k:Nat} (h:k<2^61):size ((2*k:Nat):Int)=size (k:Int):=by
 rw[size_half (s:=((2*k:Nat):Int)) (by unfold Set';omega)];have a:((2*k:Nat):Int)%2=0:=(by omega);have b:((2*k:Nat):Int)/2=(k:Int):=(by omega);rw[a,b];omega
theorem size_odd {k:Nat} (h:k<2^61):size ((2*k+1:Nat):Int)=1+size (k:Int):=by
 rw[size_half (s:=((2*k+1:Nat):Int)) (by unfold Set';omega)];have a:((2*k+1:Nat):Int)%2=1:=(by omega);have b:((2*k+1:Nat):Int)/2=(k:Int):=(by omega);rw[a,b]
theorem pred_nat:∀(n:Nat),n≠0->n<2^62->(n&&&(n-1))<n/\size ((n&&&(n-1):Nat):Int)+1=size (n:Int)
 |n,b,d=>by
  rcases Nat.mod_two_eq_zero_or_one n with e|e
  .obtain⟨k,rfl⟩:∃k,n=2*k:=⟨n/2,by omega⟩
   have hk:k≠0:=by omega
   obtain⟨c,a⟩:=pred_nat k hk (by omega)
   rw[pred_even k hk]
   exact⟨by omega,by rw[size_dbl (by omega),size_dbl (by omega)];exact a⟩
  .obtain⟨k,rfl⟩:∃k,n=2*k+1:=⟨n/2,by omega⟩
   rw[pred_odd]
   exact⟨by omega,by rw[size_dbl (by omega),size_odd (by omega)];omega⟩
termination_by n=>n
theorem pred {s:Int} (d:Set' s) (h:s≠0):Set' (wF s (s-1))/\wF s (s-1)<s/\size (wF s (s-1))+1=size s:=by
 obtain⟨n,rfl,a⟩:=nat_of d;have b:n≠0:=(by omega);have e:(n:Int)-1=((n-1:Nat):Int):=(by omega);rw[e,uand_nat (lt63 a) (by omega)];obtain⟨f,c⟩:=pred_nat n b a;exact⟨by unfold Set';omega,by omega,c⟩
end BT
end Go.X
namespace Go.X
namespace U
def jab {α:Type} (eq:α->α->Bool) (p:α):List α->List α
 |[]=>[]
 |y::r=>if eq y p=true then jab eq y r else y::jab eq y r
def vz {α:Type} (eq:α->α->Bool):List α->List α
 |[]=>[]
 |x::r=>x::jab eq x r
def jD9 {α:Type} (eq:α->α->Bool) (l:List α) (i:Nat):Prop:=1<=i/\i<=l.length/\vz eq (l.take i)=l.take i
def jdn {α:Type} (eq:α->α->Bool) (l:List α) (n:Nat):Int:=((vz eq (l.take n)).length:Int)
def jsW {α:Type} (eq:α->α->Bool) (l:List α) (i k:Nat) (r:List α):Prop:=1<=k/\i+k<=l.length/\r.length=l.length/\vz eq (l.take (i+k))=r.take (vz eq (l.take (i+k))).length/\r.drop (i+k-1)=l.drop (i+k-1)/\(vz eq (l.take (i+k))).length<i+k
end U
namespace L
theorem nodup_len {α:Type}:∀(a b:List α),a.Nodup->(∀x∈a,x∈b)->a.length<=b.length
 |[],_,_,_=>by simp
 |x::a,b,hn,h=>by
  obtain⟨e,f,rfl⟩:=List.append_of_mem (h x (by simp))
  rw[jHP] at hn
  have:=nodup_len a (e++f) hn.2 (fun y d=>by
   have:=h y (by simp[d])
   rw[jG5,jGX] at this
   rw[jG5]
   rcases this with c|c|c
   .exact .inl c
   .subst c;exact absurd d hn.1
   .exact .inr c)
  simp at this⊢
  omega
theorem perm_of_nodup {α:Type} [DecidableEq α]:∀{a b:List α},a.Nodup->b.Nodup->(∀n,n∈a↔n∈b)->a.Perm b
 |[],b,_,_,h=>by
  have:b=[]:=by
   cases b with
   |nil=>rfl
   |cons x r=>exact absurd ((h x).2 (by simp)) (by simp)
  rw[this]
 |x::r,b,ha,hb,h=>by
  have i:x∈b:=(h x).1 (by simp);have f:=List.perm_cons_erase i;refine(List.Perm.cons x (perm_of_nodup (jHP.1 ha).2 (hb.erase x) (fun n=> ?_))).trans f.symm;rw[hb.mem_erase_iff];constructor
  .intro c;exact⟨fun e=>by subst e;exact(jHP.1 ha).1 c,(h n).1 (jG0 _ c)⟩
  .rintro⟨d,c⟩;rcases jGX.1 ((h n).2 c) with e|g
   .exact absurd e d
   .exact g
theorem nodup_inj {α d:Type} {f:α->d}:∀{l:List α},(l.map f).Nodup->∀{x y:α},x∈l->y∈l->f x=f y->x=y
 |[],_,_,_,h,_,_=>by simp at h
 |a::r,hn,x,y,hx,hy,e=>by
  simp only[jHW,jHP] at hn
  rcases jGX.1 hx with rfl|c
  .rcases jGX.1 hy with rfl|b
   .rfl
   .exact absurd (jHm.2 ⟨y,b,e.symm⟩) hn.1
  .rcases jGX.1 hy with rfl|b
   .exact absurd (jHm.2 ⟨x,c,e⟩) hn.1
   .exact nodup_inj hn.2 c b e
theorem nth_take {α:Type} [Inhabited α] {l:List α} {i n:Nat} (h:i<n):nth (l.take n) i=nth l i:=by
 unfold nth;rw[jHu,jHu,jHl h]
theorem nth_drop {α:Type} [Inhabited α] {l r:List α} {a n:Nat} (h:l.drop a=r.drop a) (b:a<=n):nth l n=nth r n:=by
 have e:=congrArg (fun x=>x[n-a]?) h;simp only[jHB] at e;rw[show a+(n-a)=n by omega] at e;unfold nth;rw[jHu,jHu,e]
theorem nth_map {α a:Type} [Inhabited α] [Inhabited a] {f:α->a} {l:List α} {i:Nat} (h:i<l.length):nth (l.map f) i=f (nth l i):=by
 rw[nth_lt (by simpa using h),nth_lt h];simp
theorem nth_set {α:Type} [Inhabited α] {l:List α} {i j:Nat} {x:α} (h:i<l.length):nth (l.set i x) j=if i=j then x else nth l j:=by
 unfold nth;rw[jHu,jHu,List.getElem?_set]
 split
 .rename_i e;subst e;simp[h]
 .rfl
theorem nth_rep {α:Type} [Inhabited α] {n i:Nat} {x:α} (h:i<n):nth (List.replicate n x) i=x:=by
 unfold nth;rw[jHu,List.getElem?_replicate,if_pos h];rfl
theorem ext_nth {α:Type} [Inhabited α] {a b:List α} (h:a.length=b.length) (d:∀i,i<a.length->nth a i=nth b i):a=b:=by
 apply List.ext_getElem h;intro i c e;rw[<-nth_lt c,<-nth_lt e];exact d i c
theorem range_map_nth {α:Type} [Inhabited α] (l:List α):(List.range l.length).map (nth l)=l:=by
 apply ext_nth
 .simp
 .intro i hi;rw[nth_map (by simpa using hi)];congr 1;rw[nth_lt (by simpa using hi)];simp
section
variable {α:Type} [Inhabited α] {eq:α->α->Bool}
theorem compT_snoc (y:α):∀(r:List α) (p:α),U.jab eq p (r++[y])=U.jab eq p r++(if eq y (nth (p::r) r.length)=true then[] else[y])
 |[],p=>rfl
 |z::r,p=>by
  have e:nth (p::z::r) (z::r).length=nth (z::r) r.length:=rfl
  rw[e]
  simp only[jHt,U.jab]
  split
  .exact compT_snoc y r z
  .rw[compT_snoc y r z];rfl
theorem comp_snoc (y:α) {l:List α} (h:l≠[]):U.vz eq (l++[y])=U.vz eq l++(if eq y (nth l (l.length-1))=true then[] else[y]):=by
 cases l with
 |nil=>exact absurd rfl h
 |cons x r=>
  show x::U.jab eq x (r++[y])=_;rw[compT_snoc];have:(x::r).length-1=r.length:=(by simp);rw[this];rfl
theorem comp_take {l:List α} {n:Nat} (b:1<=n) (a:n<l.length):U.vz eq (l.take (n+1))=U.vz eq (l.take n)++(if eq (nth l n) (nth l (n-1))=true then[] else[nth l n]):=by
 rw[L.take_succ a,comp_snoc]
 .have e:(l.take n).length-1=n-1:=(by rw[jHv];omega);rw[e,nth_take (by omega)]
 .intro e;have:=congrArg List.length e;rw[jHv,jHM] at this;omega
end
theorem comp_short {α:Type} {eq:α->α->Bool} {l:List α} (h:l.length<2):U.vz eq l=l:=by
 match l,h with
 |[],_=>rfl
 |[x],_=>rfl
theorem comp_len {α:Type} {eq:α->α->Bool} (l:List α):(U.vz eq l).length<=l.length:=by
 have:∀(r:List α) (p:α),(U.jab eq p r).length<=r.length:=by
  intro r
  induction r with
  |nil=>intro p;simp[U.jab]
  |cons y r a=>
   intro p;unfold U.jab
   split
   .have:=a y;simp;omega
   .have:=a y;simp;omega
 cases l with
 |nil=>simp[U.vz]
 |cons x r=>have:=this r x;simp[U.vz];omega
theorem inv9_next {α:Type} [Inhabited α] {eq:α->α->Bool} {l r:List α} {i k:Nat} (hi:1<=i) (h:U.jsW eq l i k r) (g:i+k<l.length):
 (eq (nth r (i+k)) (nth r (i+k-1))=false->U.jdn eq l (i+(k+1))=U.jdn eq l (i+k)+1/\U.jsW eq l i (k+1) (r.set (U.jdn eq l (i+k)).toNat (nth r (i+k))))/\
 (eq (nth r (i+k)) (nth r (i+k-1))=true->U.jdn eq l (i+(k+1))=U.jdn eq l (i+k)/\U.jsW eq l i (k+1) r):=by
 obtain⟨t,u,j,d,e,q⟩:=h;have o:nth r (i+k)=nth l (i+k):=nth_drop e (by omega);have p:nth r (i+k-1)=nth l (i+k-1):=nth_drop e (by omega);have a:=comp_take (eq:=eq) (l:=l) (n:=i+k) (by omega) g;rw[show i+k+1=i+(k+1) by omega] at a;have m:r.drop (i+k)=l.drop (i+k):=by
  have:=congrArg (List.drop 1) e;rw[List.drop_drop,List.drop_drop,show i+k-1+1=i+k by omega] at this;exact this
 rw[o,p];obtain⟨c,b⟩:∃c,c=U.vz eq (l.take (i+k)):=⟨_,rfl⟩;rw[<-b] at a d q;have s:(U.jdn eq l (i+k))=(c.length:Int):=(by unfold U.jdn;rw[<-b]);rw[s];refine⟨fun f=> ?_,fun f=> ?_⟩
 .rw[if_neg (by rw[f];simp)] at a;refine⟨by unfold U.jdn;rw[a];simp,by omega,by omega,by simpa using j,?_,?_,?_⟩
  .rw[a];simp only[jG1,jHk,jHy,jHM];rw[List.take_add_one,List.getElem?_set_self (by omega)];rw[List.take_set_of_le (by omega),<-d];rfl
  .rw[show i+(k+1)-1=i+k by omega];simp only[jG1];rw[List.drop_set_of_lt (by omega)];exact m
  .rw[a];simp;omega
 .rw[if_pos f,jHq] at a;refine⟨by unfold U.jdn;rw[a],by omega,by omega,j,?_,?_,?_⟩
  .rw[a];exact d
  .rw[show i+(k+1)-1=i+k by omega];exact m
  .rw[a];omega
theorem compT_sub {α:Type} {eq:α->α->Bool}:∀(r:List α) (p x:α),x∈U.jab eq p r->x∈r
 |[],_,_,h=>by simp[U.jab] at h
 |y::r,p,x,h=>by
  unfold U.jab at h
  split at h
  .exact jG0 _ (compT_sub r y x h)
  .rcases jGX.1 h with rfl|h
   .simp
   .exact jG0 _ (compT_sub r y x h)
theorem comp_sub {α:Type} {eq:α->α->Bool} {l:List α} {x:α} (h:x∈U.vz eq l):x∈l:=by
 cases l with
 |nil=>simp[U.vz] at h
 |cons y r=>
  unfold U.vz at h;rcases jGX.1 h with rfl|h
  .simp
  .exact jG0 _ (compT_sub r y x h)
theorem compT_mem {α:Type} [DecidableEq α]:∀(r:List α) (p x:α),x∈r->x=p\/x∈U.jab (fun a b=>decide (a=b)) p r
 |y::r,p,x,h=>by
  unfold U.jab
  rcases jGX.1 h with rfl|h
  .by_cases e:x=p
   .exact .inl e
   .rw[if_neg (by simpa using e)];right;simp
  .rcases compT_mem r y x h with rfl|c
   .by_cases e:x=p
    .exact .inl e
    .rw[if_neg (by simpa using e)];right;simp
   .right
    split
    .exact c
    .exact jG0 _ c
theorem comp_mem {α:Type} [DecidableEq α] {l:List α} {x:α}:x∈U.vz (fun a b=>decide (a=b)) l↔x∈l:=by
 refine⟨comp_sub,fun h=> ?_⟩;cases l with
 |nil=>simp at h
 |cons y r=>
  unfold U.vz;rcases jGX.1 h with rfl|h
  .simp
  .rcases compT_mem r y x h with rfl|c
   .simp
   .exact jG0 _ c
theorem comp_asc {α:Type} [DecidableEq α] {lt:α->α->Bool}:∀{l:List α},kK lt l->jw9 lt l->(U.vz (fun a b=>decide (a=b)) l).Pairwise (fun a b=>lt a b=true):=by
 have i:∀(r:List α) (p:α),kK lt (p::r)->jw9 lt (p::r)->(p::U.jab (fun a b=>decide (a=b)) p r).Pairwise (fun a b=>lt a b=true):=by
  intro r
  induction r with
  |nil=>intro p _ _;exact List.pairwise_singleton _ _
  |cons y r n=>
   intro p f j;have d:=jHN.1 j;have k:kK lt (y::r):=f.sub (fun z c=>jG0 _ c);have hi:=n y k d.2;unfold U.jab;by_cases e:y=p
   .rw[if_pos (by simpa using e)];subst e;exact hi
   .rw[if_neg (by simpa using e)];refine jHN.2 ⟨fun z c=> ?_,hi⟩;have g:lt p y=true:=by
     cases h:lt p y with
     |true=>rfl
     |false=>exact absurd (f.total p y (by simp) (by simp) h (d.1 y (by simp))).symm e
    rcases jGX.1 c with rfl|c
    .exact g
    .have m:=compT_sub r y z c;exact f.trans p y z (by simp) (by simp) (by simp[m]) g ((jHN.1 hi).1 z c)
 intro l f j;cases l with
 |nil=>exact List.Pairwise.nil
 |cons p r=>exact i r p f j
theorem asc_nodup {α:Type} {lt:α->α->Bool} {l:List α} (hi:∀x,lt x x=false) (h:l.Pairwise (fun a b=>lt a b=true)):l.Nodup:=
 h.imp (fun{a b} h e=>by subst e;rw[hi] at h;cases h)
theorem filter_take {α:Type} [Inhabited α] {p:α->Bool} {l:List α} {i:Nat} (h:i<l.length):(l.take (i+1)).filter p=(l.take i).filter p++(if p (nth l i)=true then[nth l i] else[]):=by
 rw[take_succ h,List.filter_append];congr 1;by_cases e:p (nth l i)=true<;>simp[e]
theorem range_filter_succ {p:Nat->Bool} {n:Nat}:(List.range (n+1)).filter p=(List.range n).filter p++(if p n=true then[n] else[]):=by
 rw[jHn,List.filter_append];congr 1;by_cases e:p n=true<;>simp[e]
end L
end Go.X
namespace Go.X
abbrev tSp:Ty:= .st [.int,.int]
abbrev tPe:Ty:= .st [.slice .int,.int,.int,.slice .int,.bool,.int]
abbrev tLw:Ty:= .st [.int,.int,.bool]
abbrev tCr:Ty:= .st [.int,.slice tPe,.slice tLw]
abbrev tJb:Ty:= .st [.int,.int,.int,.int,.int,.int]
abbrev tBk:Ty:= .st [tJb,.int,.int,.int]
abbrev tSh:Ty:= .st [.int,.int,.int,.int,.int]
abbrev tDy:Ty:= .st [tCr,.slice (.slice tSp),.slice tBk,.int,.int,.slice tSh]
abbrev SpD:Type:=Int×Int×Unit
abbrev PeD:Type:=List Int×Int×Int×List Int×Bool×Int×Unit
abbrev LwD:Type:=Int×Int×Bool×Unit
abbrev CrD:Type:=Int×List PeD×List LwD×Unit
abbrev JbD:Type:=Int×Int×Int×Int×Int×Int×Unit
abbrev BkD:Type:=JbD×Int×Int×Int×Unit
abbrev ShD:Type:=Int×Int×Int×Int×Int×Unit
abbrev DyD:Type:=CrD×List (List SpD)×List BkD×Int×Int×List ShD×Unit
namespace U
def lo (s:SpD):Int:=s.1
def hi (s:SpD):Int:=s.2.1
def ja (n a b:Int):Bool:=decide (a<=n)&&decide (n<=b)
def lv (p:PeD):List Int:=p.1
def fd (p:PeD):Int:=p.2.1
def cl (p:PeD):Int:=p.2.2.1
def zF (p:PeD):List Int:=p.2.2.2.1
def jEo (p:PeD):Bool:=p.2.2.2.2.1
def fe (p:PeD):Int:=p.2.2.2.2.2.1
def jxc (l:LwD):Int:=l.1
def jD4 (l:LwD):Int:=l.2.1
def jF5 (l:LwD):Bool:=l.2.2.1
def la (c:CrD):Int:=c.1
def je (c:CrD):List PeD:=c.2.1
def kX (c:CrD):List LwD:=c.2.2.1
def jrv (j:JbD):Int:=j.1
def jmp (j:JbD):Int:=j.2.1
def jAE (j:JbD):Int:=j.2.2.1
def jsU (j:JbD):Int:=j.2.2.2.1
def jru (j:JbD):Int:=j.2.2.2.2.1
def jBB (j:JbD):Int:=j.2.2.2.2.2.1
def vJ (b:BkD):JbD:=b.1
def jwR (b:BkD):Int:=b.2.1
def jag (b:BkD):Int:=b.2.2.1
def joB (b:BkD):Int:=b.2.2.2.1
def wv (s:ShD):Int:=s.1
def joM (s:ShD):Int:=s.2.1
def jAB (s:ShD):Int:=s.2.2.1
def vq (s:ShD):Int:=s.2.2.2.1
def qq (s:ShD):Int:=s.2.2.2.2.1
def jc (d:DyD):CrD:=d.1
def jK (d:DyD):List (List SpD):=d.2.1
def jm (d:DyD):List BkD:=d.2.2.1
def jfe (d:DyD):Int:=d.2.2.2.1
def jrs (d:DyD):Int:=d.2.2.2.2.1
def kl (d:DyD):List ShD:=d.2.2.2.2.2.1
def jV (d:DyD) (l:List ShD):DyD:=(jc d,jK d,jm d,jfe d,jrs d,l,())
def y8 (L:Int) (p:PeD):Bool:=decide (((lv p).length:Int)=L/\0<=fd p/\fd p<=255/\0<=cl p/\cl p<=255/\(zF p).length<=10/\0<=fe p/\fe p<=1000)&&((lv p).all (fun n=>ja n 0 5)&&(zF p).all (fun n=>ja n 0 99))
def gO (l:LwD):Bool:=ja (jxc l) 1 5&&ja (jD4 l) 1 8
def jj (c:CrD):Bool:=decide (2<=la c/\la c<=5/\(je c).length<=8/\(kX c).length=4)&&((je c).all (y8 (la c))&&(kX c).all gO)
def jQ (c:CrD) (j:JbD):Bool:=decide (0<=jrv j/\jrv j<=la c-1/\0<=jmp j/\jmp j<=la c-1/\jrv j≠jmp j/\0<=jAE j/\jAE j<=99/\0<=jsU j/\jsU j<=7/\0<=jru j/\jru j<=3/\1<=jBB j/\jBB j<=8)
def zX (c:CrD) (j:JbD):Int:=if jj c=false then 30 else if jQ c j=false then 31 else 0
def jfv (s:SpD):Bool:=decide (0<=lo s/\lo s<=hi s/\hi s<=300)
def vE (n:Nat) (r:List SpD):Bool:=decide (r.length=n)&&r.all jfv
def jb3 (n:Nat) (b:BkD):Bool:=decide (0<=jwR b/\jwR b<=(n:Int)-1/\0<=jag b/\jag b<joB b/\joB b<=1440)
def gN (nb a:Nat) (s:ShD):Bool:=decide (0<=wv s/\wv s<=99/\0<=joM s/\joM s<=9999/\1<=jAB s/\jAB s<=2/\0<=vq s/\vq s<=(nb:Int)-1/\0<=qq s/\qq s<=(a:Int)-1)
def zA (d:DyD):Bool:=decide ((jm d).length<=4/\1<=(jK d).length/\(jK d).length<=5/\0<=jfe d/\jfe d<=300/\0<=jrs d/\jrs d<=1440/\(kl d).length<=30)&&
 ((jK d).all (vE (jK d).length)&&((jm d).all (jb3 (jK d).length)&&(kl d).all (gN (jm d).length (je (jc d)).length)))
def jkP (a b:ShD):Bool:=decide (wv a=wv b)&& !decide (a=b)
def jiI (l:List ShD) (i:Nat):Bool:=(l.take i).any (jkP (nth l i))
def qh (l:List ShD) (n:Nat):Bool:=(List.range n).any (jiI l)
def vH (l:List ShD):Bool:=qh l l.length
def jv8 (d:DyD):Bool:=(jm d).all (fun b=>jQ (jc d) (vJ b))
def wG (d:DyD):Int:=if jj (jc d)=false then 30 else if jv8 d=false then 31 else if zA d=false then 50 else if vH (kl d)=true then 51 else 0
def jol (l:List ShD) (i:Nat):Bool:= !((l.take i).any (fun x=>decide (x=nth l i)))
def jCo (l:List ShD) (n m:Nat):List ShD:=((List.range n).filter (fun i=>decide (wv (nth l i)=(m:Int))&&jol l i)).map (nth l)
def jzX (l:List ShD) (n:Nat):List ShD:=(List.range n).flatMap (jCo l l.length)
def jil (l:List ShD):List ShD:=jzX l 100
def vX (p:PeD) (a:Int):Bool:=(zF p).any (fun t=>decide (t=a))
def jG (s n:Int):Bool:=decide (qO (s/2^n.toNat) 1=1)
def ze (c:CrD) (j:JbD) (p:Int):Bool:= !(vX (nth (je c) p.toNat) (jAE j))&&jG (fd (nth (je c) p.toNat)) (jsU j)&&jG (cl (nth (je c) p.toNat)) (jru j)
def bk (d:DyD) (b:Int):BkD:=nth (jm d) b.toNat
def jtj (d:DyD) (a b:Int):Int:=hi (nth (nth (jK d) (jwR (bk d a)).toNat) (jwR (bk d b)).toNat)
def w9 (d:DyD) (a b:Int):Bool:=decide (jag (bk d a)<jag (bk d b)\/(jag (bk d a)=jag (bk d b)/\a<b))
def qV (d:DyD) (a b:Int):Int:=jag (bk d b)-joB (bk d a)-jfe d-jtj d a b
def jL (d:DyD) (a b:Int):Bool:=if w9 d b a=true then decide (0<=qV d b a) else decide (0<=qV d a b)
def jfy (d:DyD) (l:List Int):Int:=(l.map (fun b=>joB (bk d b)-jag (bk d b))).foldl (·+·) 0
def jCP (d:DyD) (l:List Int):Bool:=(List.range l.length).all (fun i=>(l.take i).all (fun b=>jL d (nth l i) b))
def zg (d:DyD) (p:Int) (l:List Int):Bool:=l.all (fun b=>ze (jc d) (vJ (bk d b)) p)&&(jCP d l&&decide (jfy d l<=jrs d))
def wN (a b:ShD):Bool:=decide (joM b<joM a\/(joM a=joM b/\wv b<wv a))
def jiG (l:List ShD) (s:ShD):Bool:=decide (jAB s=1)&& !(l.any (fun t=>decide (vq t=vq s)&&decide (qq t=qq s)&&wN t s))
def jEE (a b:ShD):Bool:=wN b a
def yy (t:List Int) (p:Int) (n:Nat):List Int:=((List.range n).filter (fun b=>jG (nth t b) p)).map (fun(b:Nat)=>(b:Int))
def on (t:List Int) (p:Int):List Int:=yy t p t.length
def jcz (d:DyD) (x:List Int×List Int) (s:ShD):List Int×List Int:=
 if zg d (qq s) (on x.1 (qq s)++[vq s])=true then(x.1.set (vq s).toNat (nth x.1 (vq s).toNat+2^(qq s).toNat),x.2) else(x.1,x.2++[wv s])
def jbc (c:CrD) (t:Int) (d a b:Int):Bool:=(List.range (je c).length).any (fun i=>jG t (i:Int)&&decide (d<=nth (lv (nth (je c) i)) a.toNat)&&decide (d<=nth (lv (nth (je c) i)) b.toNat))
def yA (c:CrD) (j:JbD):LwD:=nth (kX c) (jru j).toNat
end U
end Go.X
namespace Go.X
inductive Rch (J:Nat->Nat->Bool) (n s:Nat):Nat->Prop where
 |base:Rch J n s s
 |step {a b:Nat}:Rch J n s a->b<n->J a b=true->Rch J n s b
theorem Rch.lt {J:Nat->Nat->Bool} {n s t:Nat} (a:s<n) (h:Rch J n s t):t<n:=by
 cases h with
 |base=>exact a
 |step _ h _=>exact h
theorem Rch.trans {J:Nat->Nat->Bool} {n s t u:Nat} (a:Rch J n s t) (b:Rch J n t u):Rch J n s u:=by
 induction b with
 |base=>exact a
 |step _ c d e=>exact .step e c d
theorem Rch.symm {J:Nat->Nat->Bool} {n s t:Nat} (c:∀a b,J a b=J b a) (f:s<n) (h:Rch J n s t):Rch J n t s:=by
 induction h with
 |base=>exact .base
 |step d i e g=>
  rename_i a b;have:Rch J n b a:= .step .base (d.lt f) (by rw[c];exact e);exact this.trans g
theorem Rch.closed {J:Nat->Nat->Bool} {n s t:Nat} {S:Nat->Prop} (i:s<n) (c:S s) (f:∀a b,a<n->S a->b<n->J a b=true->S b) (h:Rch J n s t):S t:=by
 induction h with
 |base=>exact c
 |step d e g j=>exact f _ _ (d.lt i) j e g
namespace U
def jcQ (J:Nat->Nat->Bool) (r a:Nat) (out:List Int) (b:Nat):List Int:=if nth out a=(r:Int)/\nth out b<0/\J a b=true then out.set b ((r:Int)+1) else out
def kJ (J:Nat->Nat->Bool) (r a:Nat) (out:List Int) (k:Nat):List Int:=(List.range k).foldl (jcQ J r a) out
def kk (J:Nat->Nat->Bool) (n r:Nat) (out:List Int) (k:Nat):List Int:=(List.range k).foldl (fun o a=>kJ J r a o n) out
def wh (n s:Nat):List Int:=(List.replicate n (-1:Int)).set s 0
def zm (J:Nat->Nat->Bool) (n s k:Nat):List Int:=(List.range k).foldl (fun o r=>kk J n r o n) (wh n s)
def jf7 (J:Nat->Nat->Bool) (q:Nat) (x:List Int×List Int) (b:Nat):List Int×List Int:=if nth x.1 b<0/\J q b=true then(x.1.set b (nth x.1 q+1),x.2++[(b:Int)]) else x
def jf8 (J:Nat->Nat->Bool) (q:Nat) (x:List Int×List Int) (k:Nat):List Int×List Int:=(List.range k).foldl (jf7 J q) x
def qk (J:Nat->Nat->Bool) (n:Nat) (x:List Int×List Int):List Int×List Int:=match x.2 with
 |[]=>x
 |q::_=>((jf8 J q.toNat x n).1,(jf8 J q.toNat x n).2.drop 1)
def qA (J:Nat->Nat->Bool) (n s:Nat):Nat->List Int×List Int
 |0=>(wh n s,[(s:Int)])
 |k+1=>qk J n (qA J n s k)
def jFU (J:Nat->Nat->Bool) (n s:Nat):List Int:=(qA J n s (n+1)).1
end U
theorem jen (n s:Nat):(U.wh n s).length=n:=by unfold U.wh;simp
theorem jkC {n s x:Nat} (a:s<n) (b:x<n):nth (U.wh n s) x=if s=x then 0 else-1:=by
 unfold U.wh;rw[L.nth_set (by simpa using a),L.nth_rep b]
structure jxf (J:Nat->Nat->Bool) (n s r a b:Nat) (out:List Int):Prop where
 len:out.length=n
 val:∀x,x<n->nth out x= -1\/(0<=nth out x/\nth out x<=(r:Int)+1)
 top:(a=0/\b=0)->∀x,x<n->nth out x<=(r:Int)
 zero:0<=nth out s
 rch:∀x,x<n->0<=nth out x->Rch J n s x
 lev:∀x,x<n->0<nth out x->∃y,y<n/\nth out y=nth out x-1
 cls:∀x y,x<n->y<n->0<=nth out x->(nth out x<(r:Int)\/(nth out x=(r:Int)/\(x<a\/(x=a/\y<b))))->J x y=true->0<=nth out y
theorem jzI {J:Nat->Nat->Bool} {n s r a b:Nat} {out:List Int} (B:s<n) (t:a<n) (u:b<n) (h:jxf J n s r a b out):jxf J n s r a (b+1) (U.jcQ J r a out b):=by
 unfold U.jcQ
 split
 .rename_i q;obtain⟨c1,c2,v⟩:=q;have p:b<out.length:=(by rw[h.len];exact u);have c:∀j,nth (out.set b ((r:Int)+1)) j=if b=j then(r:Int)+1 else nth out j:=fun j=>L.nth_set p
  have o:b≠a:=fun e=>by subst e;omega
  refine⟨by simpa using h.len,fun x g=> ?_,fun e=>by omega,?_,fun x g f=> ?_,fun x g f=> ?_,fun x y g k f d l=> ?_⟩
  .rw[c];split
   .right;omega
   .exact h.val x g
  .rw[c];split
   .omega
   .exact h.zero
  .rw[c] at f
   split at f
   .rename_i e;subst e;exact .step (h.rch a t (by omega)) u v
   .exact h.rch x g f
  .rw[c] at f⊢
   split at f
   .rename_i e;subst e;rw[if_pos rfl];exact⟨a,t,by rw[c,if_neg o];omega⟩
   .rename_i e;rw[if_neg e];obtain⟨y,k,w⟩:=h.lev x g f;refine⟨y,k,?_⟩;rw[c,if_neg (fun e=>by subst e;omega)];exact w
  .rw[c] at f d⊢
   split
   .omega
   .rename_i A
    split at f
    .rename_i e;rw[if_pos e] at d;omega
    .rename_i e;rw[if_neg e] at d;refine h.cls x y g k f ?_ l;rcases d with d|⟨d,i|⟨i,z⟩⟩
     .exact .inl d
     .exact .inr ⟨d,.inl i⟩
     .exact .inr ⟨d,.inr ⟨i,by omega⟩⟩
 .rename_i q;refine⟨h.len,h.val,fun e=>by omega,h.zero,h.rch,h.lev,fun x y g k f d l=> ?_⟩;rcases d with d|⟨d,i|⟨i,z⟩⟩
  .exact h.cls x y g k f (.inl d) l
  .exact h.cls x y g k f (.inr ⟨d,.inl i⟩) l
  .by_cases e:y=b
   .subst e;subst i;rcases Int.lt_or_le (nth out y) 0 with m|m
    .exact absurd ⟨d,m,l⟩ q
    .exact m
   .exact h.cls x y g k f (.inr ⟨d,.inr ⟨i,by omega⟩⟩) l
theorem jC1 {J:Nat->Nat->Bool} {n s r a:Nat} {out:List Int} (c:s<n) (b:a<n) (h:jxf J n s r a 0 out):∀k,k<=n->jxf J n s r a k (U.kJ J r a out k)
 |0,_=>h
 |k+1,hk=>by
  have:=jzI c b (show k<n by omega) (jC1 c b h k (by omega))
  unfold U.kJ at this⊢
  rw[jHn,jHh];exact this
theorem jEj {J:Nat->Nat->Bool} {n s r a:Nat} {out:List Int} (k:0<n) (h:jxf J n s r a n out):jxf J n s r (a+1) 0 out:=by
 refine⟨h.len,h.val,fun e=>by omega,h.zero,h.rch,h.lev,fun x y i c d b g=>h.cls x y i c d ?_ g⟩;rcases b with b|⟨b,f|⟨f,j⟩⟩
 .exact .inl b
 .by_cases e:x=a
  .exact .inr ⟨b,.inr ⟨e,c⟩⟩
  .exact .inr ⟨b,.inl (by omega)⟩
 .omega
theorem jC2 {J:Nat->Nat->Bool} {n s r:Nat} {out:List Int} (a:s<n) (h:jxf J n s r 0 0 out):∀k,k<=n->jxf J n s r k 0 (U.kk J n r out k)
 |0,_=>h
 |k+1,hk=>by
  have:=jEj (by omega) (jC1 a (show k<n by omega) (jC2 a h k (by omega)) n (jGY _))
  unfold U.kk at this⊢
  rw[jHn,jHh];exact this
theorem jEi {J:Nat->Nat->Bool} {n s r:Nat} {out:List Int} (h:jxf J n s r n 0 out):jxf J n s (r+1) 0 0 out:=by
 refine⟨h.len,fun x a=> ?_,fun _ x a=> ?_,h.zero,h.rch,h.lev,fun x y a j f b i=>h.cls x y a j f ?_ i⟩
 .rcases h.val x a with e|⟨c,d⟩
  .exact .inl e
  .exact .inr ⟨c,by omega⟩
 .rcases h.val x a with e|⟨c,d⟩<;>omega
 .rcases b with b|⟨b,g|⟨g,k⟩⟩
  .by_cases e:nth out x=(r:Int)
   .exact .inr ⟨e,.inl a⟩
   .exact .inl (by omega)
  .omega
  .omega
theorem jC0 {J:Nat->Nat->Bool} {n s:Nat} (c:s<n):∀k,jxf J n s k 0 0 (U.zm J n s k)
 |0=>by
  have hi:∀x,x<n->nth (U.zm J n s 0) x=if s=x then 0 else-1:=fun x a=>jkC c a
  refine⟨jen n s,fun x a=> ?_,fun _ x a=> ?_,by rw[hi s c,if_pos rfl];omega,fun x a b=> ?_,fun x a b=> ?_,fun x y a g b f d=> ?_⟩
  .rw[hi x a];split<;>simp
  .rw[hi x a];split<;>simp
  .rw[hi x a] at b
   split at b
   .rename_i e;subst e;exact .base
   .omega
  .rw[hi x a] at b;split at b<;>omega
  .omega
 |k+1=>by
  have:=jEi (jC2 c (jC0 (J:=J) c k) n (jGY _))
  unfold U.zm at this⊢
  rw[jHn,jHh];exact this
theorem jy2 {J:Nat->Nat->Bool} {n s r a b:Nat} {out:List Int} (h:jxf J n s r a b out):∀(k:Nat) x,x<n->nth out x=(k:Int)->∀j,j<=k->∃y,y<n/\nth out y=(j:Int)
 |0,x,c,e,j,f=>⟨x,c,by rw[e];omega⟩
 |k+1,x,c,e,j,f=>by
  by_cases g:j=k+1
  .exact⟨x,c,by rw[e];omega⟩
  .obtain⟨y,i,d⟩:=h.lev x c (by omega)
   exact jy2 h k y i (by rw[d];omega) j (by omega)
theorem jFG {J:Nat->Nat->Bool} {n s x:Nat} (o:s<n) (u:x<n):nth (U.zm J n s n) x<0↔¬Rch J n s x:=by
 have h:=jC0 (J:=J) o n;have i:∀y,y<n->nth (U.zm J n s n) y<(n:Int):=by
  intro y p;have c:=h.top ⟨rfl,rfl⟩ y p;rcases Int.lt_or_le (nth (U.zm J n s n) y) (n:Int) with l|l
  .exact l
  .exfalso;have e:nth (U.zm J n s n) y=(n:Int):=(by omega);have d:=jy2 h n y p e;have:=L.nodup_len ((List.range (n+1)).map (fun(j:Nat)=>(j:Int))) (U.zm J n s n) (List.Pairwise.map _ (fun a b f=>by intro A;exact f (by omega)) List.nodup_range) (fun z v=>by
    obtain⟨j,g,rfl⟩:=jHm.1 v;obtain⟨w,t,q⟩:=d j (by have:=jG4.1 g;omega);rw[<-q];exact L.mem_nth (by rw[h.len];exact t))
   rw[h.len] at this;simp at this;omega
 constructor
 .intro B k;have:=k.closed (S:=fun y=>0<=nth (U.zm J n s n) y) o h.zero (fun a b m c r g=>h.cls a b m r c (.inl (i a m)) g);have this:0<=nth (U.zm J n s n) x:=this;omega
 .intro k;rcases Int.lt_or_le (nth (U.zm J n s n) x) 0 with c|c
  .exact c
  .exact absurd (h.rch x u c) k
def jqk (out:List Int):Nat:=out.countP (fun z=>decide (z<0))
theorem jnX:∀{out:List Int} {b:Nat} {v:Int},b<out.length->nth out b<0->0<=v->jqk (out.set b v)+1=jqk out
 |[],b,v,h,_,_=>by simp at h
 |z::r,0,v,_,a,h2=>by
  have a:z<0:=a
  unfold jqk
  rw[List.set_cons_zero,jIo,jIo,if_neg (by simpa using h2),if_pos (by simpa using a)]
 |z::r,b+1,v,h,a,h2=>by
  have:=jnX (out:=r) (b:=b) (v:=v) (by simpa using h) a h2
  unfold jqk at this⊢
  rw[List.set_cons_succ,jIo,jIo]
  omega
structure jGA (J:Nat->Nat->Bool) (n s:Nat) (ex:Nat->Nat->Prop) (x:List Int×List Int):Prop where
 len:x.1.length=n
 low:∀y,y<n->-1<=nth x.1 y/\nth x.1 y<=(n:Int)*2
 zero:0<=nth x.1 s
 rch:∀y,y<n->0<=nth x.1 y->Rch J n s y
 que:∀q,q∈x.2->0<=q/\q<(n:Int)/\0<=nth x.1 q.toNat
 cls:∀y z,y<n->z<n->0<=nth x.1 y->(y:Int)∉x.2\/ex y z->J y z=true->0<=nth x.1 z
def jrV (n:Nat) (x:List Int×List Int):Prop:=∀y,y<n->nth x.1 y+(jqk x.1:Int)<=(n:Int)-1
theorem jmJ (J:Nat->Nat->Bool) (q:Nat) (x:List Int×List Int) (k:Nat):U.jf8 J q x (k+1)=U.jf7 J q (U.jf8 J q x k) k:=by
 unfold U.jf8;rw[jHn,jHh];rfl
structure InI (J:Nat->Nat->Bool) (n s q k:Nat) (x0 x:List Int×List Int):Prop where
 i:jGA J n s (fun y z=>y=q/\z<k) x
 le:jrV n x
 mu:jqk x.1+x.2.length=jqk x0.1+x0.2.length
 pre:∃l,x.2=x0.2++l
 keep:∀y,y<n->0<=nth x0.1 y->nth x.1 y=nth x0.1 y
theorem jEa {J:Nat->Nat->Bool} {n s q k:Nat} {x0 x:List Int×List Int} (M:s<n) (p:q<n) (w:0<=nth x0.1 q) (hk:k<n) (h:InI J n s q k x0 x):InI J n s q (k+1) x0 (U.jf7 J q x k):=by
 have G:nth x.1 q=nth x0.1 q:=h.keep q p w;unfold U.jf7
 split
 .rename_i t;obtain⟨c1,c2⟩:=t;have m:k<x.1.length:=(by rw[h.i.len];exact hk);have b:∀j,nth (x.1.set k (nth x.1 q+1)) j=if k=j then nth x.1 q+1 else nth x.1 j:=fun j=>L.nth_set m
  have E:=jnX (v:=nth x.1 q+1) m c1 (by omega);have F:=h.le q p;have u:k≠q:=fun e=>by subst e;omega
  obtain⟨l,C⟩:=h.pre;refine⟨⟨by simpa using h.i.len,fun y d=> ?_,?_,fun y d c=> ?_,fun z f=> ?_,fun y z d f c a g=> ?_⟩,fun y d=> ?_,?_,⟨l++[(k:Int)],by simp only[C,jHf]⟩,fun y d c=> ?_⟩
  .simp only;rw[b];split
   .have:=h.i.low q p;omega
   .exact h.i.low y d
  .simp only;rw[b];split
   .omega
   .exact h.i.zero
  .simp only at c⊢;rw[b] at c
   split at c
   .rename_i e;subst e;exact .step (h.i.rch q p (by omega)) hk c2
   .exact h.i.rch y d c
  .simp only at f⊢;rcases jG5.1 f with f|f
   .obtain⟨H,I,K⟩:=h.i.que z f;refine⟨H,I,?_⟩;rw[b];split
    .omega
    .exact K
   .simp at f;subst f;refine⟨by omega,by omega,?_⟩;rw[jG1,b,if_pos rfl];omega
  .simp only at c a⊢;rw[b] at c⊢
   split
   .omega
   .rename_i B;by_cases e:k=y
    .subst e;rcases a with a|⟨a,_⟩
     .exact absurd (jGU _ (by simp)) a
     .exact absurd a u
    .rw[if_neg e] at c;refine h.i.cls y z d f c ?_ g;rcases a with a|⟨o,A⟩
     .exact .inl (fun D=>a (jGV _ D))
     .exact .inr ⟨o,by omega⟩
  .simp only;rw[b];split
   .omega
   .have:=h.le y d;omega
  .have:=h.mu;simp only[jHk,jHy,jHM];omega
  .have:=h.keep y d c;simp only;rw[b,if_neg (fun e=>by subst e;omega)];exact this
 .rename_i t;refine⟨⟨h.i.len,h.i.low,h.i.zero,h.i.rch,h.i.que,fun y z d f c a g=> ?_⟩,h.le,h.mu,h.pre,h.keep⟩;rcases a with a|⟨o,A⟩
  .exact h.i.cls y z d f c (.inl a) g
  .by_cases e:z=k
   .subst e;subst o;rcases Int.lt_or_le (nth x.1 z) 0 with r|r
    .exact absurd ⟨r,g⟩ t
    .exact r
   .exact h.i.cls y z d f c (.inr ⟨o,by omega⟩) g
theorem jzh {J:Nat->Nat->Bool} {n s q:Nat} {x:List Int×List Int} (e:s<n) (d:q<n) (b:0<=nth x.1 q) (hi:jGA J n s (fun _ _=>False) x) (a:jrV n x):∀k,k<=n->InI J n s q k x (U.jf8 J q x k)
 |0,_=>⟨⟨hi.len,hi.low,hi.zero,hi.rch,hi.que,fun y z i j f c g=>hi.cls y z i j f (by rcases c with h|⟨_,h⟩;exact .inl h;omega) g⟩,a,rfl,⟨[],by simp[U.jf8]⟩,fun _ _ _=>rfl⟩
 |k+1,hk=>by rw[jmJ];exact jEa e d b (by omega) (jzh e d b hi a k (by omega))
structure jE1 (J:Nat->Nat->Bool) (n s:Nat) (x:List Int×List Int):Prop where
 i:jGA J n s (fun _ _=>False) x
 le:jrV n x
theorem jA2 {J:Nat->Nat->Bool} {n s:Nat} {x:List Int×List Int} (m:s<n) (h:jE1 J n s x):jE1 J n s (U.qk J n x)/\(x.2≠[]->jqk (U.qk J n x).1+(U.qk J n x).2.length+1=jqk x.1+x.2.length):=by
 obtain⟨st,p⟩:=x;cases p with
 |nil=>exact⟨h,fun h=>absurd rfl h⟩
 |cons q r=>
  obtain⟨t,u,o⟩:=h.i.que q (by simp);have hi:=jzh m (q:=q.toNat) (by omega) o h.i h.le n (jGY _);obtain⟨l,d⟩:=hi.pre;have f:(U.qk J n (st,q::r))=((U.jf8 J q.toNat (st,q::r) n).1,r++l):=by
   show((U.jf8 J q.toNat (st,q::r) n).1,(U.jf8 J q.toNat (st,q::r) n).2.drop 1)=_;rw[d];rfl
  rw[f];have b:=hi.mu;rw[d] at b;refine⟨⟨⟨hi.i.len,hi.i.low,hi.i.zero,hi.i.rch,fun z c=>hi.i.que z (by rw[d];simp only at c⊢;exact jG0 _ c),fun y z k c g a j=> ?_⟩,hi.le⟩,fun _=> ?_⟩
  .rcases a with a|a
   .by_cases e:y=q.toNat
    .exact hi.i.cls y z k c g (.inr ⟨e,c⟩) j
    .refine hi.i.cls y z k c g (.inl ?_) j;rw[d];intro b;rcases jGX.1 b with f|b
     .omega
     .exact a b
   .exact a.elim
  .simp only[jHt,jHy] at b⊢;omega
theorem juc {J:Nat->Nat->Bool} {n s:Nat} (f:s<n):jE1 J n s (U.qA J n s 0)/\jqk (U.qA J n s 0).1+(U.qA J n s 0).2.length=n:=by
 have hi:∀x,x<n->nth (U.wh n s) x=if s=x then 0 else-1:=fun x i=>jkC f i
 have h:jqk (U.wh n s)+1=n:=by
  have:=jnX (out:=List.replicate n (-1:Int)) (b:=s) (v:=0) (by simpa using f) (by rw[L.nth_rep f];decide) (by decide);unfold U.wh;rw[this];unfold jqk;rw[List.countP_replicate];simp
 refine⟨⟨⟨jen n s,fun y d=> ?_,?_,fun y d c=> ?_,fun q g=> ?_,fun y z d k c a j=> ?_⟩,fun y d=> ?_⟩,?_⟩
 .show-1<=nth (U.wh n s) y/\_;rw[show nth (U.qA J n s 0).1 y=_ from hi y d,hi y d];split<;>omega
 .show 0<=nth (U.wh n s) s;rw[hi s f,if_pos rfl];omega
 .have c:0<=nth (U.wh n s) y:=c;rw[hi y d] at c
  split at c
  .rename_i e;subst e;exact .base
  .omega
 .have g:q∈[(s:Int)]:=g;simp at g;subst g;refine⟨by omega,by omega,?_⟩;show 0<=nth (U.wh n s) (s:Int).toNat;rw[jG1,hi s f,if_pos rfl];omega
 .have c:0<=nth (U.wh n s) y:=c;rw[hi y d] at c
  split at c
  .rename_i e;subst e;rcases a with a|a
   .exact absurd (show(s:Int)∈[(s:Int)] by simp) a
   .exact a.elim
  .omega
 .show nth (U.wh n s) y+(jqk (U.wh n s):Int)<=(n:Int)-1;rw[hi y d];split<;>omega
 .show jqk (U.wh n s)+1=n;exact h
theorem jjr {J:Nat->Nat->Bool} {n s:Nat} (b:s<n):∀k,jE1 J n s (U.qA J n s k)/\((U.qA J n s k).2=[]\/jqk (U.qA J n s k).1+(U.qA J n s k).2.length+k=n)
 |0=>⟨(juc b).1,.inr (juc b).2⟩
 |k+1=>by
  obtain⟨d,a⟩:=jjr b k
  obtain⟨f,g⟩:=jA2 b d
  refine⟨f,?_⟩
  by_cases e:(U.qA J n s k).2=[]
  .left
   show(U.qk J n (U.qA J n s k)).2=[]
   unfold U.qk
   split
   .exact e
   .rename_i c;rw[e] at c;cases c
  .right
   have:=g e
   rcases a with a|a
   .exact absurd a e
   .show jqk (U.qk J n (U.qA J n s k)).1+(U.qk J n (U.qA J n s k)).2.length+(k+1)=n
    omega
theorem jED {J:Nat->Nat->Bool} {n s:Nat} (a:s<n):(U.qA J n s (n+1)).2=[]:=by
 rcases(jjr (J:=J) a (n+1)).2 with h|h
 .exact h
 .omega
theorem jCn {J:Nat->Nat->Bool} {n s k:Nat} (h:(U.qA J n s k).2=[]):∀m,k<=m->U.qA J n s m=U.qA J n s k:=by
 intro m d
 induction m with
 |zero=>have:k=0:=by omega
        subst this;rfl
 |succ m c=>
  by_cases e:k=m+1
  .rw[e]
  .have b:=c (by omega);show U.qk J n (U.qA J n s m)=_;rw[b];unfold U.qk
   split
   .rfl
   .rename_i a;rw[h] at a;cases a
theorem jFT {J:Nat->Nat->Bool} {n s x:Nat} (e:s<n) (l:x<n):nth (U.jFU J n s) x<0↔¬Rch J n s x:=by
 have h:=(jjr (J:=J) e (n+1)).1;have j:=jED (J:=J) e;constructor
 .intro m d;have:=d.closed (S:=fun y=>0<=nth (U.jFU J n s) y) e h.i.zero (fun a b f c g k=>h.i.cls a b f g c (.inl (by rw[j];simp)) k);have this:0<=nth (U.jFU J n s) x:=this;omega
 .intro d;rcases Int.lt_or_le (nth (U.jFU J n s) x) 0 with c|c
  .exact c
  .exact absurd (h.i.rch x l c) d
theorem jEh {J:Nat->Nat->Bool} {n a b:Nat} (e:∀x y,J x y=J y x) (c:a<n) (d:b<n):nth (U.zm J n a n) b<0↔nth (U.jFU J n b) a<0:=by
 rw[jFG c d,jFT d c];exact not_congr ⟨fun h=>h.symm e c,fun h=>h.symm e d⟩
end Go.X
namespace Go.X
namespace U
def jal {α:Type} (p:α->Bool) (l:List α):Int:=match l.findIdx? p with|some i=>(i:Int)|none=> -1
def jb {α:Type} (F:α×Unit->Bool×Unit) (g:α):Bool:=(F (g,())).1
end U
def gfb (t:Ty) (σ:St) (s:Nat):(Ty.st [t]).Data->(Ty.st [.bool]).Data:=gfn [t] [.bool] σ s
theorem wZ:∀(l:List Prop) {k:Prop},U.jD l->k->asks l k
 |[],_,_,hk=>hk
 |_::r,_,h,hk=>⟨h.1,wZ r h.2 hk⟩
theorem w7 {α:Type} [Inhabited α] {l:List α} {p:α->Bool} {i:Nat} (h:i<l.length) (a:∀b:Nat,b<i->p (nth l b)=false) (c:p (nth l i)=true):U.jal p l=i:=by
 have:l.findIdx? p=some i:=by
  rw[List.findIdx?_eq_some_iff_getElem];refine⟨h,by rw[<-L.nth_lt h];exact c,fun j d=> ?_⟩;have:=a j d;rw[L.nth_lt (by omega)] at this;simp[this]
 unfold U.jal;rw[this]
theorem kN {α:Type} [Inhabited α] {l:List α} {p:α->Bool} {i:Nat} (h:l.length<=i) (a:∀b:Nat,b<i->p (nth l b)=false):U.jal p l= -1:=by
 have:l.findIdx? p=none:=by
  rw[List.findIdx?_eq_none_iff];intro x c;obtain⟨k,hk,rfl⟩:=L.mem_iff.1 c;exact a k (by omega)
 unfold U.jal;rw[this]
theorem jcf {α:Type} (p:α->Bool) (l:List α):decide (0<=U.jal p l)=l.any p:=by
 rw[jHs];unfold U.jal;simp only[decide_eq_true_eq]
 split
 .rename_i i e;rw[List.findIdx?_eq_some_iff_getElem] at e;obtain⟨h,a,_⟩:=e;exact⟨fun _=>jHG.2 ⟨_,List.getElem_mem h,a⟩,fun _=>by omega⟩
 .rename_i e;rw[List.findIdx?_eq_none_iff] at e;refine⟨fun h=>by omega,fun h=> ?_⟩;obtain⟨x,b,a⟩:=jHG.1 h;have:=e x b;exact absurd (a.symm.trans this) (by simp)
theorem jjT {α:Type} (F:α×Unit->Bool×Unit) (l:List α):(!l.any (U.jb fun(x:α×Unit)=>(!U.jb F x.fst,())))=l.all (U.jb F):=by
 induction l with
 |nil=>rfl
 |cons a r b=>
  simp only[List.any_cons,List.all_cons,Bool.not_or,b];have:(!U.jb (fun(x:α×Unit)=>(!U.jb F x.fst,())) a)=U.jb F a:=by
   show(!(!U.jb F a))=_;rw[Bool.not_not]
  rw[this]
end Go.X
namespace Go.X
open Go.Proofs
namespace U
def jfI (s n:Int):Bool:=decide (wF (s/2^n.toNat) 1=1)
def jEX (b:Bool):Int:=if b=true then 1 else 0
def jqf (c:CrD) (f g:Int->Bool) (p:PeD):Bool:=((((((decide (((lv p).length:Int)=la c)&&(lv p).all f)&&ja (fd p) 0 255)&&ja (cl p) 0 255)&&decide (((zF p).length:Int)<=10))&&(zF p).all g)&&ja (fe p) 0 1000)
end U
def jr2:jT:=⟨[.val .int,.val .int,.val .int],[.bool],false,fun _=>[],fun d=>(U.ja d.1 d.2.1 d.2.2.1,())⟩
def jrC:Prop:=∀(d:Int×Int×Int×Unit),(decide (d.2.1<=d.1)&&decide (d.1<=d.2.2.1),())=(U.ja d.1 d.2.1 d.2.2.1,())
def jbH:jT:=⟨[.val (.uint .u64),.val .int],[.bool],false,fun d=>[0<=d.2.1,d.2.1<=64],fun d=>(U.jfI d.1 d.2.1,())⟩
def joQ:Prop:=∀(d:Int×Int×Unit),0<=d.2.1->d.2.1<=64->0<=d.2.1/\d.2.1<=64/\(decide (wF (d.1/(2:Int)^d.2.1.toNat) (1:Int)=1),())=(U.jfI d.1 d.2.1,())
def wA:jT:=⟨[.val (.uint .u64)],[.int],false,fun d=>[BT.Set' d.1],fun d=>(BT.size d.1,())⟩
def joD:Ann:=fun r=>match r with
 |1=>some fun σ=>{X:=Int×Int,sl:=fun x=>[(0,.dat (.uint .u64) x.1),(2,.dat .int x.2)],ob:=fun _=>[],inv:=fun x=>BT.Set' x.1/\x.2+BT.size x.1=BT.size (gd (.uint .u64) σ 0),mu:=fun x=>x.1.toNat}
 |_=>none
def jmW:Prop:=∀(d:Int×Unit),BT.Set' d.1->(∃(x:Int×Int),((d.1=x.1/\0=x.2/\True)/\True)/\BT.Set' x.1/\x.2+BT.size x.1=BT.size d.1)/\∀(x:Int×Int),BT.Set' x.1/\x.2+BT.size x.1=BT.size d.1->(decide (x.1≠0)=true->jw (x.2+1)/\0<=x.1-1/\x.1-1<=18446744073709551615/\∃(a:Int×Int),((wF x.1 (x.1-1)=a.1/\x.2+1=a.2/\True)/\True)/\(BT.Set' a.1/\a.2+BT.size a.1=BT.size d.1)/\a.1.toNat<x.1.toNat)/\(decide (x.1≠0)=false->(x.2,())=(BT.size d.1,()))
def jvr:jT:=⟨[.val .bool],[.int],false,fun _=>[],fun d=>(U.jEX d.1,())⟩
def ju6:Prop:=∀(d:Bool×Unit),(d.1=true->((1:Int),())=(U.jEX d.1,()))/\(d.1=false->((0:Int),())=(U.jEX d.1,()))
def jdO:jT:=⟨[.val (.slice .int),.fn [.int] [.bool]],[.int],false,fun d=>[∀g∈d.1,U.jD (d.2.1.pre (g,()))],fun d=>(U.jal (U.jb (α:=Int) d.2.1.F) d.1,())⟩
def jeA:Ann:=fun r=>match r with
 |2=>some fun σ=>{X:=Nat,sl:=fun i=>[(8,.dat .int (i:Int))],ob:=fun _=>[],inv:=fun i=>i<=(gd (.slice .int) σ 0).length/\∀b:Nat,b<i->U.jb (gfb .int σ 1) (nth (gd (.slice .int) σ 0) b)=false,mu:=fun i=>(gd (.slice .int) σ 0).length-i}
 |_=>none
def jdF:Prop:=∀(d:List Int×FnD [Ty.int] [Ty.bool]×Unit),(∀(g:Int),g∈d.1->U.jD (d.2.1.1 (g,())))->d.1.length<4611686018427387904->(∃(x:Nat),((0=(x:Int)/\True)/\True)/\x<=d.1.length/\∀(b:Nat),b<x->U.jb d.2.1.2 (nth d.1 b)=false)/\∀(x:Nat),(x<=d.1.length/\∀(b:Nat),b<x->U.jb d.2.1.2 (nth d.1 b)=false)->(decide ((x:Int)<(d.1.length:Int))=true->0<=(x:Int)/\(x:Int)<(d.1.length:Int)/\asks (d.2.1.1 (nth d.1 (x:Int).toNat,())) (((d.2.1.2 (nth d.1 (x:Int).toNat,())).1=true->((x:Int),())=(U.jal (U.jb d.2.1.2) d.1,()))/\((d.2.1.2 (nth d.1 (x:Int).toNat,())).1=false->jw ((x:Int)+1)/\∃(a:Nat),(((x:Int)+1=(a:Int)/\True)/\True)/\(a<=d.1.length/\∀(b:Nat),b<a->U.jb d.2.1.2 (nth d.1 b)=false)/\d.1.length-a<d.1.length-x)))/\(decide ((x:Int)<(d.1.length:Int))=false->((-1:Int),())=(U.jal (U.jb d.2.1.2) d.1,()))
def jbm:jT:=⟨[.val (.slice .int),.fn [.int] [.bool]],[.bool],false,fun d=>[∀g∈d.1,U.jD (d.2.1.pre (g,()))],fun d=>(d.1.any (U.jb (α:=Int) d.2.1.F),())⟩
def jbi:Prop:=∀(d:List Int×FnD [Ty.int] [Ty.bool]×Unit),(∀(g:Int),g∈d.1->U.jD (d.2.1.1 (g,())))->(∀(g:Int),g∈d.1->U.jD (d.2.1.1 (g,())))/\(decide (0<=U.jal (U.jb d.2.1.2) d.1),())=(d.1.any (U.jb d.2.1.2),())
def jdP:jT:=⟨[.val (.slice tLw),.fn [tLw] [.bool]],[.int],false,fun d=>[∀g∈d.1,U.jD (d.2.1.pre (g,()))],fun d=>(U.jal (U.jb (α:=LwD) d.2.1.F) d.1,())⟩
def jeB:Ann:=fun r=>match r with
 |2=>some fun σ=>{X:=Nat,sl:=fun i=>[(8,.dat .int (i:Int))],ob:=fun _=>[],inv:=fun i=>i<=(gd (.slice tLw) σ 0).length/\∀b:Nat,b<i->U.jb (gfb tLw σ 1) (nth (gd (.slice tLw) σ 0) b)=false,mu:=fun i=>(gd (.slice tLw) σ 0).length-i}
 |_=>none
def jdG:Prop:=∀(d:List LwD×FnD [tLw] [Ty.bool]×Unit),(∀(g:LwD),g∈d.1->U.jD (d.2.1.1 (g,())))->d.1.length<4611686018427387904->(∃(x:Nat),((0=(x:Int)/\True)/\True)/\x<=d.1.length/\∀(b:Nat),b<x->U.jb d.2.1.2 (nth d.1 b)=false)/\∀(x:Nat),(x<=d.1.length/\∀(b:Nat),b<x->U.jb d.2.1.2 (nth d.1 b)=false)->(decide ((x:Int)<(d.1.length:Int))=true->0<=(x:Int)/\(x:Int)<(d.1.length:Int)/\asks (d.2.1.1 (nth d.1 (x:Int).toNat,())) (((d.2.1.2 (nth d.1 (x:Int).toNat,())).1=true->((x:Int),())=(U.jal (U.jb d.2.1.2) d.1,()))/\((d.2.1.2 (nth d.1 (x:Int).toNat,())).1=false->jw ((x:Int)+1)/\∃(a:Nat),(((x:Int)+1=(a:Int)/\True)/\True)/\(a<=d.1.length/\∀(b:Nat),b<a->U.jb d.2.1.2 (nth d.1 b)=false)/\d.1.length-a<d.1.length-x)))/\(decide ((x:Int)<(d.1.length:Int))=false->((-1:Int),())=(U.jal (U.jb d.2.1.2) d.1,()))
def jbn:jT:=⟨[.val (.slice tLw),.fn [tLw] [.bool]],[.bool],false,fun d=>[∀g∈d.1,U.jD (d.2.1.pre (g,()))],fun d=>(d.1.any (U.jb (α:=LwD) d.2.1.F),())⟩
def jbj:Prop:=∀(d:List LwD×FnD [tLw] [Ty.bool]×Unit),(∀(g:LwD),g∈d.1->U.jD (d.2.1.1 (g,())))->(∀(g:LwD),g∈d.1->U.jD (d.2.1.1 (g,())))/\(decide (0<=U.jal (U.jb d.2.1.2) d.1),())=(d.1.any (U.jb d.2.1.2),())
def jbl:jT:=⟨[.val (.slice tPe),.fn [tPe] [.bool]],[.int],false,fun d=>[∀g∈d.1,U.jD (d.2.1.pre (g,()))],fun d=>(U.jal (U.jb (α:=PeD) d.2.1.F) d.1,())⟩
def jbt:Ann:=fun r=>match r with
 |2=>some fun σ=>{X:=Nat,sl:=fun i=>[(8,.dat .int (i:Int))],ob:=fun _=>[],inv:=fun i=>i<=(gd (.slice tPe) σ 0).length/\∀b:Nat,b<i->U.jb (gfb tPe σ 1) (nth (gd (.slice tPe) σ 0) b)=false,mu:=fun i=>(gd (.slice tPe) σ 0).length-i}
 |_=>none
def jbh:Prop:=∀(d:List PeD×FnD [tPe] [Ty.bool]×Unit),(∀(g:PeD),g∈d.1->U.jD (d.2.1.1 (g,())))->d.1.length<4611686018427387904->(∃(x:Nat),((0=(x:Int)/\True)/\True)/\x<=d.1.length/\∀(b:Nat),b<x->U.jb d.2.1.2 (nth d.1 b)=false)/\∀(x:Nat),(x<=d.1.length/\∀(b:Nat),b<x->U.jb d.2.1.2 (nth d.1 b)=false)->(decide ((x:Int)<(d.1.length:Int))=true->0<=(x:Int)/\(x:Int)<(d.1.length:Int)/\asks (d.2.1.1 (nth d.1 (x:Int).toNat,())) (((d.2.1.2 (nth d.1 (x:Int).toNat,())).1=true->((x:Int),())=(U.jal (U.jb d.2.1.2) d.1,()))/\((d.2.1.2 (nth d.1 (x:Int).toNat,())).1=false->jw ((x:Int)+1)/\∃(a:Nat),(((x:Int)+1=(a:Int)/\True)/\True)/\(a<=d.1.length/\∀(b:Nat),b<a->U.jb d.2.1.2 (nth d.1 b)=false)/\d.1.length-a<d.1.length-x)))/\(decide ((x:Int)<(d.1.length:Int))=false->((-1:Int),())=(U.jal (U.jb d.2.1.2) d.1,()))
def yY:jT:=⟨[.val (.slice tPe),.fn [tPe] [.bool]],[.bool],false,fun d=>[∀g∈d.1,U.jD (d.2.1.pre (g,()))],fun d=>(d.1.any (U.jb (α:=PeD) d.2.1.F),())⟩
def yU:Prop:=∀(d:List PeD×FnD [tPe] [Ty.bool]×Unit),(∀(g:PeD),g∈d.1->U.jD (d.2.1.1 (g,())))->(∀(g:PeD),g∈d.1->U.jD (d.2.1.1 (g,())))/\(decide (0<=U.jal (U.jb d.2.1.2) d.1),())=(d.1.any (U.jb d.2.1.2),())
def jhT:jT:=⟨[.val .int,.rfn [.int] [.bool]],[.bool],false,fun d=>[U.jD (d.2.1.pre (d.1,()))],fun d=>(!(U.jb (α:=Int) d.2.1.F d.1),())⟩
def jhK:Prop:=∀(d:Int×FnD [Ty.int] [Ty.bool]×Unit),U.jD (d.2.1.1 (d.1,()))->asks (d.2.1.1 (d.1,())) ((!(d.2.1.2 (d.1,())).1,())=(!U.jb d.2.1.2 d.1,()))
def jlh:jT:=⟨[.val (.slice .int),.fn [.int] [.bool]],[.bool],false,fun d=>[∀g∈d.1,U.jD (d.2.1.pre (g,()))],fun d=>(d.1.all (U.jb (α:=Int) d.2.1.F),())⟩
def jla:Prop:=∀(d:List Int×FnD [Ty.int] [Ty.bool]×Unit),(∀(g:Int),g∈d.1->U.jD (d.2.1.1 (g,())))->(∀(g:Int),g∈d.1->U.jD [U.jD (d.2.1.1 (g,()))])/\(!d.1.any (U.jb fun(a:Int×Unit)=>(!U.jb d.2.1.2 a.1,())),())=(d.1.all (U.jb d.2.1.2),())
def jhU:jT:=⟨[.val tLw,.rfn [tLw] [.bool]],[.bool],false,fun d=>[U.jD (d.2.1.pre (d.1,()))],fun d=>(!(U.jb (α:=LwD) d.2.1.F d.1),())⟩
def jhL:Prop:=∀(d:LwD×FnD [tLw] [Ty.bool]×Unit),U.jD (d.2.1.1 (d.1,()))->asks (d.2.1.1 (d.1,())) ((!(d.2.1.2 (d.1,())).1,())=(!U.jb d.2.1.2 d.1,()))
def jli:jT:=⟨[.val (.slice tLw),.fn [tLw] [.bool]],[.bool],false,fun d=>[∀g∈d.1,U.jD (d.2.1.pre (g,()))],fun d=>(d.1.all (U.jb (α:=LwD) d.2.1.F),())⟩
def jlb:Prop:=∀(d:List LwD×FnD [tLw] [Ty.bool]×Unit),(∀(g:LwD),g∈d.1->U.jD (d.2.1.1 (g,())))->(∀(g:LwD),g∈d.1->U.jD [U.jD (d.2.1.1 (g,()))])/\(!d.1.any (U.jb fun(a:LwD×Unit)=>(!U.jb d.2.1.2 a.1,())),())=(d.1.all (U.jb d.2.1.2),())
def jdN:jT:=⟨[.val tPe,.rfn [tPe] [.bool]],[.bool],false,fun d=>[U.jD (d.2.1.pre (d.1,()))],fun d=>(!(U.jb (α:=PeD) d.2.1.F d.1),())⟩
def jdD:Prop:=∀(d:PeD×FnD [tPe] [Ty.bool]×Unit),U.jD (d.2.1.1 (d.1,()))->asks (d.2.1.1 (d.1,())) ((!(d.2.1.2 (d.1,())).1,())=(!U.jb d.2.1.2 d.1,()))
def jgs:jT:=⟨[.val (.slice tPe),.fn [tPe] [.bool]],[.bool],false,fun d=>[∀g∈d.1,U.jD (d.2.1.pre (g,()))],fun d=>(d.1.all (U.jb (α:=PeD) d.2.1.F),())⟩
def jgl:Prop:=∀(d:List PeD×FnD [tPe] [Ty.bool]×Unit),(∀(g:PeD),g∈d.1->U.jD (d.2.1.1 (g,())))->(∀(g:PeD),g∈d.1->U.jD [U.jD (d.2.1.1 (g,()))])/\(!d.1.any (U.jb fun(a:PeD×Unit)=>(!U.jb d.2.1.2 a.1,())),())=(d.1.all (U.jb d.2.1.2),())
def jpl:jT:=⟨[.val .int],[.bool],false,fun _=>[],fun d=>(U.ja d.1 0 5,())⟩
def joV:Prop:=∀(d:Int×Unit),(U.ja d.1 (0:Int) (5:Int),())=(U.ja d.1 (0:Int) (5:Int),())
def jpk:jT:=⟨[.val .int],[.bool],false,fun _=>[],fun d=>(U.ja d.1 0 99,())⟩
def joU:Prop:=∀(d:Int×Unit),(U.ja d.1 (0:Int) (99:Int),())=(U.ja d.1 (0:Int) (99:Int),())
def jpj:jT:=⟨[.val tPe,.ref tCr,.rfn [.int] [.bool],.rfn [.int] [.bool]],[.bool],false,fun d=>[∀g∈U.lv d.1,U.jD (d.2.2.1.pre (g,())),∀g∈U.zF d.1,U.jD (d.2.2.2.1.pre (g,()))],fun d=>(U.jqf d.2.1 (U.jb d.2.2.1.F) (U.jb d.2.2.2.1.F) d.1,())⟩
def joT:Prop:=∀(d:PeD×CrD×FnD [Ty.int] [Ty.bool]×FnD [Ty.int] [Ty.bool]×Unit),(∀(g:Int),g∈U.lv d.1->U.jD (d.2.2.1.1 (g,())))->(∀(g:Int),g∈U.zF d.1->U.jD (d.2.2.2.1.1 (g,())))->d.1.1.length<4611686018427387904->(decide ((d.1.1.length:Int)=d.2.1.1)=true->∀(g:Int),g∈d.1.1->U.jD (d.2.2.1.1 (g,())))/\(((decide ((d.1.1.length:Int)=d.2.1.1)&&d.1.1.all (U.jb d.2.2.1.2)&&U.ja d.1.2.1 (0:Int) (255:Int)&&U.ja d.1.2.2.1 (0:Int) (255:Int))=true->d.1.2.2.2.1.length<4611686018427387904)->((decide ((d.1.1.length:Int)=d.2.1.1)&&d.1.1.all (U.jb d.2.2.1.2)&&U.ja d.1.2.1 (0:Int) (255:Int)&&U.ja d.1.2.2.1 (0:Int) (255:Int)&&decide ((d.1.2.2.2.1.length:Int)<=10))=true->∀(g:Int),g∈d.1.2.2.2.1->U.jD (d.2.2.2.1.1 (g,())))/\(decide ((d.1.1.length:Int)=d.2.1.1)&&d.1.1.all (U.jb d.2.2.1.2)&&U.ja d.1.2.1 (0:Int) (255:Int)&&U.ja d.1.2.2.1 (0:Int) (255:Int)&&decide ((d.1.2.2.2.1.length:Int)<=10)&&d.1.2.2.2.1.all (U.jb d.2.2.2.1.2)&&U.ja d.1.2.2.2.2.2.1 (0:Int) (1000:Int),())=(U.jqf d.2.1 (U.jb d.2.2.1.2) (U.jb d.2.2.2.1.2) d.1,()))
def jpi:jT:=⟨[.val tLw],[.bool],false,fun _=>[],fun d=>(U.gO d.1,())⟩
def joS:Prop:=∀(d:LwD×Unit),(U.ja d.1.1 (1:Int) (5:Int)&&U.ja d.1.2.1 (1:Int) (8:Int),())=(U.gO d.1,())
def jph:jT:=⟨[.val .int,.ref tCr],[.bool],false,fun d=>[jw (U.la d.2.1-1)],fun d=>(U.ja d.1 0 (U.la d.2.1-1),())⟩
def joR:Prop:=∀(d:Int×CrD×Unit),jw (U.la d.2.1-1)->jw (d.2.1.1-1)/\(U.ja d.1 (0:Int) (d.2.1.1-1),())=(U.ja d.1 (0:Int) (U.la d.2.1-1),())
def jvs:jT:=⟨[.val tCr,.val tJb],[.int],false,fun _=>[],fun d=>(U.zX d.1 d.2.1,())⟩
abbrev q22_0 (d:CrD×JbD×Unit):=(!U.ja d.2.1.1 (0:Int) (U.la d.1-1)|| !U.ja d.2.1.2.1 (0:Int) (U.la d.1-1)||decide (d.2.1.1=d.2.1.2.1)|| !U.ja d.2.1.2.2.1 (0:Int) (99:Int)|| !U.ja d.2.1.2.2.2.1 (0:Int) (7:Int)|| !U.ja d.2.1.2.2.2.2.1 (0:Int) (3:Int)|| !U.ja d.2.1.2.2.2.2.2.1 (1:Int) (8:Int))
abbrev q22_1 (d:CrD×JbD×Unit):=(8<(d.1.2.1.length:Int))
def ju7:Prop:=∀(d:CrD×JbD×Unit),((!!U.ja d.1.1 (2:Int) (5:Int))=true->d.1.2.1.length<4611686018427387904)->((!(!U.ja d.1.1 (2:Int) (5:Int)||decide (q22_1 d)))=true->∀(g:PeD),g∈d.1.2.1->U.jD [∀(b:Int),b∈U.lv g->U.jD [],∀(b:Int),b∈U.zF g->U.jD []])/\(((!(!U.ja d.1.1 (2:Int) (5:Int)||decide (q22_1 d)|| !d.1.2.1.all (U.jb fun(a:PeD×Unit)=>(U.jqf d.1 (U.jb fun(a:Int×Unit)=>(U.ja a.1 (0:Int) (5:Int),())) (U.jb fun(a:Int×Unit)=>(U.ja a.1 (0:Int) (99:Int),())) a.1,()))))=true->d.1.2.2.1.length<4611686018427387904)->((!(!U.ja d.1.1 (2:Int) (5:Int)||decide (q22_1 d)|| !d.1.2.1.all (U.jb fun(c:PeD×Unit)=>(U.jqf d.1 (U.jb fun(c:Int×Unit)=>(U.ja c.1 (0:Int) (5:Int),())) (U.jb fun(c:Int×Unit)=>(U.ja c.1 (0:Int) (99:Int),())) c.1,()))||decide ((d.1.2.2.1.length:Int)≠4)))=true->∀(g:LwD),g∈d.1.2.2.1->U.jD [])/\((!U.ja d.1.1 (2:Int) (5:Int)||decide (q22_1 d)|| !d.1.2.1.all (U.jb fun(e:PeD×Unit)=>(U.jqf d.1 (U.jb fun(e:Int×Unit)=>(U.ja e.1 (0:Int) (5:Int),())) (U.jb fun(e:Int×Unit)=>(U.ja e.1 (0:Int) (99:Int),())) e.1,()))||decide ((d.1.2.2.1.length:Int)≠4)|| !d.1.2.2.1.all (U.jb fun(h:LwD×Unit)=>(U.gO h.1,())))=true->((30:Int),())=(U.zX d.1 d.2.1,()))/\((!U.ja d.1.1 (2:Int) (5:Int)||decide (q22_1 d)|| !d.1.2.1.all (U.jb fun(f:PeD×Unit)=>(U.jqf d.1 (U.jb fun(f:Int×Unit)=>(U.ja f.1 (0:Int) (5:Int),())) (U.jb fun(f:Int×Unit)=>(U.ja f.1 (0:Int) (99:Int),())) f.1,()))||decide ((d.1.2.2.1.length:Int)≠4)|| !d.1.2.2.1.all (U.jb fun(i:LwD×Unit)=>(U.gO i.1,())))=false->jw (U.la d.1-1)/\((!!U.ja d.2.1.1 (0:Int) (U.la d.1-1))=true->jw (U.la d.1-1))/\((q22_0 d)=true->((31:Int),())=(U.zX d.1 d.2.1,()))/\((q22_0 d)=false->((0:Int),())=(U.zX d.1 d.2.1,()))))
end Go.X
namespace Go.X
open Go.Proofs
theorem jwb:jrC:=by
 intro d;rfl
theorem wY:zk PR 124 jr2:=jU jwb Tryz.func124 kcN koN
theorem jsX:joQ:=by
 intro d a b;exact⟨a,b,rfl⟩
theorem jpZ:zk PR 172 jbH:=jU jsX Tryz.func172 kcN koN
theorem jqy:jmW:=by
 rintro⟨s,⟨⟩⟩ e;refine⟨⟨(s,0),⟨⟨rfl,rfl,trivial⟩,trivial⟩,e,by simp⟩,?_⟩;rintro⟨x,n⟩ ⟨a,b⟩;have a:BT.Set' x:=a;have g:=BT.size_le s;have f:=BT.size_le x;refine⟨fun h=> ?_,fun h=> ?_⟩
 .have h:x≠0:=of_decide_eq_true h;obtain⟨d,i,j⟩:=BT.pred a h;have c:=a;unfold BT.Set' at c;simp only at b⊢;exact⟨L.in64 (by omega) (by omega),by omega,by omega,(wF x (x-1),n+1),⟨⟨rfl,rfl,trivial⟩,trivial⟩,⟨d,(by omega:n+1+BT.size (wF x (x-1))=BT.size s)⟩,(by unfold BT.Set' at d;omega:(wF x (x-1)).toNat<x.toNat)⟩
 .have h:x=0:=(by simpa using h);subst h;simp only[BT.size_zero] at b;simp only at b⊢;rw[show n=BT.size s by omega]
theorem jnM:zk PR 126 wA:=kI joD jqy Tryz.func126 kcN koN
theorem jzl:ju6:=by
 rintro⟨b,⟨⟩⟩;exact⟨fun h=>by simp only at h;subst h;rfl,fun h=>by simp only at h;subst h;rfl⟩
theorem jvP:zk PR 120 jvr:=jU jzl Tryz.func120 kcN koN
theorem jfL:jdF:=by
 rintro⟨l,f,⟨⟩⟩ a g;refine⟨⟨0,⟨⟨rfl,trivial⟩,trivial⟩,jG7 _,fun b c=>by omega⟩,fun i hi=>⟨fun h=> ?_,fun h=> ?_⟩⟩
 .have h:i<l.length:=(by simpa using h);simp only[jG1] at*;refine⟨by omega,by omega,wZ _ (a _ (L.mem_nth h)) ⟨fun c=> ?_,fun c=>⟨L.in64 (by omega) (by omega),i+1,⟨⟨by simp,trivial⟩,trivial⟩,⟨by omega,fun b d=> ?_⟩,by omega⟩⟩⟩
  .rw[w7 (p:=U.jb (α:=Int) f.F) h hi.2 c]
  .by_cases e:b=i
   .subst e;exact c
   .exact hi.2 b (by omega)
 .have h:l.length<=i:=(by simpa using h);rw[kN (p:=U.jb (α:=Int) f.F) h hi.2]
theorem jd2:zk PR 128 jdO:=kI jeA jfL Tryz.func128 kcN koN
theorem jch:jbi:=by
 rintro⟨l,f,⟨⟩⟩ a;refine⟨a,?_⟩;exact congrArg (·,()) (jcf (U.jb (α:=Int) f.F) l)
theorem qz:zk PR 106 jbm:=jU jch Tryz.func106 (kcC jd2 kcN) koN
theorem jfM:jdG:=by
 rintro⟨l,f,⟨⟩⟩ a g;refine⟨⟨0,⟨⟨rfl,trivial⟩,trivial⟩,jG7 _,fun b c=>by omega⟩,fun i hi=>⟨fun h=> ?_,fun h=> ?_⟩⟩
 .have h:i<l.length:=(by simpa using h);simp only[jG1] at*;refine⟨by omega,by omega,wZ _ (a _ (L.mem_nth h)) ⟨fun c=> ?_,fun c=>⟨L.in64 (by omega) (by omega),i+1,⟨⟨by simp,trivial⟩,trivial⟩,⟨by omega,fun b d=> ?_⟩,by omega⟩⟩⟩
  .rw[w7 (p:=U.jb (α:=LwD) f.F) h hi.2 c]
  .by_cases e:b=i
   .subst e;exact c
   .exact hi.2 b (by omega)
 .have h:l.length<=i:=(by simpa using h);rw[kN (p:=U.jb (α:=LwD) f.F) h hi.2]
theorem jd3:zk PR 196 jdP:=kI jeB jfM Tryz.func196 kcN koN
theorem jci:jbj:=by
 rintro⟨l,f,⟨⟩⟩ a;refine⟨a,?_⟩;exact congrArg (·,()) (jcf (U.jb (α:=LwD) f.F) l)
theorem jbp:zk PR 178 jbn:=jU jci Tryz.func178 (kcC jd3 kcN) koN
theorem jcg:jbh:=by
 rintro⟨l,f,⟨⟩⟩ a g;refine⟨⟨0,⟨⟨rfl,trivial⟩,trivial⟩,jG7 _,fun b c=>by omega⟩,fun i hi=>⟨fun h=> ?_,fun h=> ?_⟩⟩
 .have h:i<l.length:=(by simpa using h);simp only[jG1] at*;refine⟨by omega,by omega,wZ _ (a _ (L.mem_nth h)) ⟨fun c=> ?_,fun c=>⟨L.in64 (by omega) (by omega),i+1,⟨⟨by simp,trivial⟩,trivial⟩,⟨by omega,fun b d=> ?_⟩,by omega⟩⟩⟩
  .rw[w7 (p:=U.jb (α:=PeD) f.F) h hi.2 c]
  .by_cases e:b=i
   .subst e;exact c
   .exact hi.2 b (by omega)
 .have h:l.length<=i:=(by simpa using h);rw[kN (p:=U.jb (α:=PeD) f.F) h hi.2]
theorem jbo:zk PR 195 jbl:=kI jbt jcg Tryz.func195 kcN koN
theorem gV:yU:=by
 rintro⟨l,f,⟨⟩⟩ a;refine⟨a,?_⟩;exact congrArg (·,()) (jcf (U.jb (α:=PeD) f.F) l)
theorem y7:zk PR 176 yY:=jU gV Tryz.func176 (kcC jbo kcN) koN
theorem jkj:jhK:=by
 intro d h;exact wZ _ h rfl
theorem jh4:zk PR 175 jhT:=jU jkj Tryz.func175 kcN koN
theorem jn8:jla:=by
 intro d h;exact⟨fun g a=>⟨h g a,trivial⟩,congrArg (·,()) (jjT d.snd.fst.2 d.fst)⟩
theorem jlq:zk PR 132 jlh:=jU jn8 Tryz.func132 (kcC qz (kcC jh4 kcN)) koN
theorem jkk:jhL:=by
 intro d h;exact wZ _ h rfl
theorem jh5:zk PR 179 jhU:=jU jkk Tryz.func179 kcN koN
theorem jn9:jlb:=by
 intro d h;exact⟨fun g a=>⟨h g a,trivial⟩,congrArg (·,()) (jjT d.snd.fst.2 d.fst)⟩
theorem jlr:zk PR 136 jli:=jU jn9 Tryz.func136 (kcC jbp (kcC jh5 kcN)) koN
theorem jfK:jdD:=by
 intro d h;exact wZ _ h rfl
theorem jd1:zk PR 177 jdN:=jU jfK Tryz.func177 kcN koN
theorem jie:jgl:=by
 intro d h;exact⟨fun g a=>⟨h g a,trivial⟩,congrArg (·,()) (jjT d.snd.fst.2 d.fst)⟩
theorem jgJ:zk PR 135 jgs:=jU jie Tryz.func135 (kcC y7 (kcC jd1 kcN)) koN
theorem js2:joV:=fun _=>rfl
theorem jp5:zk PR 129 jpl:=jU js2 Tryz.func129 (kcC wY kcN) koN
theorem js1:joU:=fun _=>rfl
theorem jp4:zk PR 130 jpk:=jU js1 Tryz.func130 (kcC wY kcN) koN
theorem js0:joT:=by
 rintro⟨p,c,f,g,⟨⟩⟩ a b _;exact⟨fun _=>a,fun _=>⟨fun _=>b,rfl⟩⟩
theorem jp3:zk PR 131 jpj:=jU js0 Tryz.func131 (kcC wY (kcC jlq kcN)) koN
theorem jsZ:joS:=fun _=>rfl
theorem jp2:zk PR 133 jpi:=jU jsZ Tryz.func133 (kcC wY kcN) koN
theorem jsY:joR:=fun _ h=>⟨h,rfl⟩
theorem jp1:zk PR 134 jph:=jU jsY Tryz.func134 (kcC wY kcN) koN
theorem jDV (c:CrD) (p:PeD):U.jqf c (fun x=>U.ja x 0 5) (fun x=>U.ja x 0 99) p=U.y8 (U.la c) p:=by
 rw[jHs];simp only[U.jqf,U.y8,U.ja,jGW,decide_eq_true_eq];constructor
 .rintro⟨⟨⟨⟨⟨⟨e,f⟩,a⟩,b⟩,k⟩,i⟩,d⟩;exact⟨⟨e,a.1,a.2,b.1,b.2,by omega,d.1,d.2⟩,f,i⟩
 .rintro⟨⟨e,a,g,b,h,k,d,j⟩,f,i⟩;exact⟨⟨⟨⟨⟨⟨e,f⟩,a,g⟩,b,h⟩,by omega⟩,i⟩,d,j⟩
theorem jEp (c:CrD):(((((!U.ja c.1 2 5||decide (8<((c.2.1.length:Nat):Int)))|| !c.2.1.all (U.y8 (U.la c)))||decide (((c.2.2.1.length:Nat):Int)≠4))|| !c.2.2.1.all U.gO))= !U.jj c:=by
 unfold U.jj;show _= !(decide (2<=c.1/\c.1<=5/\c.2.1.length<=8/\c.2.2.1.length=4)&&(c.2.1.all (U.y8 (U.la c))&&c.2.2.1.all U.gO));cases c.2.1.all (U.y8 (U.la c))<;>cases c.2.2.1.all U.gO<;>simp only[U.ja,Bool.not_true,Bool.not_false,Bool.or_true,Bool.or_false,Bool.and_true,Bool.and_false,Bool.true_or]
 rw[jHs];simp only[jH5,jHw,Bool.and_eq_false_iff,decide_eq_true_eq,decide_eq_false_iff_not];omega
theorem jFu (c:CrD) (j:JbD):((((((!U.ja j.1 0 (U.la c-1)|| !U.ja j.2.1 0 (U.la c-1))||decide (j.1=j.2.1))|| !U.ja j.2.2.1 0 99)|| !U.ja j.2.2.2.1 0 7)|| !U.ja j.2.2.2.2.1 0 3)|| !U.ja j.2.2.2.2.2.1 1 8)= !U.jQ c j:=by
 have key:(U.jQ c j=false)↔¬(0<=j.1/\j.1<=U.la c-1/\0<=j.2.1/\j.2.1<=U.la c-1/\j.1≠j.2.1/\0<=j.2.2.1/\j.2.2.1<=99/\0<=j.2.2.2.1/\j.2.2.2.1<=7/\0<=j.2.2.2.2.1/\j.2.2.2.2.1<=3/\1<=j.2.2.2.2.2.1/\j.2.2.2.2.2.1<=8):=by
  unfold U.jQ;exact decide_eq_false_iff_not
 rw[jHs,jHw,key];simp only[U.ja,jH5,jHw,Bool.and_eq_false_iff,decide_eq_true_eq,decide_eq_false_iff_not];omega
theorem jzm:ju7:=by
 unfold ju7 q22_1 q22_0;rintro⟨c,j,⟨⟩⟩;have f:∀p,U.jb (fun(x:PeD×Unit)=>(U.jqf c (U.jb fun(x:Int×Unit)=>(U.ja x.fst 0 5,())) (U.jb fun(x:Int×Unit)=>(U.ja x.fst 0 99,())) x.fst,())) p=U.y8 (U.la c) p:=fun p=>jDV c p
 have i:(U.jb fun(x:LwD×Unit)=>(U.gO x.fst,()))=U.gO:=rfl;have d:=jEp c;have e:=jFu c j;intro _;refine⟨fun _ g _=>⟨fun _ _=>trivial,fun _ _=>trivial,trivial⟩,fun _=> ?_⟩;simp only at d e⊢;rw[funext f,i,d,e];refine⟨fun _ _ _=>trivial,fun h=> ?_,fun h=> ?_⟩
 .have h:U.jj c=false:=(by simpa using h);unfold U.zX;rw[if_pos h]
 .have h:U.jj c=true:=(by simpa using h);have k:2<=U.la c/\U.la c<=5:=by
   unfold U.jj at h;simp only[jGW,decide_eq_true_eq] at h;exact⟨h.1.1,h.1.2.1⟩
  have b:jw (U.la c-1):=L.in64 (by omega) (by omega);refine⟨b,fun _=>b,fun a=> ?_,fun a=> ?_⟩
  .have a:U.jQ c j=false:=(by simpa using a);unfold U.zX;rw[if_neg (by rw[h];simp),if_pos a]
  .have a:U.jQ c j=true:=(by simpa using a);unfold U.zX;rw[if_neg (by rw[h];simp),if_neg (by rw[a];simp)]
theorem jl9:zk PR 108 jvs:=jU jzm Tryz.func108 (kcC wY (kcC jgJ (kcC jlr (kcC jp5 (kcC jp4 (kcC jp3 (kcC jp2 (kcC jp1 kcN)))))))) koN
end Go.X
namespace Go.X
open Go.Proofs
abbrev tTk:Ty:= .st [tCr,tJb,tLw]
abbrev TkD:Type:=CrD×JbD×LwD×Unit
namespace U
def tk (o:Option TkD):TkD:=j7 (Ty.dflt tTk) o
def tc (t:TkD):CrD:=t.1
def tj (t:TkD):JbD:=t.2.1
def tl (t:TkD):LwD:=t.2.2.1
def jl8 (c:CrD) (j:JbD):Option TkD:=if zX c j=0 then some (c,j,yA c j,()) else none
def yc (t:TkD):Prop:=jj (tc t)=true/\jQ (tc t) (tj t)=true/\tl t=yA (tc t) (tj t)
def jvn (a b c:Bool):Int:=jEX a+2*jEX b+4*jEX c
def kG (t:TkD) (p:PeD):Int:=jvn (vX p (jAE (tj t))) (!jG (fd p) (jsU (tj t))) (!jG (cl p) (jru (tj t)))
def jfE (t:TkD) (p:PeD):List (Int×Int):=[(0,jEX (!vX p (jAE (tj t)))),(1,qO (fd p/2^(jsU (tj t)).toNat) 1),(2,qO (cl p/2^(jru (tj t)).toNat) 1)]
def vk (all left:List (Int×Int)) (out:Int):Prop:=BT.Set' out/\left.Nodup/\(∀e∈left,e∈all)/\∀p:Nat,BT.has out p=true↔∃e∈all,e∉left/\e.2=0/\e.1.toNat=p
def wo (t:TkD) (s:Int) (n:Nat):List (Int×PeD×Unit):=((List.range n).filter (fun(i:Nat)=>jfI s (i:Int))).map (fun(i:Nat)=>((i:Int),nth (je (tc t)) i,()))
def jhv (t:TkD) (s:Int):List (Int×PeD×Unit):=wo t s (je (tc t)).length
def jn (t:TkD) (a b:Int) (x:Int×PeD×Unit):Bool:=decide (jxc (tl t)<=min (nth (lv x.2.1) a.toNat) (nth (lv x.2.1) b.toNat))
def jcb (t:TkD) (s a b:Int):Bool:=(jhv t s).any (jn t a b)
def qe (t:TkD) (a b:Int) (q:List (Int×PeD×Unit)):Bool:=match q.getLast? with|some x=>jn t a b x|none=>false
end U
def jjd:jT:=⟨[.val (.slice .int),.val .int],[.int],false,fun _=>[],fun d=>(U.jal (fun x=>decide (x=d.2.1)) d.1,())⟩
def jk1:Ann:=fun r=>match r with
 |2=>some fun σ=>{X:=Nat,sl:=fun i=>[(8,.dat .int (i:Int))],ob:=fun _=>[],inv:=fun i=>i<=(gd (.slice .int) σ 0).length/\∀b:Nat,b<i->decide (nth (gd (.slice .int) σ 0) b=gd .int σ 1)=false,mu:=fun i=>(gd (.slice .int) σ 0).length-i}
 |_=>none
def jiU:Prop:=∀(d:List Int×Int×Unit),d.1.length<4611686018427387904->(∃(x:Nat),((0=(x:Int)/\True)/\True)/\x<=d.1.length/\∀(b:Nat),b<x->decide (nth d.1 b=d.2.1)=false)/\∀(x:Nat),(x<=d.1.length/\∀(b:Nat),b<x->decide (nth d.1 b=d.2.1)=false)->(decide ((x:Int)<(d.1.length:Int))=true->0<=(x:Int)/\(x:Int)<(d.1.length:Int)/\(decide (d.2.1=nth d.1 (x:Int).toNat)=true->((x:Int),())=(U.jal (fun(c:Int)=>decide (c=d.2.1)) d.1,()))/\(decide (d.2.1=nth d.1 (x:Int).toNat)=false->jw ((x:Int)+1)/\∃(a:Nat),(((x:Int)+1=(a:Int)/\True)/\True)/\(a<=d.1.length/\∀(b:Nat),b<a->decide (nth d.1 b=d.2.1)=false)/\d.1.length-a<d.1.length-x))/\(decide ((x:Int)<(d.1.length:Int))=false->((-1:Int),())=(U.jal (fun(e:Int)=>decide (e=d.2.1)) d.1,()))
def je0:jT:=⟨[.val (.slice .int),.val .int],[.bool],false,fun _=>[],fun d=>(d.1.any (fun x=>decide (x=d.2.1)),())⟩
def jeO:Prop:=∀(d:List Int×Int×Unit),(decide (0<=U.jal (fun(a:Int)=>decide (a=d.2.1)) d.1),())=(d.1.any fun(b:Int)=>decide (b=d.2.1),())
def jxM:jT:=⟨[.val tCr,.val tJb],[.ptr tTk,.int],false,fun _=>[],fun d=>(U.jl8 d.1 d.2.1,U.zX d.1 d.2.1,())⟩
def jxn:Prop:=∀(d:CrD×JbD×Unit),(decide (U.zX d.1 d.2.1≠0)=true->(none,U.zX d.1 d.2.1,())=(U.jl8 d.1 d.2.1,U.zX d.1 d.2.1,()))/\(decide (U.zX d.1 d.2.1≠0)=false->0<=d.2.1.2.2.2.2.1/\d.2.1.2.2.2.2.1<(d.1.2.2.1.length:Int)/\(some (d.1,d.2.1,nth d.1.2.2.1 d.2.1.2.2.2.2.1.toNat,()),(0:Int),())=(U.jl8 d.1 d.2.1,U.zX d.1 d.2.1,()))
def LM (d:PD [.ref (.ptr tTk),.ref (.uint .u64)]) (xs:List (Ty.st [.int,tPe]).Data):Prop:=xs=U.jhv (U.tk d.1) d.2.1
def jw4 (d:PD [.ref (.ptr tTk),.ref (.uint .u64)]):jiM (YS [.int,tPe]):=fun r=>match r with
 |1=>some fun σ ys=>{X:=Nat,sl:=fun i=>[(12,.dat .int (i:Int))],ob:=fun _=>[],ys:=fun i=>(U.wo (U.tk d.1) d.2.1 i,true),inv:=fun i=>i<=(U.je (U.tc (U.tk d.1))).length,mu:=fun i=>(U.je (U.tc (U.tk d.1))).length-i}
 |_=>none
abbrev q26_0 (d:Option (CrD×JbD×LwD×Unit)×Int×Unit):=(j7 (((0:Int),[],[],()),((0:Int),(0:Int),(0:Int),(0:Int),(0:Int),(0:Int),()),((0:Int),(0:Int),false,()),()) d.1)
abbrev q26_1 (d:Option (CrD×JbD×LwD×Unit)×Int×Unit):=(U.je (U.tc (U.tk d.1)))
abbrev q26_2 (x:Nat)(d:Option (CrD×JbD×LwD×Unit)×Int×Unit):=((x:Int),nth (q26_0 d).1.2.1 (x:Int).toNat,())
abbrev q26_3 (x:Nat)(a:Nat):=(((x:Int)+1=(a:Int)/\True)/\True)
def vT:Prop:=∀(d:Option (CrD×JbD×LwD×Unit)×Int×Unit) (l:Nat),d.1.isSome=true->(q26_1 d).length<=60->d.1.isSome=true/\((q26_0 d).1.2.1.length<4611686018427387904->(∃(x:Nat),((0=(x:Int)/\True)/\True)/\([],true)=(U.wo (U.tk d.1) d.2.1 x,true)/\x<=(q26_1 d).length)/\∀(x:Nat),x<=(q26_1 d).length->(decide ((x:Int)<(↑(q26_0 d).1.2.1.length:Int))=true->0<=(x:Int)/\(x:Int)<(↑(q26_0 d).1.2.1.length:Int)/\0<=(x:Int)/\(x:Int)<=64/\(U.jfI d.2.1 (x:Int)=true->l=l/\(∃(rest:List (Int×PeD×Unit)),U.wo (U.tk d.1) d.2.1 x++[(q26_2 x d)]++rest=U.jhv (U.tk d.1) d.2.1)/\(((U.jfI d.2.1 (x:Int)&& !true)=true->true=true->U.wo (U.tk d.1) d.2.1 x++[(q26_2 x d)]=U.jhv (U.tk d.1) d.2.1)/\((U.jfI d.2.1 (x:Int)&& !true)=false->jw ((x:Int)+1)/\∃(a:Nat),(q26_3 x a)/\(U.wo (U.tk d.1) d.2.1 x++[(q26_2 x d)],true)=(U.wo (U.tk d.1) d.2.1 a,true)/\a<=(q26_1 d).length/\(q26_1 d).length-a<(q26_1 d).length-x))/\((U.jfI d.2.1 (x:Int)&& !false)=true->false=true->U.wo (U.tk d.1) d.2.1 x++[(q26_2 x d)]=U.jhv (U.tk d.1) d.2.1)/\((U.jfI d.2.1 (x:Int)&& !false)=false->jw ((x:Int)+1)/\∃(a:Nat),(q26_3 x a)/\(U.wo (U.tk d.1) d.2.1 x++[(q26_2 x d)],false)=(U.wo (U.tk d.1) d.2.1 a,true)/\a<=(q26_1 d).length/\(q26_1 d).length-a<(q26_1 d).length-x))/\(U.jfI d.2.1 (x:Int)=false->((U.jfI d.2.1 (x:Int)&& !false)=true->true=true->U.wo (U.tk d.1) d.2.1 x=U.jhv (U.tk d.1) d.2.1)/\((U.jfI d.2.1 (x:Int)&& !false)=false->jw ((x:Int)+1)/\∃(a:Nat),(q26_3 x a)/\(U.wo (U.tk d.1) d.2.1 x,true)=(U.wo (U.tk d.1) d.2.1 a,true)/\a<=(q26_1 d).length/\(q26_1 d).length-a<(q26_1 d).length-x)))/\(decide ((x:Int)<(↑(q26_0 d).1.2.1.length:Int))=false->true=true->U.wo (U.tk d.1) d.2.1 x=U.jhv (U.tk d.1) d.2.1))
theorem jbg:(jAZ (ctx 28 [(172,jbH)] []) (zM Tryz.f171) [.int,tPe] [.ref (.ptr tTk),.ref (.uint .u64)] LM (fun d=>[d.1.isSome=true,(U.je (U.tc (U.tk d.1))).length<=60]) (fun d _=>jw4 d) (fun d l=>hkY [.int,tPe] l [24] (fun q=>∃rest,LM d (q++rest)) (fun _=>none)))=vT:=by kernel_rfl
def jH:jeH:=⟨[.val (.ptr tTk),.val (.uint .u64)],fun _=>[],171,[.ptr tTk,.uint .u64],fun d=>(d.1,d.2.1,())⟩
def gj:Prop:=∀(d:Option (CrD×JbD×LwD×Unit)×Int×Unit),d=d
theorem jcY:(jAb (ctx 6 [] []) (fun _=>none) Tryz.f125 (zM Tryz.f125) jH)=gj:=by kernel_rfl
def juv (sv:SV):Option (Prop×(List (Ty.st [.int,tPe]).Data->Prop)):=match sv with
 | .clo 171 [.ep b t,.ep c s]=>(match zn b (.ptr tTk) t,zn c (.uint .u64) s with
  |some a,some d=>some ((a.isSome=true/\(U.je (U.tc (U.tk a))).length<=60),fun xs=>xs=U.jhv (U.tk a) d)
  |_,_=>none)
 |_=>none
def jya:jrk [.int,tPe]:={ps:=[.ref (.ptr tTk),.ref .int,.ref .int,.own (.box 4 [.dat .bool]) true],slots:=[4,6,7,8],dst:=34,pre:=fun _=>[],G:=fun d q=>((d.2.2.2.1.1||U.qe (U.tk d.1) d.2.1 d.2.2.1 q,()),()),stop:=fun d q=>U.qe (U.tk d.1) d.2.1 d.2.2.1 q,seq:=juv}
def ji2:Nat->Option ((ts:List Ty)×jrk ts):=fun r=>match r with
 |3=>some ⟨[.int,tPe],jya⟩
 |_=>none
def ja3:jT:=⟨[.val (.ptr tTk),.val (.uint .u64),.val .int,.val .int],[.bool],false,
 fun d=>[d.1.isSome=true,U.yc (U.tk d.1),0<=d.2.2.1,d.2.2.1<U.la (U.tc (U.tk d.1)),0<=d.2.2.2.1,d.2.2.2.1<U.la (U.tc (U.tk d.1))],fun d=>(U.jcb (U.tk d.1) d.2.1 d.2.2.1 d.2.2.2.1,())⟩
abbrev q28_0 (d:Option (CrD×JbD×LwD×Unit)×Int×Int×Int×Unit)(x:Int×PeD×Unit):=((j7 (((0:Int),[],[],()),((0:Int),(0:Int),(0:Int),(0:Int),(0:Int),(0:Int),()),((0:Int),(0:Int),false,()),()) d.1).2.2.1.1<=min (nth x.2.1.1 d.2.2.1.toNat) (nth x.2.1.1 d.2.2.2.1.toNat))
def jaZ:Prop:=∀(d:Option (CrD×JbD×LwD×Unit)×Int×Int×Int×Unit),d.1.isSome=true->U.yc (U.tk d.1)->0<=d.2.2.1->d.2.2.1<U.la (U.tc (U.tk d.1))->0<=d.2.2.2.1->d.2.2.2.1<U.la (U.tc (U.tk d.1))->(d.1.isSome=true/\(U.je (U.tc (U.tk d.1))).length<=60)/\True/\(d.1,d.2.2.1,d.2.2.2.1,(false||U.qe (U.tk d.1) d.2.2.1 d.2.2.2.1 [],()),())=(d.1,d.2.2.1,d.2.2.2.1,(false,()),())/\(∀(q:List (Int×PeD×Unit)) (x:Int×PeD×Unit) (rest:List (Int×PeD×Unit)),q++x::rest=U.jhv (U.tk d.1) d.2.1->we (fun(a:List (Int×PeD×Unit))=>U.qe (U.tk d.1) d.2.2.1 d.2.2.2.1 a) q->0<=d.2.2.1/\d.2.2.1<(x.2.1.1.length:Int)/\0<=d.2.2.2.1/\d.2.2.2.1<(x.2.1.1.length:Int)/\d.1.isSome=true/\(decide (q28_0 d x)=true->U.qe (U.tk d.1) d.2.2.1 d.2.2.2.1 (q++[x])=true/\((true,()),())=((false||U.qe (U.tk d.1) d.2.2.1 d.2.2.2.1 (q++[x]),()),()))/\(decide (q28_0 d x)=false->U.qe (U.tk d.1) d.2.2.1 d.2.2.2.1 (q++[x])=false/\((false||U.qe (U.tk d.1) d.2.2.1 d.2.2.2.1 q,()),())=((false||U.qe (U.tk d.1) d.2.2.1 d.2.2.2.1 (q++[x]),()),())))/\(∀(xs:List (Int×PeD×Unit)),xs=U.jhv (U.tk d.1) d.2.1->we (fun(b:List (Int×PeD×Unit))=>U.qe (U.tk d.1) d.2.2.1 d.2.2.2.1 b) xs->(false,())=(U.jcb (U.tk d.1) d.2.1 d.2.2.1 d.2.2.2.1,()))/\∀(q:List (Int×PeD×Unit)) (x:Int×PeD×Unit) (rest:List (Int×PeD×Unit)),q++x::rest=U.jhv (U.tk d.1) d.2.1->we (fun(c:List (Int×PeD×Unit))=>U.qe (U.tk d.1) d.2.2.1 d.2.2.2.1 c) q->U.qe (U.tk d.1) d.2.2.1 d.2.2.2.1 (q++[x])=true->(false||U.qe (U.tk d.1) d.2.2.1 d.2.2.2.1 (q++[x]),())=(U.jcb (U.tk d.1) d.2.1 d.2.2.1 d.2.2.2.1,())
theorem jdB:(jue (jrw 33 [] [] [(125,jH)] []) ja3 (fun _ _=>none) (hkC (jrw 33 [] [] [(125,jH)] []) (fun _=>none) ji2 [] []) Tryz.f174 (zM Tryz.f174))=jaZ:=by kernel_rfl
end Go.X
namespace Go.X
open Go.Proofs
theorem jlz:jiU:=by
 rintro⟨l,x,⟨⟩⟩ d;refine⟨⟨0,⟨⟨rfl,trivial⟩,trivial⟩,jG7 _,fun b a=>by omega⟩,fun i hi=>⟨fun h=> ?_,fun h=> ?_⟩⟩
 .have h:i<l.length:=(by simpa using h);simp only[jG1] at*;refine⟨by omega,by omega,fun a=> ?_,fun a=>⟨L.in64 (by omega) (by omega),i+1,⟨⟨by simp,trivial⟩,trivial⟩,⟨by omega,fun b c=> ?_⟩,by omega⟩⟩
  .rw[w7 (p:=fun y=>decide (y=x)) h hi.2 (by have:=of_decide_eq_true a;rw[<-this];exact decide_eq_true rfl)]
  .by_cases e:b=i
   .subst e;exact decide_eq_false (fun e=>of_decide_eq_false a e.symm)
   .exact hi.2 b (by omega)
 .have h:l.length<=i:=(by simpa using h);rw[kN (p:=fun y=>decide (y=x)) h hi.2]
theorem jjK:zk PR 98 jjd:=kI jk1 jlz Tryz.func98 kcN koN
theorem jgY:jeO:=by
 rintro⟨l,x,⟨⟩⟩;exact congrArg (·,()) (jcf (fun y=>decide (y=x)) l)
theorem yJ:zk PR 67 je0:=jU jgY Tryz.func67 (kcC jjK kcN) koN
theorem jes {c:CrD} {j:JbD} (h:U.zX c j=0):U.jj c=true/\U.jQ c j=true:=by
 unfold U.zX at h
 split at h
 .omega
 .split at h
  .omega
  .rename_i a b;exact⟨by simpa using a,by simpa using b⟩
theorem jA {c:CrD} (h:U.jj c=true):2<=U.la c/\U.la c<=5/\(U.je c).length<=8/\(U.kX c).length=4/\(∀p∈U.je c,U.y8 (U.la c) p=true)/\∀l∈U.kX c,U.gO l=true:=by
 unfold U.jj at h;simp only[jGW,decide_eq_true_eq,jHg] at h;exact⟨h.1.1,h.1.2.1,h.1.2.2.1,h.1.2.2.2,h.2.1,h.2.2⟩
theorem jcc {c:CrD} {j:JbD} (h:U.jQ c j=true):(0<=U.jrv j/\U.jrv j<U.la c)/\(0<=U.jmp j/\U.jmp j<U.la c)/\U.jrv j≠U.jmp j/\(0<=U.jsU j/\U.jsU j<=7)/\(0<=U.jru j/\U.jru j<=3)/\(1<=U.jBB j/\U.jBB j<=8):=by
 unfold U.jQ at h;have h:=of_decide_eq_true h;obtain⟨d,m,e,n,f,_,_,g,i,k,l,a,b⟩:=h;exact⟨⟨d,by omega⟩,⟨e,by omega⟩,f,⟨g,i⟩,⟨k,l⟩,a,b⟩
theorem jyv {c:CrD} {j:JbD} (h:U.zX c j=0):U.jl8 c j=some (c,j,U.yA c j,())/\U.yc (c,j,U.yA c j,()):=by
 obtain⟨a,b⟩:=jes h;exact⟨by unfold U.jl8;rw[if_pos h],a,b,rfl⟩
theorem jBM:jxn:=by
 rintro⟨c,j,⟨⟩⟩;refine⟨fun h=> ?_,fun h=> ?_⟩
 .have h:U.zX c j≠0:=of_decide_eq_true h;simp only;unfold U.jl8;rw[if_neg h]
 .have h:U.zX c j=0:=(by simpa using h);obtain⟨b,d⟩:=jes h;obtain⟨_,_,_,a,_⟩:=jA b;obtain⟨_,_,_,_,hk,_⟩:=jcc d;have hk:0<=j.2.2.2.2.1/\j.2.2.2.2.1<=3:=hk;have a:c.2.2.1.length=4:=a;refine⟨hk.1,by simp only;omega,?_⟩;simp only;rw[(jyv h).1,h];rfl
theorem jp0:zk PR 94 jxM:=jU jBM Tryz.func94 (kcC jl9 kcN) koN
theorem jgP (t:TkD) (s:Int) (n:Nat):U.wo t s (n+1)=U.wo t s n++(if U.jfI s (n:Int)=true then[((n:Int),nth (U.je (U.tc t)) n,())] else[]):=by
 unfold U.wo;rw[L.range_filter_succ,jHH]
 split<;>simp
theorem jyW (t:TkD) (s:Int) {n m:Nat} (h:n<=m):∃rest,U.wo t s n++rest=U.wo t s m:=by
 induction m with
 |zero=>
  have:n=0:=(by omega);subst this;exact⟨[],by simp⟩
 |succ m b=>
  by_cases e:n=m+1
  .subst e;exact⟨[],by simp⟩
  .obtain⟨r,a⟩:=b (by omega);rw[jgP,<-a];exact⟨r++_,by rw[jHf]⟩
theorem jfJ:vT:=by
 unfold vT q26_3 q26_2 q26_1 q26_0;rintro⟨(_|t),s,⟨⟩⟩ l i e
 .cases i
 have e:(U.je (U.tc t)).length<=60:=e;refine⟨rfl,fun _=>⟨⟨0,⟨⟨rfl,trivial⟩,trivial⟩,rfl,jG7 _⟩,fun x g=> ?_⟩⟩;have g:x<=(U.je (U.tc t)).length:=g;have c:U.tk (some t)=t:=rfl;refine⟨fun h=> ?_,fun h=> ?_⟩
 .have h:x<(U.je (U.tc t)).length:=by
   have:=of_decide_eq_true h;have this:(x:Int)<((U.je (U.tc t)).length:Int):=this;omega
  have j:(x:Int)<((U.je (U.tc t)).length:Int):=(by omega);refine⟨by omega,j,by omega,by omega,fun b=> ?_,fun b=> ?_⟩
  .have d:U.wo t s (x+1)=U.wo t s x++[((x:Int),nth (U.je (U.tc t)) x,())]:=(by rw[jgP,if_pos b]);obtain⟨r,f⟩:=jyW t s (show x+1<=(U.je (U.tc t)).length by omega);refine⟨rfl,⟨r,by rw[d] at f;exact f⟩,⟨fun a=>absurd a (by rw[Bool.not_true,Bool.and_false];simp),fun _=>⟨L.in64 (by omega) (by omega),x+1,⟨⟨by omega,trivial⟩,trivial⟩,?_,(show x+1<=(U.je (U.tc t)).length by omega),(show(U.je (U.tc t)).length-(x+1)<(U.je (U.tc t)).length-x by omega)⟩⟩,
    fun _ a=>(by cases a),fun a=> ?_⟩
   .rw[c,d];rfl
   .rw[Bool.not_false,Bool.and_true] at a;exact absurd b (by simp only at a⊢;rw[a];simp)
  .have d:U.wo t s (x+1)=U.wo t s x:=by
    rw[jgP,if_neg (by simp only at b⊢;rw[b];simp),jHq]
   refine⟨fun a=> ?_,fun _=>⟨L.in64 (by omega) (by omega),x+1,⟨⟨by omega,trivial⟩,trivial⟩,?_,(show x+1<=(U.je (U.tc t)).length by omega),(show(U.je (U.tc t)).length-(x+1)<(U.je (U.tc t)).length-x by omega)⟩⟩
   .rw[Bool.not_false,Bool.and_true] at a;exact absurd a (by simp only at b⊢;rw[b];simp)
   .rw[c,d]
 .have h:(U.je (U.tc t)).length<=x:=by
   have:=of_decide_eq_false h;have this:¬(x:Int)<((U.je (U.tc t)).length:Int):=this;omega
  intro _;rw[show x=(U.je (U.tc t)).length by omega];rfl
theorem jsm {H:Imm} {lb:Array Value} {d:PD [.ref (.ptr tTk),.ref (.uint .u64)]} (g:pvs PR H [.ref (.ptr tTk),.ref (.uint .u64)] lb.toList d) (a:d.1.isSome=true) (b:(U.je (U.tc (U.tk d.1))).length<=60):jCv PR H [.int,tPe] (LM d) (.func (.func 171) #[] lb):=
 jCK (C:=ctx 28 [(172,jbH)] []) (jkM ⟨fun _=>jpZ,trivial⟩ trivial) mixed Tryz.func171 (by kernel_rfl) (by kernel_rfl) (by kernel_rfl) (by kernel_rfl) (by decide) (jbg.mpr jfJ) (fun d l B0 R h c e f=>jFi c f) g ⟨a,b,trivial⟩
theorem jid:gj:=by intro d;rfl
theorem gH:jro PR 125 jH:=jFk (jcY.mpr jid) Tryz.func125 (by kernel_rfl) (by kernel_rfl) (by kernel_rfl) (by kernel_rfl) trivial trivial
theorem jDX:∀(f:Nat) (p:Nat×jeE),jy ([]:List (Nat×Nat×jeE)) f=some p->ROK PR f p.2:=fun _ _ h=>by cases h
theorem jqm {sv:SV} {h:Prop} {L:List (Ty.st [.int,tPe]).Data->Prop} {v:Value} {ρ:Env} (a:juv sv=some (h,L)) (b:h) (g:SV.den PR ρ sv v):jCv PR ρ.H [.int,tPe] L v:=by
 unfold juv at a
 split at a
 case h_2=>cases a
 rename_i o t p s
 split at a
 case h_2=>cases a
 rename_i w u n f;simp only[Option.some.injEq,Prod.mk.injEq] at a;obtain⟨rfl,rfl⟩:=a;obtain⟨e,rfl⟩:=jk n;subst e;obtain⟨i,rfl⟩:=jk f;subst i;simp only[SV.den,SV.denL] at g;obtain⟨lb,rfl,x,r,m,j,y,q,c,k,l⟩:=g;exact jsm (d:=(t,s,())) (by rw[m,c,l];exact⟨j,k,rfl⟩) b.1 b.2
theorem jfC (t:TkD) (a b:Int) (q:List (Int×PeD×Unit)) (x:Int×PeD×Unit):U.qe t a b (q++[x])=U.jn t a b x:=by
 unfold U.qe;rw[List.getLast?_append];simp
theorem jrT {t:TkD} {a b:Int} {q:List (Int×PeD×Unit)} (h:we (fun q=>U.qe t a b q) q):q.any (U.jn t a b)=false:=by
 rw[jHJ];intro x c;obtain⟨u,v,rfl⟩:=List.append_of_mem c;have:=h u x v rfl;simp only[jfC] at this;rw[this];simp
theorem jv4 {t:TkD} {s:Int} {x:Int×PeD×Unit} (h:x∈U.jhv t s):x.2.1∈U.je (U.tc t):=by
 unfold U.jhv U.wo at h;obtain⟨i,hi,rfl⟩:=jHm.1 h;have:=jG4.1 (jHc.1 hi).1;exact L.mem_nth this
theorem jDU {n:Int} {p:PeD} (h:U.y8 n p=true):((U.lv p).length:Int)=n:=by
 unfold U.y8 at h;simp only[jGW,decide_eq_true_eq] at h;exact h.1.1
theorem jkh:jaZ:=by
 unfold jaZ q28_0;rintro⟨(_|t),s,a,b,⟨⟩⟩ r l v f w g
 .cases r
 obtain⟨c1,c2,A⟩:=l;have c1:U.jj (U.tc t)=true:=c1;obtain⟨B,C,D,E,p,F⟩:=jA c1;have k:(U.je (U.tc t)).length<=60:=(by omega);have c:U.tk (some t)=t:=rfl;refine⟨⟨rfl,k⟩,trivial,rfl,fun q x rest i e=> ?_,fun xs j e=> ?_,fun q x rest i e d=> ?_⟩
 .have z:x∈U.jhv t s:=(by rw[c] at i;rw[<-i];simp);have o:=jDU (p _ (jv4 z));have o:((x.2.1.1.length:Nat):Int)=U.la (U.tc t):=o;have f:a<U.la (U.tc t):=f;have g:b<U.la (U.tc t):=g;have m:U.qe t a b q=false:=by
   cases n:q.getLast? with
   |none=>unfold U.qe;rw[n]
   |some y=>
    obtain⟨u,rfl⟩:=List.getLast?_eq_some_iff.1 n;have:=e u y [] rfl;exact this
  refine⟨v,by simp only;omega,w,by simp only;omega,rfl,fun h=> ?_,fun h=> ?_⟩
  .have h:U.jn t a b x=true:=h;have:U.qe t a b (q++[x])=true:=(by rw[jfC];exact h);rw[c];simp only;exact⟨this,by rw[this];rfl⟩
  .have h:U.jn t a b x=false:=h;have:U.qe t a b (q++[x])=false:=(by rw[jfC];exact h);rw[c];simp only;exact⟨this,by rw[this,m]⟩
 .rw[c] at j e;subst j;have:=jrT e;simp only;rw[c];unfold U.jcb;rw[this]
 .rw[c] at i d⊢;simp only at d⊢;rw[d];unfold U.jcb;rw[<-i];rw[jfC] at d;simp[d]
theorem jq2:(jrw 33 [] [] [(125,jH)] []).ok PR:=jtx trivial trivial ⟨gH,trivial⟩ trivial
theorem jh2:zk PR 174 ja3:=
 jyc (body:=zM Tryz.f174) (C:=jrw 33 [] [] [(125,jH)] []) (hk:=hkC (jrw 33 [] [] [(125,jH)] []) (fun _=>none) ji2 [] []) jq2 mixed Tryz.func174 (by kernel_rfl) (by kernel_rfl) (by kernel_rfl) (by decide)
  (fun B=>jmw jq2 mixed (fun k ts rs sv d L v ρ hk c a b=>by
   unfold ji2 at hk
   split at hk
   case h_2=>cases hk
   simp only[Option.some.injEq] at hk
   cases hk
   exact jqm c a b) jDX B) (jdB.mpr jkh)
end Go.X
namespace Go.X
open Go.Proofs
namespace U
def qr (x:Int) (N n:Nat):List Int:=List.replicate n x++List.replicate (N-n) 0
def jrt (t:TkD) (c:Int) (a b:Nat):Bool:=jcb t c (a:Int) (b:Int)
def jaT (t:TkD) (a:Int):List Int:=jFU (jrt t a) (la (tc t)).toNat (jmp (tj t)).toNat
def jS (t:TkD) (a:Int) (k:Nat):List Int×List Int:=qA (jrt t a) (la (tc t)).toNat (jmp (tj t)).toNat k
def wS (t:TkD) (a:Int) (x:List Int×List Int) (i:Nat):List Int×List Int:=jf8 (jrt t a) (nth x.2 0).toNat x i
def jEY (t:TkD) (a:Int) (x:List Int×List Int) (lo:Nat):Prop:=jE1 (jrt t a) (la (tc t)).toNat (jmp (tj t)).toNat x/\x.2≠[]/\x.2.length<=10/\lo<=10
end U
def glo (σ:St) (s:Nat):Nat:=match σ.get s with
 | .osl _ _ lo _=>lo
 |_=>0
def jnf:jT:=⟨[.val (.uint .u64),.val (.uint .u64)],[.uint .u64,.uint .u64],false,fun d=>[0<=d.1,d.1<=1000,0<=d.2.1,d.2.1<=1000],fun d=>((0:Int),d.1*d.2.1,())⟩
abbrev q29_0 (d:Int×Int×Unit):=(d.1/(2:Int)^Int.toNat 32*wF d.2.1 (4294967295:Int)+wF d.1 (4294967295:Int)*wF d.2.1 (4294967295:Int)/(2:Int)^Int.toNat 32)
abbrev q29_1 (d:Int×Int×Unit):=(d.2.1/(2:Int)^Int.toNat 32)
abbrev q29_2 (d:Int×Int×Unit):=(wF (q29_0 d) (4294967295:Int)+wF d.1 (4294967295:Int)*(q29_1 d))
def jm1:Prop:=∀(d:Int×Int×Unit),0<=d.1->d.1<=1000->0<=d.2.1->d.2.1<=1000->(0:Int)<=32/\(32:Int)<=64/\(0:Int)<=32/\(32:Int)<=64/\0<=wF d.1 (4294967295:Int)*wF d.2.1 (4294967295:Int)/\wF d.1 (4294967295:Int)*wF d.2.1 (4294967295:Int)<=18446744073709551615/\0<=d.1/(2:Int)^Int.toNat 32*wF d.2.1 (4294967295:Int)/\d.1/(2:Int)^Int.toNat 32*wF d.2.1 (4294967295:Int)<=18446744073709551615/\(0:Int)<=32/\(32:Int)<=64/\0<=d.1/(2:Int)^Int.toNat 32*wF d.2.1 (4294967295:Int)+wF d.1 (4294967295:Int)*wF d.2.1 (4294967295:Int)/(2:Int)^Int.toNat 32/\d.1/(2:Int)^Int.toNat 32*wF d.2.1 (4294967295:Int)+wF d.1 (4294967295:Int)*wF d.2.1 (4294967295:Int)/(2:Int)^Int.toNat 32<=18446744073709551615/\(0:Int)<=32/\(32:Int)<=64/\0<=wF d.1 (4294967295:Int)*(q29_1 d)/\wF d.1 (4294967295:Int)*(q29_1 d)<=18446744073709551615/\0<=wF (q29_0 d) (4294967295:Int)+wF d.1 (4294967295:Int)*(q29_1 d)/\wF (q29_0 d) (4294967295:Int)+wF d.1 (4294967295:Int)*(q29_1 d)<=18446744073709551615/\0<=d.1/(2:Int)^Int.toNat 32*(q29_1 d)/\d.1/(2:Int)^Int.toNat 32*(q29_1 d)<=18446744073709551615/\0<=d.1/(2:Int)^Int.toNat 32*(q29_1 d)+(q29_0 d)/(2:Int)^Int.toNat 32/\d.1/(2:Int)^Int.toNat 32*(q29_1 d)+(q29_0 d)/(2:Int)^Int.toNat 32<=18446744073709551615/\(0:Int)<=32/\(32:Int)<=64/\0<=d.1/(2:Int)^Int.toNat 32*(q29_1 d)+(q29_0 d)/(2:Int)^Int.toNat 32+(q29_2 d)/(2:Int)^Int.toNat 32/\d.1/(2:Int)^Int.toNat 32*(q29_1 d)+(q29_0 d)/(2:Int)^Int.toNat 32+(q29_2 d)/(2:Int)^Int.toNat 32<=18446744073709551615/\0<=d.1*d.2.1/\d.1*d.2.1<=18446744073709551615/\(d.1/(2:Int)^Int.toNat 32*(q29_1 d)+(q29_0 d)/(2:Int)^Int.toNat 32+(q29_2 d)/(2:Int)^Int.toNat 32,d.1*d.2.1,())=((0:Int),d.1*d.2.1,())
def jsd:jT:=⟨[.val (.uint .u64),.val (.uint .u64)],[.uint .u64,.uint .u64],false,fun d=>[0<=d.1,d.1<=1000,0<=d.2.1,d.2.1<=1000],fun d=>((0:Int),d.1*d.2.1,())⟩
def jrN:Prop:=∀(d:Int×Int×Unit),0<=d.1->d.1<=1000->0<=d.2.1->d.2.1<=1000->(false=true->False)/\(false=false->0<=d.1/\d.1<=1000/\0<=d.2.1/\d.2.1<=1000/\((0:Int),d.1*d.2.1,())=((0:Int),d.1*d.2.1,()))
def jh0:zV:=⟨[.val (.slice .int),.val .int],[.cl (.row 3 .int .no)],fun d=>[d.1.length=1,0<=d.2.1,d.2.1<=1000],fun d=>((List.replicate d.2.1.toNat (nth d.1 0),()),())⟩
def jip:Ann:=fun r=>match r with
 |8=>some fun σ=>{X:=Nat,sl:=fun n=>[(8,.dat .int (n:Int))],ob:=fun n=>[(7,some (.row 3 .int false .no (U.qr (nth (gd (.slice .int) σ 0) 0) (gd .int σ 1).toNat n)))],inv:=fun n=>n<=(gd .int σ 1).toNat/\(1<=n\/(gd .int σ 1).toNat=0),mu:=fun n=>(gd .int σ 1).toNat-n}
 |_=>none
abbrev q31_3 (d:List Int×Int×Unit):=(d.1.length:Int)
abbrev q31_1 (d:List Int×Int×Unit):=(List.replicate ((q31_3 d)*d.2.1).toNat (0:Int))
abbrev q31_4 (d:List Int×Int×Unit)(x:Nat):=(U.qr (nth d.1 0) d.2.1.toNat x)
abbrev q31_0 (d:List Int×Int×Unit)(x:Nat):=(↑(q31_4 d x).length:Int)
abbrev q31_2 (x:Nat)(d:List Int×Int×Unit):=(List.take ((x:Int).toNat-Int.toNat 0) (List.drop (Int.toNat 0) (q31_4 d x)))
abbrev q31_5 (d:List Int×Int×Unit)(x:Nat):=((q31_0 d x).toNat-(x:Int).toNat)
abbrev q31_6 (d:List Int×Int×Unit):=(decide ((0:Int)<0)||decide (9223372036854775807<(q31_3 d)*d.2.1))
def jhM:Prop:=∀(d:List Int×Int×Unit),d.1.length=1->0<=d.2.1->d.2.1<=1000->(decide (d.2.1<0)=true->False)/\(decide (d.2.1<0)=false->d.1.length<4611686018427387904->0<=(q31_3 d)/\(q31_3 d)<=18446744073709551615/\0<=d.2.1/\d.2.1<=18446744073709551615/\0<=(q31_3 d)/\(q31_3 d)<=1000/\0<=d.2.1/\d.2.1<=1000/\((q31_6 d)=true->False)/\((q31_6 d)=false->jw ((q31_3 d)*d.2.1)/\0<=(q31_3 d)*d.2.1/\(q31_3 d)*d.2.1=(q31_3 d)*d.2.1/\((q31_3 d)*d.2.1).toNat*8<=140737488355328/\0+(q31_1 d).length<=(q31_1 d).length/\(∃(x:Nat),(((↑(List.take (q31_1 d).length d.1).length:Int)=(x:Int)/\True)/\jxe (q31_1 d) 0 (q31_1 d).length d.1=U.qr (nth d.1 0) d.2.1.toNat x/\True)/\x<=d.2.1.toNat/\(1<=x\/d.2.1.toNat=0))/\∀(x:Nat),x<=d.2.1.toNat/\(1<=x\/d.2.1.toNat=0)->(q31_4 d x).length<4611686018427387904->(decide ((x:Int)<(q31_0 d x))=true->0<=(x:Int)/\(x:Int)<=(q31_0 d x)/\(q31_0 d x)<=(q31_0 d x)/\(0:Int)<=0/\0<=(x:Int)/\(x:Int)<=(q31_0 d x)/\(x:Int).toNat+(q31_5 d x)<=(q31_4 d x).length/\jw ((x:Int)+(↑(List.take (q31_5 d x) (q31_2 x d)).length:Int))/\∃(a:Nat),(((x:Int)+(↑(List.take (q31_5 d x) (q31_2 x d)).length:Int)=(a:Int)/\True)/\jxe (q31_4 d x) (x:Int).toNat (q31_5 d x) (q31_2 x d)=U.qr (nth d.1 0) d.2.1.toNat a/\True)/\(a<=d.2.1.toNat/\(1<=a\/d.2.1.toNat=0))/\d.2.1.toNat-a<d.2.1.toNat-x)/\(decide ((x:Int)<(q31_0 d x))=false->(U.qr (nth d.1 0) d.2.1.toNat x,())=(List.replicate d.2.1.toNat (nth d.1 0),())/\()=())))
def wz:jT:=⟨[.val (.ptr tTk),.val (.uint .u64)],[.slice .int],false,fun d=>[d.1.isSome=true,U.yc (U.tk d.1)],fun d=>(U.jaT (U.tk d.1) d.2.1,())⟩
def joC:Ann:=fun r=>match r with
 |4=>some fun σ=>{X:=Nat×List Int,sl:=fun x=>[(6,.osl 6 .int x.2.length (U.jS (U.tk (gd (.ptr tTk) σ 0)) (gd (.uint .u64) σ 1) x.1).2.length)],ob:=fun x=>[(5,some (.row 3 .int false .no (U.jS (U.tk (gd (.ptr tTk) σ 0)) (gd (.uint .u64) σ 1) x.1).1)),(6,some (.row 3 .int false .no (x.2++(U.jS (U.tk (gd (.ptr tTk) σ 0)) (gd (.uint .u64) σ 1) x.1).2)))],inv:=fun x=>x.2.length<=x.1/\x.1<=(U.la (U.tc (U.tk (gd (.ptr tTk) σ 0)))).toNat,mu:=fun x=>(U.la (U.tc (U.tk (gd (.ptr tTk) σ 0)))).toNat+1-x.1}
 |7=>some fun σ=>{X:=Nat×List Int,sl:=fun x=>[(28,.any),(35,.dat .int (x.1:Int)),(6,.osl 6 .int x.2.length (U.wS (U.tk (gd (.ptr tTk) σ 0)) (gd (.uint .u64) σ 1) (gr .int σ 5,(gr .int σ 6).drop (glo σ 6)) x.1).2.length)],ob:=fun x=>[(5,some (.row 3 .int false .no (U.wS (U.tk (gd (.ptr tTk) σ 0)) (gd (.uint .u64) σ 1) (gr .int σ 5,(gr .int σ 6).drop (glo σ 6)) x.1).1)),(6,some (.row 3 .int false .no (x.2++(U.wS (U.tk (gd (.ptr tTk) σ 0)) (gd (.uint .u64) σ 1) (gr .int σ 5,(gr .int σ 6).drop (glo σ 6)) x.1).2)))],inv:=fun x=>x.1<=(gr .int σ 5).length/\x.2.length<=glo σ 6/\U.jEY (U.tk (gd (.ptr tTk) σ 0)) (gd (.uint .u64) σ 1) (gr .int σ 5,(gr .int σ 6).drop (glo σ 6)) (glo σ 6),mu:=fun x=>(gr .int σ 5).length-x.1}
 |2000011=>some fun σ=>{X:=Unit,sl:=fun _=>[],ob:=fun _=>[],inv:=fun _=>True,mu:=fun _=>0}
 |_=>none
abbrev q32_1 (d:Option (CrD×JbD×LwD×Unit)×Int×Unit):=(j7 (((0:Int),[],[],()),((0:Int),(0:Int),(0:Int),(0:Int),(0:Int),(0:Int),()),((0:Int),(0:Int),false,()),()) d.1)
abbrev q32_3 (d:Option (CrD×JbD×LwD×Unit)×Int×Unit)(x:Nat×List Int):=(U.jS (U.tk d.1) d.2.1 x.1)
abbrev q32_2 (d:Option (CrD×JbD×LwD×Unit)×Int×Unit)(x:Nat×List Int):=((q32_3 d x).1,List.drop x.2.length (x.2++(q32_3 d x).2))
abbrev q32_0 (d:Option (CrD×JbD×LwD×Unit)×Int×Unit)(x:Nat×List Int)(a:Nat×List Int):=(U.wS (U.tk d.1) d.2.1 (q32_2 d x) a.1)
abbrev q32_4 (d:Option (CrD×JbD×LwD×Unit)×Int×Unit)(x:Nat×List Int)(a:Nat×List Int):=(nth (q32_0 d x a).1 (a.1:Int).toNat<0)
abbrev q32_5 (a:Nat×List Int):=(a.2.length+Int.toNat 0)
abbrev q32_6 (d:Option (CrD×JbD×LwD×Unit)×Int×Unit)(x:Nat×List Int)(a:Nat×List Int):=(U.wS (U.tk d.1) d.2.1 (q32_2 d x) a.1)
def jmV:Prop:=∀(d:Option (CrD×JbD×LwD×Unit)×Int×Unit),d.1.isSome=true->U.yc (U.tk d.1)->d.1.isSome=true/\[(-1:Int)].length=1/\(0:Int)<=(q32_1 d).1.1/\(q32_1 d).1.1<=1000/\d.1.isSome=true/\(0:Int)<=(q32_1 d).2.1.2.1/\(q32_1 d).2.1.2.1<(↑(List.replicate (q32_1 d).1.1.toNat (nth [(-1:Int)] 0)).length:Int)/\d.1.isSome=true/\(∃(x:Nat×List Int),(((x.2.length=0/\(q32_3 d x).2.length=[(q32_1 d).2.1.2.1].length)/\True)/\(List.replicate (q32_1 d).1.1.toNat (nth [(-1:Int)] 0)).set (q32_1 d).2.1.2.1.toNat 0=(q32_3 d x).1/\[(q32_1 d).2.1.2.1]=x.2++(q32_3 d x).2/\True)/\x.2.length<=x.1/\x.1<=(U.la (U.tc (U.tk d.1))).toNat)/\∀(x:Nat×List Int),x.2.length<=x.1/\x.1<=(U.la (U.tc (U.tk d.1))).toNat->(q32_3 d x).2.length<4611686018427387904->(decide ((0:Int)<(↑(q32_3 d x).2.length:Int))=true->(q32_3 d x).1.length<4611686018427387904->(∃(a:Nat×List Int),((0=(a.1:Int)/\(x.2.length=a.2.length/\(q32_3 d x).2.length=(q32_0 d x a).2.length)/\True)/\(q32_3 d x).1=(q32_0 d x a).1/\x.2++(q32_3 d x).2=a.2++(q32_0 d x a).2/\True)/\a.1<=(q32_3 d x).1.length/\a.2.length<=x.2.length/\U.jEY (U.tk d.1) d.2.1 (q32_2 d x) x.2.length)/\∀(a:Nat×List Int),a.1<=(q32_3 d x).1.length/\a.2.length<=x.2.length/\U.jEY (U.tk d.1) d.2.1 (q32_2 d x) x.2.length->(decide ((a.1:Int)<(↑(q32_3 d x).1.length:Int))=true->0<=(a.1:Int)/\(a.1:Int)<(↑(q32_0 d x a).1.length:Int)/\(decide (q32_4 d x a)=true->(0:Int)<=0)/\(decide (q32_4 d x a)=true->(0:Int)<(↑(q32_0 d x a).2.length:Int))/\(decide (q32_4 d x a)=true->d.1.isSome=true)/\(decide (q32_4 d x a)=true->U.yc (U.tk d.1))/\(decide (q32_4 d x a)=true->0<=nth (a.2++(q32_0 d x a).2) (q32_5 a))/\(decide (q32_4 d x a)=true->nth (a.2++(q32_0 d x a).2) (q32_5 a)<U.la (U.tc (U.tk d.1)))/\(decide (q32_4 d x a)=true->0<=(a.1:Int))/\(decide (q32_4 d x a)=true->(a.1:Int)<U.la (U.tc (U.tk d.1)))/\((decide (q32_4 d x a)&&U.jcb (U.tk d.1) d.2.1 (nth (a.2++(q32_0 d x a).2) (q32_5 a)) (a.1:Int))=true->(0:Int)<=0/\(0:Int)<(↑(q32_0 d x a).2.length:Int)/\0<=nth (a.2++(q32_0 d x a).2) (q32_5 a)/\nth (a.2++(q32_0 d x a).2) (q32_5 a)<(↑(q32_0 d x a).1.length:Int)/\jw (nth (q32_0 d x a).1 (nth (a.2++(q32_0 d x a).2) (q32_5 a)).toNat+1)/\0<=(a.1:Int)/\(a.1:Int)<(↑(q32_0 d x a).1.length:Int)/\a.2.length+(q32_0 d x a).2.length=(a.2++(q32_0 d x a).2).length/\0<(q32_0 d x a).2.length/\a.2.length+(q32_0 d x a).2.length+[(a.1:Int)].length<4611686018427387904/\((q32_0 d x a).2.length+[(a.1:Int)].length)*8<=140737488355328/\∀(pre:List Int),pre.length<=a.2.length->jw ((a.1:Int)+1)/\∃(b:Nat×List Int),(((a.1:Int)+1=(b.1:Int)/\(pre.length=b.2.length/\(q32_0 d x a).2.length+[(a.1:Int)].length=(q32_6 d x b).2.length)/\True)/\pre++List.drop a.2.length (a.2++(q32_0 d x a).2)++[(a.1:Int)]=b.2++(q32_6 d x b).2/\(q32_0 d x a).1.set (a.1:Int).toNat (nth (q32_0 d x a).1 (nth (a.2++(q32_0 d x a).2) (q32_5 a)).toNat+1)=(q32_6 d x b).1/\True)/\(b.1<=(q32_3 d x).1.length/\b.2.length<=x.2.length/\U.jEY (U.tk d.1) d.2.1 (q32_2 d x) x.2.length)/\(q32_3 d x).1.length-b.1<(q32_3 d x).1.length-a.1)/\((decide (q32_4 d x a)&&U.jcb (U.tk d.1) d.2.1 (nth (a.2++(q32_0 d x a).2) (q32_5 a)) (a.1:Int))=false->jw ((a.1:Int)+1)/\∃(b:Nat×List Int),(((a.2.length=b.2.length/\(q32_0 d x a).2.length=(q32_6 d x b).2.length)/\(a.1:Int)+1=(b.1:Int)/\True)/\a.2++(q32_0 d x a).2=b.2++(q32_6 d x b).2/\(q32_0 d x a).1=(q32_6 d x b).1/\True)/\(b.1<=(q32_3 d x).1.length/\b.2.length<=x.2.length/\U.jEY (U.tk d.1) d.2.1 (q32_2 d x) x.2.length)/\(q32_3 d x).1.length-b.1<(q32_3 d x).1.length-a.1))/\(decide ((a.1:Int)<(↑(q32_3 d x).1.length:Int))=false->(0:Int)<=1/\(1:Int)<=(↑(q32_0 d x a).2.length:Int)/\(↑(q32_0 d x a).2.length:Int)<=(↑(q32_0 d x a).2.length:Int)/\∃(b:Nat×List Int),(((a.2.length+Int.toNat 1=b.2.length/\(↑(q32_0 d x a).2.length:Int).toNat-Int.toNat 1=(U.jS (U.tk d.1) d.2.1 b.1).2.length)/\True)/\(q32_0 d x a).1=(U.jS (U.tk d.1) d.2.1 b.1).1/\a.2++(q32_0 d x a).2=b.2++(U.jS (U.tk d.1) d.2.1 b.1).2/\True)/\(b.2.length<=b.1/\b.1<=(U.la (U.tc (U.tk d.1))).toNat)/\(U.la (U.tc (U.tk d.1))).toNat+1-b.1<(U.la (U.tc (U.tk d.1))).toNat+1-x.1))/\(decide ((0:Int)<(↑(q32_3 d x).2.length:Int))=false->((q32_3 d x).1,())=(U.jaT (U.tk d.1) d.2.1,()))
end Go.X
namespace Go.X
open Go.Proofs
theorem jm3 {x:Int} (a:0<=x) (b:x<=4294967295):wF x 4294967295=x:=by
 obtain⟨n,rfl⟩:∃n:Nat,x=(n:Int):=⟨x.toNat,by omega⟩;rw[show(4294967295:Int)=((4294967295:Nat):Int) from rfl,BT.uand_nat (by omega) (by omega),show(4294967295:Nat)=2^32-1 from rfl,Nat.and_two_pow_sub_one_eq_mod,Nat.mod_eq_of_lt (by omega)]
theorem jqD:jm1:=by
 unfold jm1 q29_2 q29_1 q29_0;rintro⟨x,y,⟨⟩⟩ b c a d;simp only at b c a d;have f:=jm3 b (by omega);have g:=jm3 a (by omega);have e:=jm3 (x:=0) (by omega) (by omega);have h:x/2^Int.toNat 32=0:=Int.ediv_eq_zero_of_lt b (by show x<2^32;omega);have i:y/2^Int.toNat 32=0:=Int.ediv_eq_zero_of_lt a (by show y<2^32;omega);have k:0<=x*y:=Int.mul_nonneg b a;have l:x*y<=1000*1000:=Int.mul_le_mul c d a (by omega);have c1:x*y/2^Int.toNat 32=0:=Int.ediv_eq_zero_of_lt k (by show x*y<2^32;omega);have j:(0:Int)/2^Int.toNat 32=0:=Int.zero_ediv _;simp only[f,g,h,i,Int.zero_mul,Int.mul_zero,Int.zero_add,Int.add_zero,c1,e,j]
 and_intros<;>first|omega|rfl|trivial
theorem jnP:zk PR 201 jnf:=jU jqD Tryz.func201 kcN koN
theorem jwm:jrN:=by
 rintro⟨x,y,⟨⟩⟩ a b c d;exact⟨fun h=>(by cases h),fun _=>⟨a,b,c,d,rfl⟩⟩
theorem jsN:zk PR 194 jsd:=jU jwm Tryz.func194 (kcC jnP kcN) koN
theorem jn6 {x:Int} {N n:Nat} (h:n<=N):(U.qr x N n).length=N:=by
 unfold U.qr;simp;omega
theorem jqt {x:Int} {N n:Nat} (h:n<=N):(U.qr x N n).take n=List.replicate n x:=by
 unfold U.qr;rw[List.take_append_of_le_length (by simp),jHA (by simp)]
theorem jzi {x:Int} {N n:Nat} (h:n<=N):jxe (U.qr x N n) n (N-n) (List.replicate n x)=U.qr x N (n+min (N-n) n):=by
 unfold jxe;rw[jqt h,List.take_replicate,jHR];unfold U.qr;rw[List.drop_append,jHR,List.drop_of_length_le (by simp),jHr,List.drop_replicate,<-List.replicate_append_replicate];congr 2;omega
theorem jkm:jhM:=by
 unfold jhM q31_6 q31_5 q31_2 q31_0 q31_4 q31_1 q31_3;rintro⟨l,n,⟨⟩⟩ b g e;simp only at b g e;obtain⟨N,rfl⟩:∃N:Nat,n=(N:Int):=⟨n.toNat,by omega⟩;obtain⟨y,rfl⟩:∃y,l=[y]:=by
  cases l with
  |nil=>simp at b
  |cons y r=>cases r with
   |nil=>exact⟨y,rfl⟩
   |cons z r=>simp at b
 have c:(([y].length:Nat):Int)*(N:Int)=(N:Int):=(by simp);have f:nth [y] 0=y:=rfl
 dsimp only
 refine⟨fun h=> ?_,fun _ _=>⟨by simp,by simp,by omega,by omega,by simp,by simp,by omega,e,fun h=> ?_,fun _=> ?_⟩⟩
 .have:=of_decide_eq_true h;omega
 .rw[c] at h;have h:(9223372036854775807:Int)<(N:Int):=(by simpa using h);omega
 rw[c,f];simp only[jG1,jHR];refine⟨L.in64 (by omega) (by omega),by omega,trivial,by omega,by omega,⟨min 1 N,⟨⟨?_,trivial⟩,?_,trivial⟩,by omega,by omega⟩,fun x a i=>⟨fun h=> ?_,fun h=> ?_⟩⟩
 .rw[jHv];simp only[jHy,jHM];omega
 .rcases jH8 N with d|d
  .subst d;rfl
  .obtain⟨M,rfl⟩:∃M,N=M+1:=⟨N-1,by omega⟩;have:min 1 (M+1)=1:=(by omega);rw[this];simp[jxe,U.qr,List.replicate_succ]
 .have h:=of_decide_eq_true h;rw[jn6 a.1] at h;simp only[jn6 a.1,jG1,Int.toNat_zero,List.drop_zero,Nat.sub_zero,jqt a.1,List.take_replicate,jHR];refine⟨by omega,by omega,by omega,by omega,by omega,by omega,by omega,L.in64 (by omega) (by omega),x+min (N-x) x,⟨⟨by omega,trivial⟩,jzi a.1,trivial⟩,⟨by omega,by omega⟩,by omega⟩
 .have h:=of_decide_eq_false h;rw[jn6 a.1] at h;have h:x=N:=(by have:=a.1;omega);subst h;refine⟨?_,trivial⟩;unfold U.qr;rw[Nat.sub_self];simp
theorem jh7:qv PR 173 jh0:=jjX jip jkm Tryz.func173 (kcC jsN kcN) koN
theorem jDW {a b:List Int}:nth (a++b) (a.length+Int.toNat 0)=nth b 0:=by
 unfold nth;simp only[jHu,Int.toNat_zero,jIa];rw[jG8 (jGY _),Nat.sub_self]
theorem jqQ {t:TkD} {s:Int} (a:U.yc t):2<=U.la (U.tc t)/\U.la (U.tc t)<=5/\0<=U.jmp (U.tj t)/\U.jmp (U.tj t)<U.la (U.tc t):=by
 obtain⟨c1,c2,_⟩:=a;obtain⟨b,c,_⟩:=jA c1;obtain⟨_,⟨d,e⟩,_⟩:=jcc c2;exact⟨b,c,d,e⟩
theorem jqx:jmV:=by
 unfold jmV q32_6 q32_5 q32_4 q32_0 q32_2 q32_3 q32_1;rintro⟨(_|t),s,⟨⟩⟩ h0 m
 .cases h0
 have m:U.yc t:=m;obtain⟨l1,l2,j1,j2⟩:=jqQ (s:=s) m;have w:U.tk (some t)=t:=rfl;obtain⟨n,A⟩:∃n,n=(U.la (U.tc t)).toNat:=⟨_,rfl⟩;obtain⟨v,hv⟩:∃v,v=(U.jmp (U.tj t)).toNat:=⟨_,rfl⟩;have hs:v<n:=(by omega);have Y:∀k,jE1 (U.jrt t s) n v (U.jS t s k)/\((U.jS t s k).2=[]\/jqk (U.jS t s k).1+(U.jS t s k).2.length+k=n):=by
  intro k;rw[A,hv] at*;exact jjr hs k
 refine⟨rfl,rfl,(by omega:0<=U.la (U.tc t)),(by omega:U.la (U.tc t)<=1000),rfl,j1,?_,rfl,⟨(0,[]),⟨⟨⟨rfl,rfl⟩,trivial⟩,rfl,?_,trivial⟩,jGY _,jG7 _⟩,fun x hx T=>⟨fun j V=> ?_,fun h=> ?_⟩⟩
 .show U.jmp (U.tj t)<(((List.replicate (U.la (U.tc t)).toNat (nth [(-1:Int)] 0)).length:Nat):Int);rw[jHR];omega
 .show[U.jmp (U.tj t)]=[]++[(((U.jmp (U.tj t)).toNat:Nat):Int)];rw[jHr,Int.toNat_of_nonneg j1]
 .obtain⟨k,pre⟩:=x;obtain⟨X,H⟩:=hx;simp only[w,List.drop_left] at X H j V T⊢;rw[<-A] at H⊢;obtain⟨B,o⟩:=Y k;have j:0<(U.jS t s k).2.length:=(by have:=of_decide_eq_true j;omega);have d:(U.jS t s k).2≠[]:=fun e=>by rw[e] at j;simp at j
  have F:=B.i.len;rcases o with o|o
  .exact absurd o d
  have p:U.jS t s (k+1)=U.qk (U.jrt t s) n (U.jS t s k):=(by rw[A];rfl);generalize W:U.jS t s k=x0 at*;obtain⟨g,r0,a⟩:∃q r,x0.2=q::r:=by
   cases I:x0.2 with
   |nil=>exact absurd I d
   |cons q r=>exact⟨q,r,rfl⟩
  obtain⟨M,g2,g3⟩:=B.i.que g (by rw[a];simp);have y:nth x0.2 0=g:=(by rw[a];rfl);have hla:((n:Nat):Int)=U.la (U.tc t):=(by omega);have f:U.jEY t s (x0.1,x0.2) pre.length:=by
   unfold U.jEY;rw[<-A,<-hv];exact⟨B,d,by simp only;omega,by omega⟩
  refine⟨⟨(0,pre),⟨⟨rfl,⟨rfl,rfl⟩,trivial⟩,rfl,rfl,trivial⟩,jG7 _,jGY _,f⟩,?_⟩;rintro⟨i,p5⟩ ⟨hi,R,_⟩;simp only at hi R;have C:InI (U.jrt t s) n v g.toNat i x0 (U.wS t s (x0.1,x0.2) i):=by
   have:=jzh (J:=U.jrt t s) hs (q:=g.toNat) (by omega) g3 B.i B.le i (by omega);unfold U.wS;simp only[y];exact this
  have c:U.wS t s (x0.1,x0.2) (i+1)=U.jf7 (U.jrt t s) g.toNat (U.wS t s (x0.1,x0.2) i) i:=by
   unfold U.wS;simp only[y];exact jmJ _ _ _ _
  have D:i=n->U.jS t s (k+1)=((U.wS t s (x0.1,x0.2) i).1,(U.wS t s (x0.1,x0.2) i).2.drop 1):=by
   intro e;subst e;rw[p];have:U.qk (U.jrt t s) i x0=((U.jf8 (U.jrt t s) g.toNat x0 i).1,(U.jf8 (U.jrt t s) g.toNat x0 i).2.drop 1):=by
    clear p c C f F d B Y W;obtain⟨st,qu⟩:=x0;simp only at a;subst a;rfl
   rw[this];unfold U.wS;simp only[y]
  generalize hFI:U.wS t s (x0.1,x0.2) i=u at*;obtain⟨l,Q⟩:=C.pre;have hQ:nth u.2 0=g:=(by rw[Q,a];rfl);have G:0<u.2.length:=(by rw[Q,a];simp);have hmu:=C.mu;have hFl:=C.i.len;have E:∀i:Nat,U.jrt t s g.toNat i=U.jcb t s g (i:Int):=by
   intro i;unfold U.jrt;rw[Int.toNat_of_nonneg M]
  simp only[jDW,hQ];simp only[jG1];refine⟨fun h=> ?_,fun h=> ?_⟩
  .have h:i<n:=(by have:=of_decide_eq_true h;omega);refine⟨by omega,by omega,fun _=>by omega,fun _=>by omega,fun _=>rfl,fun _=>m,fun _=>M,fun _=>by omega,fun _=>by omega,fun _=>by omega,fun z=> ?_,fun z=> ?_⟩
   .rw[jGW] at z;have h3:=of_decide_eq_true z.1;have Z:=C.i.low g.toNat (by omega);have b:U.wS t s (x0.1,x0.2) (i+1)=(u.1.set i (nth u.1 g.toNat+1),u.2++[(i:Int)]):=by
     rw[c];unfold U.jf7;rw[if_pos ⟨h3,by rw[E];exact z.2⟩]
    refine⟨by omega,by omega,M,by omega,L.in64 (by omega) (by omega),by omega,by omega,by simp,G,by simp only[jHy,jHM];omega,by simp only[jHy,jHM];omega,fun K S=>⟨L.in64 (by omega) (by omega),(i+1,K),⟨⟨by simp,⟨rfl,?_⟩,trivial⟩,?_,?_,trivial⟩,⟨by simp only;omega,by simp only;omega,f⟩,by simp only;omega⟩⟩
    .rw[b];simp
    .rw[b,jHf]
    .rw[b]
   .have b:U.wS t s (x0.1,x0.2) (i+1)=u:=by
     rw[c];unfold U.jf7;rw[if_neg (fun O=>by
      rw[E] at O;rw[O.2,decide_eq_true O.1] at z;cases z)]
    refine⟨L.in64 (by omega) (by omega),(i+1,p5),⟨⟨⟨rfl,?_⟩,by simp,trivial⟩,?_,?_,trivial⟩,⟨by simp only;omega,by simp only;omega,f⟩,by simp only;omega⟩
    .rw[b]
    .rw[b]
    .rw[b]
  .have h:i=n:=(by have:=of_decide_eq_false h;omega);have P:=D h;have N:u.2=g::(r0++l):=(by rw[Q,a];rfl);refine⟨by omega,by omega,by omega,(k+1,p5++[g]),⟨⟨⟨?_,?_⟩,trivial⟩,?_,?_,trivial⟩,⟨by simp only[jHk,jHy,jHM];omega,by simp only;omega⟩,by simp only;omega⟩
   .simp only[jHk,jHy,jHM];rfl
   .rw[P];simp only[jIh];rfl
   .rw[P]
   .rw[P,N];simp
 .simp only[w] at h⊢;have h:(U.jS t s x.1).2=[]:=by
   have:=of_decide_eq_false h;exact jHE (by omega)
  have hk:x.1<=n:=(by have:=hx.2;rw[w,<-A] at this;exact this);have h1:U.qA (U.jrt t s) (U.la (U.tc t)).toNat (U.jmp (U.tj t)).toNat ((U.la (U.tc t)).toNat+1)=U.jS t s x.1:=jCn (k:=x.1) h _ (by rw[<-A];omega);show((U.jS t s x.1).1,())=((U.qA (U.jrt t s) (U.la (U.tc t)).toNat (U.jmp (U.tj t)).toNat ((U.la (U.tc t)).toNat+1)).1,());rw[h1]
theorem jnL:zk PR 127 wz:=kI joC jqx Tryz.func127 (kcC jh2 kcN) (koC jh7 koN)
end Go.X
namespace Go.X
open Go.Proofs
namespace U
def yu (t:TkD) (o:Int) (q:List (Int×PeD×Unit)):Int:=q.foldl (fun o x=>uor o (kG t x.2.1)) o
def jaa (q:List (Int×PeD×Unit)):Bool:=q.any (fun x=>jEo x.2.1)
def jlp (b:Bool) (o k:Int):Int:=if b=true then uor o k else o
def kj (t:TkD) (s:Int):Int:=jlp (decide (nth (jaT t s) (jrv (tj t)).toNat<0)) (jlp (jF5 (tl t)&& !jaa (jhv t s)) (jlp (decide (BT.size s≠max (jBB (tj t)) (jD4 (tl t)))) (yu t 0 (jhv t s)) 8) 16) 32
def jn4 (c:CrD) (n:Int):Bool:=ja n 0 (2^(je c).length-1)
def qU (c:CrD) (j:JbD) (n:Int):Int:=if zX c j≠0 then zX c j else if jn4 c n=true then 0 else 1
def jEZ (c:CrD) (j:JbD) (n:Int):Int:=if qU c j n=0 then kj (c,j,yA c j,()) n else 0
def yh (c:CrD) (j:JbD) (n:Nat):List Int:=((List.range n).filter (fun i=>decide (kG (c,j,yA c j,()) (nth (je c) i)=0))).map (fun(i:Nat)=>(i:Int))
def yr (c:CrD) (j:JbD):List Int:=if zX c j=0 then yh c j (je c).length else[]
end U
def kA:jT:=⟨[.val (.ptr tTk),.val tPe],[.uint .u64],false,fun d=>[d.1.isSome=true,U.yc (U.tk d.1)],fun d=>(U.kG (U.tk d.1) d.2.1,())⟩
def jyb:jrk [.int,tPe]:={ps:=[.ref (.ptr tTk),.own (.box 132 [.dat (.uint .u64)]) true,.own (.box 4 [.dat .bool]) true],slots:=[2,4,5],dst:=65,pre:=fun d=>[d.1.isSome=true,U.yc (U.tk d.1)],G:=fun d q=>((U.yu (U.tk d.1) d.2.1.1 q,()),(d.2.2.1.1||U.jaa q,()),()),seq:=juv}
def ji3:Nat->Option ((ts:List Ty)×jrk ts):=fun r=>match r with
 |4=>some ⟨[.int,tPe],jyb⟩
 |_=>none
def ja4:jT:=⟨[.val (.ptr tTk),.val (.uint .u64)],[.uint .u64],false,fun d=>[d.1.isSome=true,U.yc (U.tk d.1),BT.Set' d.2.1],fun d=>(U.kj (U.tk d.1) d.2.1,())⟩
abbrev q33_0 (d:Option (CrD×JbD×LwD×Unit)×Int×Unit):=(j7 (((0:Int),[],[],()),((0:Int),(0:Int),(0:Int),(0:Int),(0:Int),(0:Int),()),((0:Int),(0:Int),false,()),()) d.1)
abbrev q33_1 (d:Option (CrD×JbD×LwD×Unit)×Int×Unit):=(nth (U.jaT (U.tk d.1) d.2.1) (q33_0 d).2.1.1.toNat<0)
abbrev q33_2 (d:Option (CrD×JbD×LwD×Unit)×Int×Unit):=(U.kj (U.tk d.1) d.2.1,())
abbrev q33_3 (d:Option (CrD×JbD×LwD×Unit)×Int×Unit):=(↑(U.jaT (U.tk d.1) d.2.1).length:Int)
def ja0:Prop:=∀(d:Option (CrD×JbD×LwD×Unit)×Int×Unit),d.1.isSome=true->U.yc (U.tk d.1)->BT.Set' d.2.1->(d.1.isSome=true/\(U.je (U.tc (U.tk d.1))).length<=60)/\(d.1.isSome=true/\U.yc (U.tk d.1)/\True)/\(d.1,(U.yu (U.tk d.1) (0:Int) [],()),(false||U.jaa [],()),())=(d.1,((0:Int),()),(false,()),())/\(∀(q:List (Int×PeD×Unit)) (x:Int×PeD×Unit) (rest:List (Int×PeD×Unit)),q++x::rest=U.jhv (U.tk d.1) d.2.1->we (fun(a:List (Int×PeD×Unit))=>false) q->d.1.isSome=true/\U.yc (U.tk d.1)/\false=false/\((uor (U.yu (U.tk d.1) (0:Int) q) (U.kG (U.tk d.1) x.2.1),()),(false||U.jaa q||x.2.1.2.2.2.2.1,()),())=((U.yu (U.tk d.1) (0:Int) (q++[x]),()),(false||U.jaa (q++[x]),()),()))/\(∀(xs:List (Int×PeD×Unit)),xs=U.jhv (U.tk d.1) d.2.1->we (fun(b:List (Int×PeD×Unit))=>false) xs->BT.Set' d.2.1/\d.1.isSome=true/\d.1.isSome=true/\(decide (BT.size d.2.1≠max (q33_0 d).2.1.2.2.2.2.2.1 (q33_0 d).2.2.1.2.1)=true->d.1.isSome=true/\(((q33_0 d).2.2.1.2.2.1&& !(false||U.jaa xs))=true->d.1.isSome=true/\U.yc (U.tk d.1)/\d.1.isSome=true/\(0:Int)<=(q33_0 d).2.1.1/\(q33_0 d).2.1.1<(q33_3 d)/\(decide (q33_1 d)=true->(uor (uor (uor (U.yu (U.tk d.1) (0:Int) xs) (8:Int)) (16:Int)) (32:Int),())=(q33_2 d))/\(decide (q33_1 d)=false->(uor (uor (U.yu (U.tk d.1) (0:Int) xs) (8:Int)) (16:Int),())=(q33_2 d)))/\(((q33_0 d).2.2.1.2.2.1&& !(false||U.jaa xs))=false->d.1.isSome=true/\U.yc (U.tk d.1)/\d.1.isSome=true/\(0:Int)<=(q33_0 d).2.1.1/\(q33_0 d).2.1.1<(q33_3 d)/\(decide (q33_1 d)=true->(uor (uor (U.yu (U.tk d.1) (0:Int) xs) (8:Int)) (32:Int),())=(q33_2 d))/\(decide (q33_1 d)=false->(uor (U.yu (U.tk d.1) (0:Int) xs) (8:Int),())=(q33_2 d))))/\(decide (BT.size d.2.1≠max (q33_0 d).2.1.2.2.2.2.2.1 (q33_0 d).2.2.1.2.1)=false->d.1.isSome=true/\(((q33_0 d).2.2.1.2.2.1&& !(false||U.jaa xs))=true->d.1.isSome=true/\U.yc (U.tk d.1)/\d.1.isSome=true/\(0:Int)<=(q33_0 d).2.1.1/\(q33_0 d).2.1.1<(q33_3 d)/\(decide (q33_1 d)=true->(uor (uor (U.yu (U.tk d.1) (0:Int) xs) (16:Int)) (32:Int),())=(q33_2 d))/\(decide (q33_1 d)=false->(uor (U.yu (U.tk d.1) (0:Int) xs) (16:Int),())=(q33_2 d)))/\(((q33_0 d).2.2.1.2.2.1&& !(false||U.jaa xs))=false->d.1.isSome=true/\U.yc (U.tk d.1)/\d.1.isSome=true/\(0:Int)<=(q33_0 d).2.1.1/\(q33_0 d).2.1.1<(q33_3 d)/\(decide (q33_1 d)=true->(uor (U.yu (U.tk d.1) (0:Int) xs) (32:Int),())=(q33_2 d))/\(decide (q33_1 d)=false->(U.yu (U.tk d.1) (0:Int) xs,())=(q33_2 d)))))/\∀(q:List (Int×PeD×Unit)) (x:Int×PeD×Unit) (rest:List (Int×PeD×Unit)),q++x::rest=U.jhv (U.tk d.1) d.2.1->we (fun(c:List (Int×PeD×Unit))=>false) q->false=true->(U.yu (U.tk d.1) (0:Int) (q++[x]),())=(q33_2 d)
theorem jdC:(jue (jrw 64 [(95,kA),(126,wA),(127,wz)] [] [(125,jH)] []) ja4 (fun _ _=>none) (hkC (jrw 64 [(95,kA),(126,wA),(127,wz)] [] [(125,jH)] []) (fun _=>none) ji3 [] []) Tryz.f104 (zM Tryz.f104))=ja0:=by kernel_rfl
def jxL:jT:=⟨[.val tCr,.val tJb,.val .int],[.ptr tTk,.int],false,fun _=>[],fun d=>(U.jl8 d.1 d.2.1,U.qU d.1 d.2.1 d.2.2.1,())⟩
abbrev q34_1 (d:CrD×JbD×Int×Unit):=(U.zX d.1 d.2.1=0)
abbrev q34_0 (d:CrD×JbD×Int×Unit):=(decide (q34_1 d)&& !U.ja d.2.2.1 (0:Int) ((1:Int)*2^(d.1.2.1.length:Int).toNat-1))
def jxm:Prop:=∀(d:CrD×JbD×Int×Unit),(decide (q34_1 d)=true->d.1.2.1.length<4611686018427387904)->(decide (q34_1 d)=true->0<=(d.1.2.1.length:Int))/\(decide (q34_1 d)=true->(d.1.2.1.length:Int)<=64)/\(decide (q34_1 d)=true->jw ((1:Int)*2^(d.1.2.1.length:Int).toNat))/\(decide (q34_1 d)=true->jw ((1:Int)*2^(d.1.2.1.length:Int).toNat-1))/\((q34_0 d)=true->(U.jl8 d.1 d.2.1,(1:Int),())=(U.jl8 d.1 d.2.1,U.qU d.1 d.2.1 d.2.2.1,()))/\((q34_0 d)=false->(U.jl8 d.1 d.2.1,U.zX d.1 d.2.1,())=(U.jl8 d.1 d.2.1,U.qU d.1 d.2.1 d.2.2.1,()))
def jr3:jT:=⟨[.val tCr,.val tJb,.val .int],[.int,.int],false,fun _=>[],fun d=>(U.jEZ d.1 d.2.1 d.2.2.1,U.qU d.1 d.2.1 d.2.2.1,())⟩
def jrD:Prop:=∀(d:CrD×JbD×Int×Unit),(decide (U.qU d.1 d.2.1 d.2.2.1≠0)=true->((0:Int),U.qU d.1 d.2.1 d.2.2.1,())=(U.jEZ d.1 d.2.1 d.2.2.1,U.qU d.1 d.2.1 d.2.2.1,()))/\(decide (U.qU d.1 d.2.1 d.2.2.1≠0)=false->0<=d.2.2.1/\d.2.2.1<=18446744073709551615/\(U.jl8 d.1 d.2.1).isSome=true/\U.yc (U.tk (U.jl8 d.1 d.2.1))/\BT.Set' d.2.2.1/\jw (U.kj (U.tk (U.jl8 d.1 d.2.1)) d.2.2.1)/\(U.kj (U.tk (U.jl8 d.1 d.2.1)) d.2.2.1,(0:Int),())=(U.jEZ d.1 d.2.1 d.2.2.1,U.qU d.1 d.2.1 d.2.2.1,()))
def jAU:jT:=⟨[.val tCr,.val tJb],[.slice .int,.int],false,fun _=>[],fun d=>(U.yr d.1 d.2.1,U.zX d.1 d.2.1,())⟩
def jCr:Ann:=fun r=>match r with
 |6=>some fun σ=>{X:=Nat,sl:=fun i=>[(23,.dat .int (i:Int)),(8,.own 8 .int)],ob:=fun i=>[(8,some (.row 3 .int false .yes (U.yh (gd tCr σ 0) (gd tJb σ 1) i)))],inv:=fun i=>i<=(U.je (gd tCr σ 0)).length,mu:=fun i=>(U.je (gd tCr σ 0)).length-i}
 |_=>none
def jAI:Prop:=∀(d:CrD×JbD×Unit),(decide (U.zX d.1 d.2.1≠0)=true->([],U.zX d.1 d.2.1,())=(U.yr d.1 d.2.1,U.zX d.1 d.2.1,()))/\(decide (U.zX d.1 d.2.1≠0)=false->d.1.2.1.length<4611686018427387904->(∃(x:Nat),((0=(x:Int)/\True/\True)/\U.yh d.1 d.2.1 x=[]/\True)/\x<=(U.je d.1).length)/\∀(x:Nat),x<=(U.je d.1).length->(decide ((x:Int)<(d.1.2.1.length:Int))=true->0<=(x:Int)/\(x:Int)<(d.1.2.1.length:Int)/\(U.jl8 d.1 d.2.1).isSome=true/\U.yc (U.tk (U.jl8 d.1 d.2.1))/\(decide (U.kG (U.tk (U.jl8 d.1 d.2.1)) (nth d.1.2.1 (x:Int).toNat)=0)=true->((U.yh d.1 d.2.1 x).length+[(x:Int)].length)*8<=140737488355328/\jw ((x:Int)+1)/\∃(a:Nat),(((x:Int)+1=(a:Int)/\True/\True)/\U.yh d.1 d.2.1 x++[(x:Int)]=U.yh d.1 d.2.1 a/\True)/\a<=(U.je d.1).length/\(U.je d.1).length-a<(U.je d.1).length-x)/\(decide (U.kG (U.tk (U.jl8 d.1 d.2.1)) (nth d.1.2.1 (x:Int).toNat)=0)=false->jw ((x:Int)+1)/\∃(a:Nat),((True/\(x:Int)+1=(a:Int)/\True)/\U.yh d.1 d.2.1 x=U.yh d.1 d.2.1 a/\True)/\a<=(U.je d.1).length/\(U.je d.1).length-a<(U.je d.1).length-x))/\(decide ((x:Int)<(d.1.2.1.length:Int))=false->(U.yh d.1 d.2.1 x,(0:Int),())=(U.yr d.1 d.2.1,U.zX d.1 d.2.1,())))
end Go.X
namespace Go.X
open Go.Proofs
theorem jxA (a b c:Bool):0<=U.jvn a b c/\U.jvn a b c<=7:=by
 unfold U.jvn U.jEX;cases a<;>cases b<;>cases c<;>simp
theorem jk4 (t:TkD) (p:PeD):0<=U.kG t p/\U.kG t p<=7:=jxA _ _ _
theorem jpA {s:Int} (h:0<=s/\s<=1000):BT.Set' s:=by unfold BT.Set';omega
theorem jxs {a b:Int} (c:0<=a/\a<64) (d:0<=b/\b<64):0<=uor a b/\uor a b<64:=by
 obtain⟨n,rfl⟩:∃n:Nat,a=(n:Int):=⟨a.toNat,by omega⟩;obtain⟨m,rfl⟩:∃m:Nat,b=(m:Int):=⟨b.toNat,by omega⟩;rw[BT.uor_nat (by omega) (by omega)];have:n|||m<2^6:=Nat.or_lt_two_pow (by omega) (by omega);omega
theorem jrQ (t:TkD):∀(q:List (Int×PeD×Unit)) (o:Int),(0<=o/\o<64)->0<=U.yu t o q/\U.yu t o q<64
 |[],o,h=>h
 |x::q,o,h=>by
  have:=jk4 t x.2.1
  exact jrQ t q _ (jxs h ⟨by omega,by omega⟩)
theorem jjI {b:Bool} {o k:Int} (h:0<=o/\o<64) (hk:0<=k/\k<64):0<=U.jlp b o k/\U.jlp b o k<64:=by
 unfold U.jlp
 split
 .exact jxs h hk
 .exact h
theorem jwP (t:TkD) (s:Int):0<=U.kj t s/\U.kj t s<64:=by
 unfold U.kj;exact jjI (jjI (jjI (jrQ t _ _ (by omega)) (by omega)) (by omega)) (by omega)
theorem jxt (t:TkD) (o:Int) (q:List (Int×PeD×Unit)) (x:Int×PeD×Unit):U.yu t o (q++[x])=uor (U.yu t o q) (U.kG t x.2.1):=by
 unfold U.yu;rw[jHh];rfl
theorem jBY {t:TkD} {s:Int} (a:U.yc t):((U.jaT t s).length:Int)=U.la (U.tc t):=by
 obtain⟨f,g,c,d⟩:=jqQ (s:=s) a;have b:(U.jmp (U.tj t)).toNat<(U.la (U.tc t)).toNat:=(by omega);have:=(jjr (J:=U.jrt t s) b ((U.la (U.tc t)).toNat+1)).1.i.len;have e:(U.jaT t s).length=(U.la (U.tc t)).toNat:=this;omega
theorem jki:ja0:=by
 unfold ja0 q33_3 q33_2 q33_1 q33_0;rintro⟨(_|t),s,⟨⟩⟩ n a c
 .cases n
 have a:U.yc t:=a;have c:BT.Set' s:=c;obtain⟨c1,c2,_⟩:=id a;obtain⟨_,_,p,_⟩:=jA c1;obtain⟨⟨m,r⟩,_⟩:=jcc c2;have o:=jBY (s:=s) a;have f:U.tk (some t)=t:=rfl;have b:0<=U.jrv (U.tj t)/\U.jrv (U.tj t)<(((U.jaT t s).length:Nat):Int):=⟨m,by omega⟩;refine⟨⟨rfl,(by omega:(U.je (U.tc t)).length<=60)⟩,⟨rfl,a,trivial⟩,rfl,fun q x rest u _=>⟨rfl,a,rfl,?_⟩,fun xs g _=>⟨c,rfl,rfl,?_⟩,fun q x rest _ _ h=>by cases h⟩
 .simp only[f,jxt];unfold U.jaa;simp only[List.any_append,List.any_cons,List.any_nil,Bool.or_false,Bool.false_or];rfl
 .simp only[f] at g⊢;subst g;have key:∀(j k l:Bool),decide (BT.size s≠max (U.jBB (U.tj t)) (U.jD4 (U.tl t)))=j->(U.jF5 (U.tl t)&& !U.jaa (U.jhv t s))=k->decide (nth (U.jaT t s) (U.jrv (U.tj t)).toNat<0)=l->
   U.jlp l (U.jlp k (U.jlp j (U.yu t 0 (U.jhv t s)) 8) 16) 32=U.kj t s:=by
   intro j k l i e d;unfold U.kj;rw[i,e,d]
  refine⟨fun i=>⟨rfl,fun e=>⟨rfl,a,rfl,b.1,b.2,fun d=> ?_,fun d=> ?_⟩,fun e=>⟨rfl,a,rfl,b.1,b.2,fun d=> ?_,fun d=> ?_⟩⟩,fun i=>⟨rfl,fun e=>⟨rfl,a,rfl,b.1,b.2,fun d=> ?_,fun d=> ?_⟩,fun e=>⟨rfl,a,rfl,b.1,b.2,fun d=> ?_,fun d=> ?_⟩⟩⟩<;>
   (rw[Bool.false_or] at e;have:=key _ _ _ i e d;rw[<-this];rfl)
theorem jaF {c:CrD} (h:U.jj c=true):(0:Int)<2^(U.je c).length/\(2:Int)^(U.je c).length<=256:=by
 obtain⟨_,_,a,_⟩:=jA h;rw[BT.two_nat];have b:2^(U.je c).length<=2^8:=Nat.pow_le_pow_right (by decide) a;have d:0<2^(U.je c).length:=Nat.pow_pos (by decide);omega
theorem jBL:jxm:=by
 unfold jxm q34_0 q34_1;rintro⟨c,j,n,⟨⟩⟩ _;have e:∀l:Nat,(1:Int)*2^((l:Int)).toNat=2^l:=fun l=>by rw[Int.one_mul,jG1]
 simp only[e];refine⟨fun _=>by omega,fun h=> ?_,fun h=> ?_,fun h=> ?_,fun h=> ?_,fun h=> ?_⟩
 .have:=(jA (jes (of_decide_eq_true h)).1).2.2.1;have this:c.2.1.length<=8:=this;omega
 .have:=jaF (jes (of_decide_eq_true h)).1;have this:(0:Int)<2^c.2.1.length/\(2:Int)^c.2.1.length<=256:=this;exact L.in64 (by omega) (by omega)
 .have:=jaF (jes (of_decide_eq_true h)).1;have this:(0:Int)<2^c.2.1.length/\(2:Int)^c.2.1.length<=256:=this;exact L.in64 (by omega) (by omega)
 .rw[jGW] at h;have a:=of_decide_eq_true h.1;have b:U.jn4 c n=false:=by
   have d:U.ja n 0 (2^c.2.1.length-1)=false:=(by simpa using h.2);exact d
  unfold U.qU;rw[if_neg (by omega),if_neg (by rw[b];simp)]
 .unfold U.qU;by_cases a:U.zX c j=0
  .rw[decide_eq_true a,Bool.true_and] at h;have b:U.jn4 c n=true:=by
    have d:U.ja n 0 (2^c.2.1.length-1)=true:=(by simpa using h);exact d
   rw[if_neg (by omega),if_pos b,a]
  .rw[if_pos a]
theorem jyD:zk PR 103 jxL:=jU jBL Tryz.func103 (kcC jp0 (kcC wY kcN)) koN
theorem jvk {c:CrD} {j:JbD} {n:Int} (h:U.qU c j n=0):U.zX c j=0/\0<=n/\n<2^(U.je c).length:=by
 unfold U.qU at h
 split at h
 .rename_i b;omega
 .rename_i b
  split at h
  .rename_i a;unfold U.jn4 U.ja at a;simp only[jGW,decide_eq_true_eq] at a;exact⟨by omega,a.1,by omega⟩
  .omega
theorem jwc:jrD:=by
 rintro⟨c,j,n,⟨⟩⟩;refine⟨fun h=> ?_,fun h=> ?_⟩
 .have h:U.qU c j n≠0:=of_decide_eq_true h;simp only;unfold U.jEZ;rw[if_neg h]
 .have h:U.qU c j n=0:=(by simpa using h);obtain⟨d,e,g⟩:=jvk h;obtain⟨b,f⟩:=jyv d;have k:=jaF (jes d).1;have a:U.tk (U.jl8 c j)=(c,j,U.yA c j,()):=(by rw[b];rfl);have i:=jwP (c,j,U.yA c j,()) n;simp only[a];refine⟨e,by omega,by rw[b];rfl,f,jpA ⟨e,by omega⟩,L.in64 (by omega) (by omega),?_⟩;unfold U.jEZ;rw[if_pos h,h]
theorem jmk (c:CrD) (j:JbD) (n:Nat):U.yh c j (n+1)=U.yh c j n++(if U.kG (c,j,U.yA c j,()) (nth (U.je c) n)=0 then[(n:Int)] else[]):=by
 unfold U.yh;rw[L.range_filter_succ,jHH];by_cases h:U.kG (c,j,U.yA c j,()) (nth (U.je c) n)=0
 .rw[if_pos (decide_eq_true h),if_pos h];rfl
 .rw[if_neg (by simpa using h),if_neg h];rfl
theorem jyX (c:CrD) (j:JbD) (n:Nat):(U.yh c j n).length<=n:=by
 unfold U.yh;rw[jHX];exact jHb (jH3 _ _) (by simp)
theorem jEb:jAI:=by
 rintro⟨c,j,⟨⟩⟩;refine⟨fun h=> ?_,fun h _=>⟨⟨0,⟨⟨rfl,trivial,trivial⟩,rfl,trivial⟩,jG7 _⟩,fun x f=>⟨fun a=> ?_,fun a=> ?_⟩⟩⟩
 .have h:U.zX c j≠0:=of_decide_eq_true h;simp only;unfold U.yr;rw[if_neg h]
 .have h:U.zX c j=0:=(by simpa using h);obtain⟨e,g⟩:=jyv h;have d:U.tk (U.jl8 c j)=(c,j,U.yA c j,()):=(by rw[e];rfl);have a:x<(U.je c).length:=by
   have a:=of_decide_eq_true a;have a:(x:Int)<((U.je c).length:Int):=a;omega
  have i:(x:Int)<((U.je c).length:Int):=(by omega);have k:=(jA (jes h).1).2.2.1;have l:=jyX c j x;simp only[d,jG1];refine⟨by omega,i,by rw[e];rfl,g,fun b=>⟨by simp only[jHy,jHM];omega,L.in64 (by omega) (by omega),x+1,⟨⟨by simp,trivial,trivial⟩,?_,trivial⟩,a,by omega⟩,fun b=>⟨L.in64 (by omega) (by omega),x+1,⟨⟨trivial,by simp,trivial⟩,?_,trivial⟩,a,by omega⟩⟩
  .have b:U.kG (c,j,U.yA c j,()) (nth (U.je c) x)=0:=of_decide_eq_true b;rw[jmk,if_pos b]
  .have b:¬U.kG (c,j,U.yA c j,()) (nth (U.je c) x)=0:=of_decide_eq_false b;rw[jmk,if_neg b,jHq]
 .have h:U.zX c j=0:=(by simpa using h);have a:(U.je c).length<=x:=by
   have a:=of_decide_eq_false a;have a:¬(x:Int)<((U.je c).length:Int):=a;omega
  have f:x<=(U.je c).length:=f;simp only;unfold U.yr;rw[if_pos h,h,show x=(U.je c).length by omega]
end Go.X
namespace Go.X
open Go.Proofs
def jk0:Ann:=fun r=>match r with
 |2=>some fun σ=>{X:=List (Int×Int)×Int,sl:=fun x=>[(4,.dat (.uint .u64) x.2)],ob:=fun x=>[(37,some (.iter .int .int x.1 none))],inv:=fun x=>U.vk (U.jfE (U.tk (gd (.ptr tTk) σ 0)) (gd tPe σ 1)) x.1 x.2,mu:=fun x=>x.1.length}
 |_=>none
abbrev q37_0 (d:Option (CrD×JbD×LwD×Unit)×PeD×Unit):=(j7 (((0:Int),[],[],()),((0:Int),(0:Int),(0:Int),(0:Int),(0:Int),(0:Int),()),((0:Int),(0:Int),false,()),()) d.1)
def jiT:Prop:=∀(d:Option (CrD×JbD×LwD×Unit)×PeD×Unit),d.1.isSome=true->U.yc (U.tk d.1)->d.1.isSome=true/\d.1.isSome=true/\(0:Int)<=(q37_0 d).2.1.2.2.2.1/\(q37_0 d).2.1.2.2.2.1<=64/\d.1.isSome=true/\(0:Int)<=(q37_0 d).2.1.2.2.2.2.1/\(q37_0 d).2.1.2.2.2.2.1<=64/\[(0:Int),(1:Int),(2:Int)].Nodup/\∀(l:List (Int×Int)),l.Perm [((0:Int),U.jEX !d.2.1.2.2.2.1.any fun(e:Int)=>decide (e=(q37_0 d).2.1.2.2.1)),((1:Int),qO (d.2.1.2.1/(2:Int)^(q37_0 d).2.1.2.2.2.1.toNat) (1:Int)),((2:Int),qO (d.2.1.2.2.1/(2:Int)^(q37_0 d).2.1.2.2.2.2.1.toNat) (1:Int))]->(((∃(x:List (Int×Int)×Int),((0=x.2/\True)/\l=x.1/\True)/\U.vk (U.jfE (U.tk d.1) d.2.1) x.1 x.2)/\∀(x:List (Int×Int)×Int),U.vk (U.jfE (U.tk d.1) d.2.1) x.1 x.2->(x.1=[]->(false=true->False)/\(false=false->(x.2,())=(U.kG (U.tk d.1) d.2.1,())))/\∀(pre:List (Int×Int)) (a:Int×Int) (b:List (Int×Int)),x.1=pre++a::b->(true=true->(decide (a.2=0)=true->0<=a.1/\a.1<=64/\(0:Int)<=1*2^a.1.toNat/\(1:Int)*2^a.1.toNat<=18446744073709551615/\∃(c:List (Int×Int)×Int),((uor x.2 ((1:Int)*2^a.1.toNat)=c.2/\True)/\pre++b=c.1/\True)/\U.vk (U.jfE (U.tk d.1) d.2.1) c.1 c.2/\c.1.length<x.1.length)/\(decide (a.2=0)=false->∃(c:List (Int×Int)×Int),((x.2=c.2/\True)/\pre++b=c.1/\True)/\U.vk (U.jfE (U.tk d.1) d.2.1) c.1 c.2/\c.1.length<x.1.length))/\(true=false->(x.2,())=(U.kG (U.tk d.1) d.2.1,())))/\True)/\True
end Go.X
namespace Go.X
open Go.Proofs
theorem juR (z:Int):qO z 1=0\/qO z 1=1:=by
 unfold qO;rw[BitVec.toNat_and];have a:(BitVec.ofInt 64 1).toNat=1:=rfl;rw[a,Nat.and_one_is_mod];rcases Nat.mod_two_eq_zero_or_one (BitVec.ofInt 64 z).toNat with h|h
 .rw[h];exact .inl rfl
 .rw[h];exact .inr rfl
theorem juQ (s n:Int):(qO (s/2^n.toNat) 1=0)↔(!U.jG s n)=true:=by
 unfold U.jG;rcases juR (s/2^n.toNat) with h|h<;>rw[h]<;>simp
theorem jAR (a b c:Bool) (p:Nat):BT.has (U.jvn a b c) p=true↔(a=true/\p=0)\/(b=true/\p=1)\/(c=true/\p=2):=by
 match p with
 |0=>cases a<;>cases b<;>cases c<;>decide
 |1=>cases a<;>cases b<;>cases c<;>decide
 |2=>cases a<;>cases b<;>cases c<;>decide
 |p+3=>
  have h:=jxA a b c;have:BT.has (U.jvn a b c) (p+3)=false:=by
   cases d:BT.has (U.jvn a b c) (p+3) with
   |false=>rfl
   |true=>have:=BT.has_lt (k:=3) h.1 (by omega) d;omega
  rw[this];simp
theorem jBA (t:TkD) (p:PeD) (k:Nat):(∃e∈U.jfE t p,e.2=0/\e.1.toNat=k)↔BT.has (U.kG t p) k=true:=by
 unfold U.kG;rw[jAR];have c:U.jEX (!U.vX p (U.jAE (U.tj t)))=0↔U.vX p (U.jAE (U.tj t))=true:=by
  unfold U.jEX;cases U.vX p (U.jAE (U.tj t))<;>simp
 have d:=juQ (U.fd p) (U.jsU (U.tj t));have f:=juQ (U.cl p) (U.jru (U.tj t));unfold U.jfE;simp only[jGX,List.not_mem_nil,or_false];rw[<-c,<-d,<-f];constructor
 .rintro⟨e,(rfl|rfl|rfl),a,b⟩
  .exact .inl ⟨a,b.symm⟩
  .exact .inr (.inl ⟨a,b.symm⟩)
  .exact .inr (.inr ⟨a,b.symm⟩)
 .rintro(⟨a,b⟩|⟨a,b⟩|⟨a,b⟩)
  .exact⟨_,.inl rfl,a,b.symm⟩
  .exact⟨_,.inr (.inl rfl),a,b.symm⟩
  .exact⟨_,.inr (.inr rfl),a,b.symm⟩
theorem jBz {t:TkD} {p:PeD} {e:Int×Int} (h:e∈U.jfE t p):0<=e.1/\e.1<=2:=by
 unfold U.jfE at h;simp only[jGX,List.not_mem_nil,or_false] at h;rcases h with rfl|rfl|rfl<;>simp
theorem jv6 (t:TkD) (p:PeD):(U.jfE t p).Nodup:=by
 unfold U.jfE;simp
theorem jtQ {t:TkD} {p:PeD} {l:List (Int×Int)} (h:l.Perm (U.jfE t p)):U.vk (U.jfE t p) l 0:=by
 refine⟨BT.zero_set,h.symm.nodup (jv6 t p),fun e c=>h.mem_iff.1 c,fun k=> ?_⟩;rw[BT.has_zero];constructor
 .intro h;cases h
 .rintro⟨e,a,b,_⟩;exact absurd (h.mem_iff.2 a) b
theorem jw5 {t:TkD} {p:PeD} {s:Int} (h:U.vk (U.jfE t p) [] s):s=U.kG t p:=by
 obtain⟨a,_,_,c⟩:=h;refine BT.ext a (jpA (by have:=jk4 t p;omega)) (fun k=> ?_);rw[jHs,c,<-jBA];constructor
 .rintro⟨e,a,_,b⟩;exact⟨e,a,b⟩
 .rintro⟨e,a,b⟩;exact⟨e,a,by simp,b⟩
theorem jmO {all pre a:List (Int×Int)} {e:Int×Int} {s j:Int} (h:U.vk all (pre++e::a) s) (p:BT.Set' j) (hk:∀k,BT.has j k=true↔BT.has s k=true\/(e.2=0/\e.1.toNat=k)):U.vk all (pre++a) j:=by
 obtain⟨q,m,l,n⟩:=h;have i:(e::(pre++a)).Nodup:=List.perm_middle.nodup m;have b:∀x,x∈pre++e::a↔x=e\/x∈pre++a:=fun x=>by rw[List.perm_middle.mem_iff,jGX]
 rw[jHP] at i;refine⟨p,i.2,fun x c=>l x ((b x).2 (.inr c)),fun k=> ?_⟩;rw[hk,n];constructor
 .rintro(⟨x,d,f,g⟩|⟨d,f⟩)
  .exact⟨x,d,fun c=>f ((b x).2 (.inr c)),g⟩
  .exact⟨e,l e ((b e).2 (.inl rfl)),i.1,d,f⟩
 .rintro⟨x,d,f,g⟩;by_cases c:x=e
  .subst c;exact .inr g
  .exact .inl ⟨x,d,fun o=>by rcases(b x).1 o with h|h;exact c h;exact f h,g⟩
theorem jly:jiT:=by
 unfold jiT q37_0;rintro⟨(_|t),p,⟨⟩⟩ s d
 .cases s
 have d:U.yc t:=d;have r:U.tk (some t)=t:=rfl;obtain⟨c1,c2,_⟩:=id d;obtain⟨_,_,_,⟨m,o⟩,⟨n,q⟩,_⟩:=jcc c2;have m:0<=t.2.1.2.2.2.1:=m;have o:t.2.1.2.2.2.1<=7:=o;have n:0<=t.2.1.2.2.2.2.1:=n;have q:t.2.1.2.2.2.2.1<=3:=q;refine⟨rfl,rfl,m,by simp only[j7];omega,rfl,n,by simp only[j7];omega,by decide,fun l w=>⟨⟨⟨⟨(l,0),⟨⟨rfl,trivial⟩,rfl,trivial⟩,jtQ w⟩,fun x b=>⟨fun h=>⟨fun h=>(by cases h),fun _=> ?_⟩,fun pre e a h=>⟨fun _=> ?_,fun h=>(by cases h)⟩⟩⟩,trivial⟩,trivial⟩⟩
 .rw[h] at b;rw[jw5 b]
 .rw[h] at b;have u:e∈U.jfE t p:=b.2.2.1 e (by simp);have hk:=jBz u;obtain⟨k,g,v⟩:∃k:Nat,e.1=(k:Int)/\k<=2:=⟨e.1.toNat,by omega,by omega⟩;have y:(1:Int)*2^k=2^k:=Int.one_mul _;have c:(pre++a).length<x.1.length:=(by rw[h];simp);have i:BT.Set' ((2:Int)^k):=BT.two_set (by omega);refine⟨fun f=> ?_,fun f=> ?_⟩
  .have f:e.2=0:=of_decide_eq_true f;rw[g,jG1,y];refine⟨by omega,by omega,by unfold BT.Set' at i;omega,by unfold BT.Set' at i;omega,(pre++a,uor x.2 (2^k)),⟨⟨rfl,trivial⟩,rfl,trivial⟩,jmO b (BT.uor_set b.1 i) (fun j=> ?_),c⟩;rw[BT.has_uor b.1 i,BT.has_two,jH5,decide_eq_true_eq,g,jG1];simp[f]
  .have f:¬e.2=0:=of_decide_eq_false f;exact⟨(pre++a,x.2),⟨⟨rfl,trivial⟩,rfl,trivial⟩,jmO b b.1 (fun j=>by simp[f]),c⟩
theorem jbX:zk PR 95 kA:=kI jk0 jly Tryz.func95 (kcC yJ (kcC jvP kcN)) koN
theorem jq3:(jrw 64 [(95,kA),(126,wA),(127,wz)] [] [(125,jH)] []).ok PR:=jtx ⟨fun _=>jbX,fun _=>jnM,fun _=>jnL,trivial⟩ trivial ⟨gH,trivial⟩ trivial
theorem jh3:zk PR 104 ja4:=
 jyc (body:=zM Tryz.f104) (C:=jrw 64 [(95,kA),(126,wA),(127,wz)] [] [(125,jH)] []) (hk:=hkC (jrw 64 [(95,kA),(126,wA),(127,wz)] [] [(125,jH)] []) (fun _=>none) ji3 [] []) jq3 mixed Tryz.func104 (by kernel_rfl) (by kernel_rfl) (by kernel_rfl) (by decide)
  (fun B=>jmw jq3 mixed (fun k ts rs sv d L v ρ hk c a b=>by
   unfold ji3 at hk
   split at hk
   case h_2=>cases hk
   simp only[Option.some.injEq] at hk
   cases hk
   exact jqm c a b) jDX B) (jdC.mpr jki)
theorem jsF:zk PR 74 jr3:=jU jwc Tryz.func74 (kcC jyD (kcC jh3 kcN)) koN
theorem jBj:zk PR 65 jAU:=kI jCr jEb Tryz.func65 (kcC jp0 (kcC jbX kcN)) koN
end Go.X
namespace Go.X
namespace U
def jae (a b:Int):Int:=if a<b then-1 else if b<a then 1 else 0
def wE (l:List Int):Int:=match l.find? (fun n=>decide (n≠0)) with|some n=>n|none=>0
end U
structure jbu {α:Type} (c:α->α->Int):Prop where
 anti:∀a b,c b a= -(c a b)
 trans:∀a b d,c a b<=0->c b d<=0->c a d<=0
section
variable {α:Type} {c c1 c2:α->α->Int}
theorem jbu.refl (h:jbu c) (a:α):c a a=0:=by have:=h.anti a a;omega
theorem jbu.lt_le (h:jbu c) {a b d:α} (g:c a b<0) (f:c b d<=0):c a d<0:=by
 have i:=h.trans a b d (by omega) f;have j:=h.anti a d;have k:=h.anti a b;by_cases e:c a d=0
 .have:=h.trans b d a f (by omega);omega
 .omega
theorem jbu.le_lt (h:jbu c) {a b d:α} (f:c a b<=0) (g:c b d<0):c a d<0:=by
 have i:=h.trans a b d f (by omega);have j:=h.anti a d;have k:=h.anti b d;by_cases e:c a d=0
 .have:=h.trans d a b (by omega) f;omega
 .omega
theorem jbu.eq_eq (h:jbu c) {a b d:α} (e:c a b=0) (f:c b d=0):c a d=0:=by
 have g:=h.trans a b d (by omega) (by omega);have i:=h.anti a d;have j:=h.anti a b;have k:=h.anti b d;have:=h.trans d b a (by omega) (by omega);omega
def jAD (c1 c2:α->α->Int) (a b:α):Int:=if c1 a b≠0 then c1 a b else c2 a b
theorem jgS (c:jbu c1) (g:jbu c2):jbu (jAD c1 c2) where
 anti a b:=by
  have i:=c.anti a b;have h:=g.anti a b;unfold jAD;by_cases e:c1 a b=0
  .rw[if_neg (by omega),if_neg (by omega)];exact h
  .rw[if_pos (by omega),if_pos e];exact i
 trans a b d:=by
  unfold jAD;by_cases e:c1 a b=0
  .rw[if_neg (by omega)];by_cases f:c1 b d=0
   .rw[if_neg (by omega),if_neg (by have:=c.eq_eq e f;omega)];exact g.trans a b d
   .rw[if_pos f];intro _ k;have:=c.le_lt (a:=a) (b:=b) (d:=d) (by omega) (by omega);rw[if_pos (by omega)];omega
  .rw[if_pos e];intro k;by_cases f:c1 b d=0
   .rw[if_neg (by omega)];intro _;have:=c.lt_le (a:=a) (b:=b) (d:=d) (by omega) (by omega);rw[if_pos (by omega)];omega
   .rw[if_pos f];intro h;have:=c.lt_le (a:=a) (b:=b) (d:=d) (by omega) (by omega);rw[if_pos (by omega)];omega
theorem jhq {e:Type} (h:jbu c) (f:e->α):jbu (fun a b=>c (f a) (f b)):=⟨fun a b=>h.anti (f a) (f b),fun a b d=>h.trans (f a) (f b) (f d)⟩
end
theorem jf4:jbu U.jae:=by
 constructor
 .intro a b;unfold U.jae;split<;>split<;>(try split)<;>(try split)<;>omega
 .intro a b d;unfold U.jae;split<;>split<;>(try split)<;>(try split)<;>(try split)<;>(try split)<;>omega
theorem jz4 {a b:Int}:U.jae a b<0↔a<b:=by
 unfold U.jae
 split
 .simp;omega
 .split<;>simp<;>omega
theorem vM {a b:Int}:U.jae a b=0↔a=b:=by
 unfold U.jae
 split
 .simp;omega
 .split
  .simp;omega
  .simp;omega
theorem zy (x:Int) (l:List Int):U.wE (x::l)=if x≠0 then x else U.wE l:=by
 unfold U.wE;by_cases e:x=0
 .simp[List.find?,e]
 .simp[List.find?,e]
theorem wq (x:Int):U.wE [x]=x:=by
 rw[zy]
 split
 .rfl
 .rename_i h;have:x=0:=(by omega);rw[this];rfl
theorem jnG {t:Ty} {c:t.Data->t.Data->Int} (d:jbu c) {l:List t.Data} (h:∀x y,x∈l->y∈l->c x y=0->x=y):kK (U.jg t fun x=>(c x.1 x.2.1,())) l where
 irrefl x _:=by
  unfold U.jg;have:=d.refl x;simp only[this];rfl
 trans x y z _ _ _ b a:=by
  unfold U.jg at*;have b:=of_decide_eq_true b;have a:=of_decide_eq_true a;exact decide_eq_true (d.lt_le b (by have a:c y z<0:=a;show c y z<=0;omega))
 total x y hx hy b a:=by
  unfold U.jg at*;have b:¬c x y<0:=of_decide_eq_false b;have a:¬c y x<0:=of_decide_eq_false a;have:=d.anti x y;exact h x y hx hy (by omega)
end Go.X
namespace Go.X
namespace M
theorem mput_cons {kt:Ty} {a:Type} (k:kt.Data) (v:a) (e:kt.Data×a) (r:List (kt.Data×a)):jd8 kt k v (e::r)=if @decide (k=e.1) (kt.decEq k e.1)=true then(k,v)::r else e::jd8 kt k v r:=rfl
theorem mfind_cons {kt:Ty} {a:Type} (k:kt.Data) (e:kt.Data×a) (r:List (kt.Data×a)):zI kt k (e::r)=if @decide (k=e.1) (kt.decEq k e.1)=true then some e.2 else zI kt k r:=rfl
theorem dec_self {kt:Ty} (k:kt.Data): @decide (k=k) (kt.decEq k k)=true:= @decide_eq_true _ (kt.decEq k k) rfl
theorem mput_fst {kt:Ty} {b:Type} (k:kt.Data) (v:b):∀m:List (kt.Data×b),(jd8 kt k v m).map (·.1)=m.map (·.1)\/(k∉m.map (·.1)/\(jd8 kt k v m).map (·.1)=m.map (·.1)++[k])
 |[]=> .inr ⟨by simp,rfl⟩
 |e::r=>by
  rw[mput_cons]
  by_cases h: @decide (k=e.1) (kt.decEq k e.1)=true
  .rw[if_pos h]
   have h:k=e.1:= @of_decide_eq_true _ (kt.decEq k e.1) h
   left
   simp[h]
  .rw[if_neg h]
   have h:¬k=e.1:=fun a=>h (@decide_eq_true _ (kt.decEq k e.1) a)
   rcases mput_fst k v r with f|⟨c,d⟩
   .left;simp only[jHW,f]
   .right
    refine⟨?_,by simp only[jHW,d,jHt]⟩
    rw[jHW,jGX]
    rintro(a|a)
    .exact h a
    .exact c a
theorem mfind_mput {kt:Ty} {a:Type} (k:kt.Data) (v:a):∀l:List (kt.Data×a),zI kt k (jd8 kt k v l)=some v
 |[]=>by
  rw[show jd8 kt k v []=[(k,v)] from rfl,mfind_cons,if_pos (dec_self k)]
 |e::r=>by
  rw[mput_cons]
  by_cases h: @decide (k=e.1) (kt.decEq k e.1)=true
  .rw[if_pos h,mfind_cons,if_pos (dec_self k)]
  .rw[if_neg h,mfind_cons,if_neg h]
   exact mfind_mput k v r
theorem mfind_mput_ne {kt:Ty} {b:Type} {k k':kt.Data} (a:k'≠k) (v:b):∀l:List (kt.Data×b),zI kt k' (jd8 kt k v l)=zI kt k' l
 |[]=>by
  rw[show jd8 kt k v []=[(k,v)] from rfl,mfind_cons,if_neg (fun e=>a (@of_decide_eq_true _ (kt.decEq k' k) e))]
 |e::r=>by
  rw[mput_cons]
  by_cases h: @decide (k=e.1) (kt.decEq k e.1)=true
  .rw[if_pos h]
   have h:k=e.1:= @of_decide_eq_true _ (kt.decEq k e.1) h
   have d:¬@decide (k'=e.1) (kt.decEq k' e.1)=true:=fun c=>a ((@of_decide_eq_true _ (kt.decEq k' e.1) c).trans h.symm)
   rw[mfind_cons,mfind_cons,if_neg d,if_neg (fun e=>a (@of_decide_eq_true _ (kt.decEq k' k) e))]
  .rw[if_neg h,mfind_cons,mfind_cons,mfind_mput_ne a v r]
end M
end Go.X
namespace Go.Proofs
open Go.Shelf
def Tryz.sortSh_ren:Go.Shelf.Ren:=⟨fun|6=>83|15=>118|14=>117|28=>152|29=>153|20=>144|21=>145|22=>146|23=>147|24=>148|25=>149|26=>150|27=>151|46=>183|47=>184|48=>185|49=>186|50=>187|57=>197|n=>n,fun|22=>28|24=>55|25=>119|3=>3|39=>64|0=>0|53=>179|55=>181|4=>4|46=>172|45=>171|50=>176|5=>5|9=>9|66=>197|70=>201|76=>211|77=>212|n=>n,fun|n=>n⟩
theorem Tryz.sortSh:Go.Proofs.SlLaysF0.n6 Tryz.prog Tryz.sortSh_ren:={
 mixed:=by kernel_rfl
 f6:=⟨Tryz.f83.name,by decide,Tryz.func83.trans (congrArg some (by kernel_rfl))⟩
 f14:=⟨Tryz.f117.name,by decide,Tryz.func117.trans (congrArg some (by kernel_rfl))⟩
 f15:=Tryz.func118.trans (congrArg some (by kernel_rfl))
 f20:=⟨Tryz.f144.name,by decide,Tryz.func144.trans (congrArg some (by kernel_rfl))⟩
 f21:=⟨Tryz.f145.name,by decide,Tryz.func145.trans (congrArg some (by kernel_rfl))⟩
 f22:=⟨Tryz.f146.name,by decide,Tryz.func146.trans (congrArg some (by kernel_rfl))⟩
 f23:=⟨Tryz.f147.name,by decide,Tryz.func147.trans (congrArg some (by kernel_rfl))⟩
 f24:=⟨Tryz.f148.name,by decide,Tryz.func148.trans (congrArg some (by kernel_rfl))⟩
 f25:=⟨Tryz.f149.name,by decide,Tryz.func149.trans (congrArg some (by kernel_rfl))⟩
 f26:=⟨Tryz.f150.name,by decide,Tryz.func150.trans (congrArg some (by kernel_rfl))⟩
 f27:=⟨Tryz.f151.name,by decide,Tryz.func151.trans (congrArg some (by kernel_rfl))⟩
 f28:=Tryz.func152.trans (congrArg some (by kernel_rfl))
 f29:=Tryz.func153.trans (congrArg some (by kernel_rfl))
 f46:=⟨Tryz.f183.name,by decide,Tryz.func183.trans (congrArg some (by kernel_rfl))⟩
 f47:=Tryz.func184.trans (congrArg some (by kernel_rfl))
 f48:=Tryz.func185.trans (congrArg some (by kernel_rfl))
 f49:=⟨Tryz.f186.name,by decide,Tryz.func186.trans (congrArg some (by kernel_rfl))⟩
 f50:=⟨Tryz.f187.name,by decide,Tryz.func187.trans (congrArg some (by kernel_rfl))⟩
 f57:=⟨Tryz.f197.name,by decide,Tryz.func197.trans (congrArg some (by kernel_rfl))⟩
 t0:=Tryz.underlying0
 a0:=Tryz.isAgg0
 z0:=Tryz.sizeOf0
 v0:=Tryz.zeroValue0
 t3:=Tryz.underlying3
 a3:=Tryz.isAgg3
 z3:=Tryz.sizeOf3
 v3:=Tryz.zeroValue3
 t4:=Tryz.underlying4
 a4:=Tryz.isAgg4
 z4:=Tryz.sizeOf4
 v4:=Tryz.zeroValue4
 t5:=Tryz.underlying5
 a5:=Tryz.isAgg5
 z5:=Tryz.sizeOf5
 v5:=Tryz.zeroValue5
 t9:=Tryz.underlying9
 a9:=Tryz.isAgg9
 z9:=Tryz.sizeOf9
 v9:=Tryz.zeroValue9
 t22:=Tryz.underlying28
 a22:=Tryz.isAgg28
 z22:=Tryz.sizeOf28
 v22:=Tryz.zeroValue28
 t25:=Tryz.underlying119
 a25:=Tryz.isAgg119
 z25:=Tryz.sizeOf119
 v25:=Tryz.zeroValue119
 t39:=Tryz.underlying64
 a39:=Tryz.isAgg64
 z39:=Tryz.sizeOf64
 v39:=Tryz.zeroValue64
 t45:=Tryz.underlying171
 a45:=Tryz.isAgg171
 z45:=Tryz.sizeOf171
 v45:=Tryz.zeroValue171
 t46:=Tryz.underlying172
 a46:=Tryz.isAgg172
 z46:=Tryz.sizeOf172
 v46:=Tryz.zeroValue172
 t50:=Tryz.underlying176
 a50:=Tryz.isAgg176
 z50:=Tryz.sizeOf176
 v50:=Tryz.zeroValue176
 t53:=Tryz.underlying179
 a53:=Tryz.isAgg179
 z53:=Tryz.sizeOf179
 v53:=Tryz.zeroValue179
 t55:=Tryz.underlying181
 a55:=Tryz.isAgg181
 z55:=Tryz.sizeOf181
 v55:=Tryz.zeroValue181
 t66:=Tryz.underlying197
 a66:=Tryz.isAgg197
 z66:=Tryz.sizeOf197
 v66:=Tryz.zeroValue197
 t70:=Tryz.underlying201
 a70:=Tryz.isAgg201
 z70:=Tryz.sizeOf201
 v70:=Tryz.zeroValue201
 t76:=Tryz.underlying211
 a76:=Tryz.isAgg211
 z76:=Tryz.sizeOf211
 v76:=Tryz.zeroValue211
 t77:=Tryz.underlying212
 a77:=Tryz.isAgg212
 z77:=Tryz.sizeOf212
 v77:=Tryz.zeroValue212}
def Tryz.sortI_ren:Go.Shelf.Ren:=⟨fun|189=>97|125=>118|257=>121|128=>152|129=>153|294=>154|295=>155|296=>156|297=>157|298=>158|299=>159|216=>160|300=>161|301=>162|328=>188|329=>184|330=>185|331=>189|332=>190|215=>102|343=>198|n=>n,fun|28=>34|3=>3|46=>64|0=>0|51=>179|53=>181|4=>4|183=>172|182=>171|131=>176|5=>5|9=>9|218=>197|222=>201|228=>211|229=>212|n=>n,fun|n=>n⟩
theorem Tryz.sortI:Go.Proofs.Lays.n189 Tryz.prog Tryz.sortI_ren:={
 mixed:=by kernel_rfl
 f125:=Tryz.func118.trans (congrArg some (by kernel_rfl))
 f128:=Tryz.func152.trans (congrArg some (by kernel_rfl))
 f129:=Tryz.func153.trans (congrArg some (by kernel_rfl))
 f189:=Tryz.func97.trans (congrArg some (by kernel_rfl))
 f215:=Tryz.func102.trans (congrArg some (by kernel_rfl))
 f216:=Tryz.func160.trans (congrArg some (by kernel_rfl))
 f257:=Tryz.func121.trans (congrArg some (by kernel_rfl))
 f294:=Tryz.func154.trans (congrArg some (by kernel_rfl))
 f295:=Tryz.func155.trans (congrArg some (by kernel_rfl))
 f296:=Tryz.func156.trans (congrArg some (by kernel_rfl))
 f297:=Tryz.func157.trans (congrArg some (by kernel_rfl))
 f298:=Tryz.func158.trans (congrArg some (by kernel_rfl))
 f299:=Tryz.func159.trans (congrArg some (by kernel_rfl))
 f300:=Tryz.func161.trans (congrArg some (by kernel_rfl))
 f301:=Tryz.func162.trans (congrArg some (by kernel_rfl))
 f328:=Tryz.func188.trans (congrArg some (by kernel_rfl))
 f329:=Tryz.func184.trans (congrArg some (by kernel_rfl))
 f330:=Tryz.func185.trans (congrArg some (by kernel_rfl))
 f331:=Tryz.func189.trans (congrArg some (by kernel_rfl))
 f332:=Tryz.func190.trans (congrArg some (by kernel_rfl))
 f343:=Tryz.func198.trans (congrArg some (by kernel_rfl))
 t0:=Tryz.underlying0
 a0:=Tryz.isAgg0
 z0:=Tryz.sizeOf0
 v0:=Tryz.zeroValue0
 t3:=Tryz.underlying3
 a3:=Tryz.isAgg3
 z3:=Tryz.sizeOf3
 v3:=Tryz.zeroValue3
 t4:=Tryz.underlying4
 a4:=Tryz.isAgg4
 z4:=Tryz.sizeOf4
 v4:=Tryz.zeroValue4
 t5:=Tryz.underlying5
 a5:=Tryz.isAgg5
 z5:=Tryz.sizeOf5
 v5:=Tryz.zeroValue5
 t9:=Tryz.underlying9
 a9:=Tryz.isAgg9
 z9:=Tryz.sizeOf9
 v9:=Tryz.zeroValue9
 t28:=Tryz.underlying34
 a28:=Tryz.isAgg34
 z28:=Tryz.sizeOf34
 v28:=Tryz.zeroValue34
 t46:=Tryz.underlying64
 a46:=Tryz.isAgg64
 z46:=Tryz.sizeOf64
 v46:=Tryz.zeroValue64
 t51:=Tryz.underlying179
 a51:=Tryz.isAgg179
 z51:=Tryz.sizeOf179
 v51:=Tryz.zeroValue179
 t53:=Tryz.underlying181
 a53:=Tryz.isAgg181
 z53:=Tryz.sizeOf181
 v53:=Tryz.zeroValue181
 t131:=Tryz.underlying176
 a131:=Tryz.isAgg176
 z131:=Tryz.sizeOf176
 v131:=Tryz.zeroValue176
 t182:=Tryz.underlying171
 a182:=Tryz.isAgg171
 z182:=Tryz.sizeOf171
 v182:=Tryz.zeroValue171
 t183:=Tryz.underlying172
 a183:=Tryz.isAgg172
 z183:=Tryz.sizeOf172
 v183:=Tryz.zeroValue172
 t218:=Tryz.underlying197
 a218:=Tryz.isAgg197
 z218:=Tryz.sizeOf197
 v218:=Tryz.zeroValue197
 t222:=Tryz.underlying201
 a222:=Tryz.isAgg201
 z222:=Tryz.sizeOf201
 v222:=Tryz.zeroValue201
 t228:=Tryz.underlying211
 a228:=Tryz.isAgg211
 z228:=Tryz.sizeOf211
 v228:=Tryz.zeroValue211
 t229:=Tryz.underlying212
 a229:=Tryz.isAgg212
 z229:=Tryz.sizeOf212
 v229:=Tryz.zeroValue212}
end Go.Proofs
namespace Go.X
open Go.Proofs
abbrev rwS:Sh:= .cl (.row 55 tSh .unk)
namespace U
def jht (s:SpD):Bool:=(decide (0<=lo s)&&decide (lo s<=hi s))&&decide (hi s<=300)
def jjP (n:Nat) (b:BkD):Bool:=((ja (jwR b) 0 ((n:Int)-1)&&decide (0<=jag b))&&decide (jag b<joB b))&&decide (joB b<=1440)
def jqe (nb a:Nat) (s:ShD):Bool:=(((ja (wv s) 0 99&&ja (joM s) 0 9999)&&ja (jAB s) 1 2)&&ja (vq s) 0 ((nb:Int)-1))&&ja (qq s) 0 ((a:Int)-1)
def yP (a b:ShD):Int:=wE [jae (wv a) (wv b),jae (joM a) (joM b),jae (jAB a) (jAB b),jae (vq a) (vq b),jae (qq a) (qq b)]
def js (a b:ShD):Int:=wE [jae (joM a) (joM b),jae (wv a) (wv b)]
def wt (a b:ShD):Bool:=decide (a=b)
def jY (l:List ShD):List ShD:=vz wt (jd (jg tSh fun x=>(yP x.1 x.2.1,())) l)
def jcT (m:List (Int×Int)) (s:ShD):List (Int×Int):=jd8 .int (wv s) (kS 0 (zI .int (wv s) m)+1) m
def kY (m:List (Int×Int)) (l:List ShD) (n:Nat):List (Int×Int):=(l.take n).foldl jcT m
def juY (m:List (Int×Int)) (s:ShD):Bool:=decide (1<kS 0 (zI .int (wv s) (jcT m s)))
def jgf (m:List (Int×Int)) (l:List ShD) (i:Nat):Bool:=juY (kY m l i) (nth l i)
def jcv (m:List (Int×Int)) (l:List ShD):Int:=jal (jgf m l) (List.range l.length)
def jAu (m:List (Int×Int)) (l:List ShD):Nat:=match(List.range l.length).findIdx? (jgf m l) with|some i=>i+1|none=>l.length
def jet (m:List (Int×Int)) (l:List ShD):List (Int×Int):=kY m l (jAu m l)
def jFK (m:List (Int×Int)):Prop:=m=[]
def jxU (m:List (Int×Int)):Prop:=∀k,0<=kS 0 (zI .int k m)/\kS 0 (zI .int k m)<=200000
def jxd (l:List ShD):Bool:=decide (0<=jcv [] l)
def jkQ (d:DyD):Int:=if jj (jc d)=false then 30 else if jv8 d=false then 31 else 0
def ju (d:DyD):Int:=if jkQ d≠0 then jkQ d else if zA d=false then 50 else if jxd (jY (kl d))=true then 51 else 0
end U
def jr4:jT:=⟨[.val .int,.val .int,.val .int],[.bool],false,fun _=>[],fun d=>(U.ja d.1 d.2.1 d.2.2.1,())⟩
def jrE:Prop:=∀(d:Int×Int×Int×Unit),(decide (d.2.1<=d.1)&&decide (d.1<=d.2.2.1),())=(U.ja d.1 d.2.1 d.2.2.1,())
def jc4:jT:=⟨[.val (.slice tSp),.fn [tSp] [.bool]],[.int],false,fun d=>[∀g∈d.1,U.jD (d.2.1.pre (g,()))],fun d=>(U.jal (U.jb (α:=SpD) d.2.1.F) d.1,())⟩
def jdh:Ann:=fun r=>match r with
 |2=>some fun σ=>{X:=Nat,sl:=fun i=>[(8,.dat .int (i:Int))],ob:=fun _=>[],inv:=fun i=>i<=(gd (.slice tSp) σ 0).length/\∀b:Nat,b<i->U.jb (gfb tSp σ 1) (nth (gd (.slice tSp) σ 0) b)=false,mu:=fun i=>(gd (.slice tSp) σ 0).length-i}
 |_=>none
def jcZ:Prop:=∀(d:List (Int×Int×Unit)×FnD [tSp] [Ty.bool]×Unit),(∀(g:Int×Int×Unit),g∈d.1->U.jD (d.2.1.1 (g,())))->d.1.length<4611686018427387904->(∃(x:Nat),((0=(x:Int)/\True)/\True)/\x<=d.1.length/\∀(b:Nat),b<x->U.jb d.2.1.2 (nth d.1 b)=false)/\∀(x:Nat),(x<=d.1.length/\∀(b:Nat),b<x->U.jb d.2.1.2 (nth d.1 b)=false)->(decide ((x:Int)<(d.1.length:Int))=true->0<=(x:Int)/\(x:Int)<(d.1.length:Int)/\asks (d.2.1.1 (nth d.1 (x:Int).toNat,())) (((d.2.1.2 (nth d.1 (x:Int).toNat,())).1=true->((x:Int),())=(U.jal (U.jb d.2.1.2) d.1,()))/\((d.2.1.2 (nth d.1 (x:Int).toNat,())).1=false->jw ((x:Int)+1)/\∃(a:Nat),(((x:Int)+1=(a:Int)/\True)/\True)/\(a<=d.1.length/\∀(b:Nat),b<a->U.jb d.2.1.2 (nth d.1 b)=false)/\d.1.length-a<d.1.length-x)))/\(decide ((x:Int)<(d.1.length:Int))=false->((-1:Int),())=(U.jal (U.jb d.2.1.2) d.1,()))
def jaw:jT:=⟨[.val (.slice tSp),.fn [tSp] [.bool]],[.bool],false,fun d=>[∀g∈d.1,U.jD (d.2.1.pre (g,()))],fun d=>(d.1.any (U.jb (α:=SpD) d.2.1.F),())⟩
def jat:Prop:=∀(d:List (Int×Int×Unit)×FnD [tSp] [Ty.bool]×Unit),(∀(g:Int×Int×Unit),g∈d.1->U.jD (d.2.1.1 (g,())))->(∀(g:Int×Int×Unit),g∈d.1->U.jD (d.2.1.1 (g,())))/\(decide (0<=U.jal (U.jb d.2.1.2) d.1),())=(d.1.any (U.jb d.2.1.2),())
def jbI:jT:=⟨[.val (.slice (.slice tSp)),.fn [(.slice tSp)] [.bool]],[.int],false,fun d=>[∀g∈d.1,U.jD (d.2.1.pre (g,()))],fun d=>(U.jal (U.jb (α:=(List SpD)) d.2.1.F) d.1,())⟩
def jcr:Ann:=fun r=>match r with
 |2=>some fun σ=>{X:=Nat,sl:=fun i=>[(8,.dat .int (i:Int))],ob:=fun _=>[],inv:=fun i=>i<=(gd (.slice (.slice tSp)) σ 0).length/\∀b:Nat,b<i->U.jb (gfb (.slice tSp) σ 1) (nth (gd (.slice (.slice tSp)) σ 0) b)=false,mu:=fun i=>(gd (.slice (.slice tSp)) σ 0).length-i}
 |_=>none
def jbA:Prop:=∀(d:List (List (Int×Int×Unit))×FnD [tSp.slice] [Ty.bool]×Unit),(∀(g:List (Int×Int×Unit)),g∈d.1->U.jD (d.2.1.1 (g,())))->d.1.length<4611686018427387904->(∃(x:Nat),((0=(x:Int)/\True)/\True)/\x<=d.1.length/\∀(b:Nat),b<x->U.jb d.2.1.2 (nth d.1 b)=false)/\∀(x:Nat),(x<=d.1.length/\∀(b:Nat),b<x->U.jb d.2.1.2 (nth d.1 b)=false)->(decide ((x:Int)<(d.1.length:Int))=true->0<=(x:Int)/\(x:Int)<(d.1.length:Int)/\asks (d.2.1.1 (nth d.1 (x:Int).toNat,())) (((d.2.1.2 (nth d.1 (x:Int).toNat,())).1=true->((x:Int),())=(U.jal (U.jb d.2.1.2) d.1,()))/\((d.2.1.2 (nth d.1 (x:Int).toNat,())).1=false->jw ((x:Int)+1)/\∃(a:Nat),(((x:Int)+1=(a:Int)/\True)/\True)/\(a<=d.1.length/\∀(b:Nat),b<a->U.jb d.2.1.2 (nth d.1 b)=false)/\d.1.length-a<d.1.length-x)))/\(decide ((x:Int)<(d.1.length:Int))=false->((-1:Int),())=(U.jal (U.jb d.2.1.2) d.1,()))
def gx:jT:=⟨[.val (.slice (.slice tSp)),.fn [(.slice tSp)] [.bool]],[.bool],false,fun d=>[∀g∈d.1,U.jD (d.2.1.pre (g,()))],fun d=>(d.1.any (U.jb (α:=(List SpD)) d.2.1.F),())⟩
def gp:Prop:=∀(d:List (List (Int×Int×Unit))×FnD [tSp.slice] [Ty.bool]×Unit),(∀(g:List (Int×Int×Unit)),g∈d.1->U.jD (d.2.1.1 (g,())))->(∀(g:List (Int×Int×Unit)),g∈d.1->U.jD (d.2.1.1 (g,())))/\(decide (0<=U.jal (U.jb d.2.1.2) d.1),())=(d.1.any (U.jb d.2.1.2),())
def jav:jT:=⟨[.val (.slice tBk),.fn [tBk] [.bool]],[.int],false,fun d=>[∀g∈d.1,U.jD (d.2.1.pre (g,()))],fun d=>(U.jal (U.jb (α:=BkD) d.2.1.F) d.1,())⟩
def jaX:Ann:=fun r=>match r with
 |2=>some fun σ=>{X:=Nat,sl:=fun i=>[(8,.dat .int (i:Int))],ob:=fun _=>[],inv:=fun i=>i<=(gd (.slice tBk) σ 0).length/\∀b:Nat,b<i->U.jb (gfb tBk σ 1) (nth (gd (.slice tBk) σ 0) b)=false,mu:=fun i=>(gd (.slice tBk) σ 0).length-i}
 |_=>none
def jas:Prop:=∀(d:List BkD×FnD [tBk] [Ty.bool]×Unit),(∀(g:BkD),g∈d.1->U.jD (d.2.1.1 (g,())))->d.1.length<4611686018427387904->(∃(x:Nat),((0=(x:Int)/\True)/\True)/\x<=d.1.length/\∀(b:Nat),b<x->U.jb d.2.1.2 (nth d.1 b)=false)/\∀(x:Nat),(x<=d.1.length/\∀(b:Nat),b<x->U.jb d.2.1.2 (nth d.1 b)=false)->(decide ((x:Int)<(d.1.length:Int))=true->0<=(x:Int)/\(x:Int)<(d.1.length:Int)/\asks (d.2.1.1 (nth d.1 (x:Int).toNat,())) (((d.2.1.2 (nth d.1 (x:Int).toNat,())).1=true->((x:Int),())=(U.jal (U.jb d.2.1.2) d.1,()))/\((d.2.1.2 (nth d.1 (x:Int).toNat,())).1=false->jw ((x:Int)+1)/\∃(a:Nat),(((x:Int)+1=(a:Int)/\True)/\True)/\(a<=d.1.length/\∀(b:Nat),b<a->U.jb d.2.1.2 (nth d.1 b)=false)/\d.1.length-a<d.1.length-x)))/\(decide ((x:Int)<(d.1.length:Int))=false->((-1:Int),())=(U.jal (U.jb d.2.1.2) d.1,()))
def yv:jT:=⟨[.val (.slice tBk),.fn [tBk] [.bool]],[.bool],false,fun d=>[∀g∈d.1,U.jD (d.2.1.pre (g,()))],fun d=>(d.1.any (U.jb (α:=BkD) d.2.1.F),())⟩
def yt:Prop:=∀(d:List BkD×FnD [tBk] [Ty.bool]×Unit),(∀(g:BkD),g∈d.1->U.jD (d.2.1.1 (g,())))->(∀(g:BkD),g∈d.1->U.jD (d.2.1.1 (g,())))/\(decide (0<=U.jal (U.jb d.2.1.2) d.1),())=(d.1.any (U.jb d.2.1.2),())
def jbJ:jT:=⟨[.val (.slice tSh),.fn [tSh] [.bool]],[.int],false,fun d=>[∀g∈d.1,U.jD (d.2.1.pre (g,()))],fun d=>(U.jal (U.jb (α:=ShD) d.2.1.F) d.1,())⟩
def jcs:Ann:=fun r=>match r with
 |2=>some fun σ=>{X:=Nat,sl:=fun i=>[(8,.dat .int (i:Int))],ob:=fun _=>[],inv:=fun i=>i<=(gd (.slice tSh) σ 0).length/\∀b:Nat,b<i->U.jb (gfb tSh σ 1) (nth (gd (.slice tSh) σ 0) b)=false,mu:=fun i=>(gd (.slice tSh) σ 0).length-i}
 |_=>none
def jbB:Prop:=∀(d:List ShD×FnD [tSh] [Ty.bool]×Unit),(∀(g:ShD),g∈d.1->U.jD (d.2.1.1 (g,())))->d.1.length<4611686018427387904->(∃(x:Nat),((0=(x:Int)/\True)/\True)/\x<=d.1.length/\∀(b:Nat),b<x->U.jb d.2.1.2 (nth d.1 b)=false)/\∀(x:Nat),(x<=d.1.length/\∀(b:Nat),b<x->U.jb d.2.1.2 (nth d.1 b)=false)->(decide ((x:Int)<(d.1.length:Int))=true->0<=(x:Int)/\(x:Int)<(d.1.length:Int)/\asks (d.2.1.1 (nth d.1 (x:Int).toNat,())) (((d.2.1.2 (nth d.1 (x:Int).toNat,())).1=true->((x:Int),())=(U.jal (U.jb d.2.1.2) d.1,()))/\((d.2.1.2 (nth d.1 (x:Int).toNat,())).1=false->jw ((x:Int)+1)/\∃(a:Nat),(((x:Int)+1=(a:Int)/\True)/\True)/\(a<=d.1.length/\∀(b:Nat),b<a->U.jb d.2.1.2 (nth d.1 b)=false)/\d.1.length-a<d.1.length-x)))/\(decide ((x:Int)<(d.1.length:Int))=false->((-1:Int),())=(U.jal (U.jb d.2.1.2) d.1,()))
def gy:jT:=⟨[.val (.slice tSh),.fn [tSh] [.bool]],[.bool],false,fun d=>[∀g∈d.1,U.jD (d.2.1.pre (g,()))],fun d=>(d.1.any (U.jb (α:=ShD) d.2.1.F),())⟩
def gq:Prop:=∀(d:List ShD×FnD [tSh] [Ty.bool]×Unit),(∀(g:ShD),g∈d.1->U.jD (d.2.1.1 (g,())))->(∀(g:ShD),g∈d.1->U.jD (d.2.1.1 (g,())))/\(decide (0<=U.jal (U.jb d.2.1.2) d.1),())=(d.1.any (U.jb d.2.1.2),())
def jgv:jT:=⟨[.val tSp,.rfn [tSp] [.bool]],[.bool],false,fun d=>[U.jD (d.2.1.pre (d.1,()))],fun d=>(!(U.jb (α:=SpD) d.2.1.F d.1),())⟩
def jgq:Prop:=∀(d:(Int×Int×Unit)×FnD [tSp] [Ty.bool]×Unit),U.jD (d.2.1.1 (d.1,()))->asks (d.2.1.1 (d.1,())) ((!(d.2.1.2 (d.1,())).1,())=(!U.jb d.2.1.2 d.1,()))
def jje:jT:=⟨[.val (.slice tSp),.fn [tSp] [.bool]],[.bool],false,fun d=>[∀g∈d.1,U.jD (d.2.1.pre (g,()))],fun d=>(d.1.all (U.jb (α:=SpD) d.2.1.F),())⟩
def jiX:Prop:=∀(d:List (Int×Int×Unit)×FnD [tSp] [Ty.bool]×Unit),(∀(g:Int×Int×Unit),g∈d.1->U.jD (d.2.1.1 (g,())))->(∀(g:Int×Int×Unit),g∈d.1->U.jD [U.jD (d.2.1.1 (g,()))])/\(!d.1.any (U.jb fun(a:(Int×Int×Unit)×Unit)=>(!U.jb d.2.1.2 a.1,())),())=(d.1.all (U.jb d.2.1.2),())
def je1:jT:=⟨[.val (.slice tSp),.rfn [(.slice tSp)] [.bool]],[.bool],false,fun d=>[U.jD (d.2.1.pre (d.1,()))],fun d=>(!(U.jb (α:=(List SpD)) d.2.1.F d.1),())⟩
def jeQ:Prop:=∀(d:List (Int×Int×Unit)×FnD [tSp.slice] [Ty.bool]×Unit),U.jD (d.2.1.1 (d.1,()))->asks (d.2.1.1 (d.1,())) ((!(d.2.1.2 (d.1,())).1,())=(!U.jb d.2.1.2 d.1,()))
def jhX:jT:=⟨[.val (.slice (.slice tSp)),.fn [(.slice tSp)] [.bool]],[.bool],false,fun d=>[∀g∈d.1,U.jD (d.2.1.pre (g,()))],fun d=>(d.1.all (U.jb (α:=(List SpD)) d.2.1.F),())⟩
def jhP:Prop:=∀(d:List (List (Int×Int×Unit))×FnD [tSp.slice] [Ty.bool]×Unit),(∀(g:List (Int×Int×Unit)),g∈d.1->U.jD (d.2.1.1 (g,())))->(∀(g:List (Int×Int×Unit)),g∈d.1->U.jD [U.jD (d.2.1.1 (g,()))])/\(!d.1.any (U.jb fun(a:List (Int×Int×Unit)×Unit)=>(!U.jb d.2.1.2 a.1,())),())=(d.1.all (U.jb d.2.1.2),())
def jc5:jT:=⟨[.val tBk,.rfn [tBk] [.bool]],[.bool],false,fun d=>[U.jD (d.2.1.pre (d.1,()))],fun d=>(!(U.jb (α:=BkD) d.2.1.F d.1),())⟩
def jc2:Prop:=∀(d:BkD×FnD [tBk] [Ty.bool]×Unit),U.jD (d.2.1.1 (d.1,()))->asks (d.2.1.1 (d.1,())) ((!(d.2.1.2 (d.1,())).1,())=(!U.jb d.2.1.2 d.1,()))
def je3:jT:=⟨[.val (.slice tBk),.fn [tBk] [.bool]],[.bool],false,fun d=>[∀g∈d.1,U.jD (d.2.1.pre (g,()))],fun d=>(d.1.all (U.jb (α:=BkD) d.2.1.F),())⟩
def jeS:Prop:=∀(d:List BkD×FnD [tBk] [Ty.bool]×Unit),(∀(g:BkD),g∈d.1->U.jD (d.2.1.1 (g,())))->(∀(g:BkD),g∈d.1->U.jD [U.jD (d.2.1.1 (g,()))])/\(!d.1.any (U.jb fun(a:BkD×Unit)=>(!U.jb d.2.1.2 a.1,())),())=(d.1.all (U.jb d.2.1.2),())
def je2:jT:=⟨[.val tSh,.rfn [tSh] [.bool]],[.bool],false,fun d=>[U.jD (d.2.1.pre (d.1,()))],fun d=>(!(U.jb (α:=ShD) d.2.1.F d.1),())⟩
def jeR:Prop:=∀(d:ShD×FnD [tSh] [Ty.bool]×Unit),U.jD (d.2.1.1 (d.1,()))->asks (d.2.1.1 (d.1,())) ((!(d.2.1.2 (d.1,())).1,())=(!U.jb d.2.1.2 d.1,()))
def jhY:jT:=⟨[.val (.slice tSh),.fn [tSh] [.bool]],[.bool],false,fun d=>[∀g∈d.1,U.jD (d.2.1.pre (g,()))],fun d=>(d.1.all (U.jb (α:=ShD) d.2.1.F),())⟩
def jhQ:Prop:=∀(d:List ShD×FnD [tSh] [Ty.bool]×Unit),(∀(g:ShD),g∈d.1->U.jD (d.2.1.1 (g,())))->(∀(g:ShD),g∈d.1->U.jD [U.jD (d.2.1.1 (g,()))])/\(!d.1.any (U.jb fun(a:ShD×Unit)=>(!U.jb d.2.1.2 a.1,())),())=(d.1.all (U.jb d.2.1.2),())
def jpp:jT:=⟨[.val tSp],[.bool],false,fun _=>[],fun d=>(U.jht d.1,())⟩
def jo0:Prop:=∀(d:(Int×Int×Unit)×Unit),(decide (0<=d.1.1)&&decide (d.1.1<=d.1.2.1)&&decide (d.1.2.1<=300),())=(U.jht d.1,())
def jpo:jT:=⟨[.val (.slice tSp),.ref tDy,.rfn [tSp] [.bool]],[.bool],false,fun d=>[∀g∈d.1,U.jD (d.2.2.1.pre (g,()))],fun d=>(decide ((d.1.length:Int)=((U.jK d.2.1).length:Int))&&d.1.all (U.jb (α:=SpD) d.2.2.1.F),())⟩
def joZ:Prop:=∀(d:List (Int×Int×Unit)×DyD×FnD [tSp] [Ty.bool]×Unit),(∀(g:Int×Int×Unit),g∈d.1->U.jD (d.2.2.1.1 (g,())))->d.1.length<4611686018427387904->d.2.1.2.1.length<4611686018427387904->(decide ((d.1.length:Int)=(d.2.1.2.1.length:Int))=true->∀(g:Int×Int×Unit),g∈d.1->U.jD (d.2.2.1.1 (g,())))/\(decide ((d.1.length:Int)=(d.2.1.2.1.length:Int))&&d.1.all (U.jb d.2.2.1.2),())=(decide ((d.1.length:Int)=(↑(U.jK d.2.1).length:Int))&&d.1.all (U.jb d.2.2.1.2),())
def jpn:jT:=⟨[.val tBk,.ref tDy],[.bool],false,fun _=>[],fun d=>(U.jjP (U.jK d.2.1).length d.1,())⟩
def joY:Prop:=∀(d:BkD×DyD×Unit),d.2.1.2.1.length<4611686018427387904->jw ((d.2.1.2.1.length:Int)-1)/\(U.ja d.1.2.1 (0:Int) ((d.2.1.2.1.length:Int)-1)&&decide (0<=d.1.2.2.1)&&decide (d.1.2.2.1<d.1.2.2.2.1)&&decide (d.1.2.2.2.1<=1440),())=(U.jjP (U.jK d.2.1).length d.1,())
def jpm:jT:=⟨[.val tSh,.ref tDy],[.bool],false,fun _=>[],fun d=>(U.jqe (U.jm d.2.1).length (U.je (U.jc d.2.1)).length d.1,())⟩
abbrev q58_0 (d:ShD×DyD×Unit):=(U.ja d.1.1 (0:Int) (99:Int)&&U.ja d.1.2.1 (0:Int) (9999:Int)&&U.ja d.1.2.2.1 (1:Int) (2:Int)&&U.ja d.1.2.2.2.1 (0:Int) ((d.2.1.2.2.1.length:Int)-1))
abbrev q58_1 (d:ShD×DyD×Unit):=(U.ja d.1.1 (0:Int) (99:Int)&&U.ja d.1.2.1 (0:Int) (9999:Int)&&U.ja d.1.2.2.1 (1:Int) (2:Int))
def joX:Prop:=∀(d:ShD×DyD×Unit),((q58_1 d)=true->d.2.1.2.2.1.length<4611686018427387904)->((q58_1 d)=true->jw ((d.2.1.2.2.1.length:Int)-1))/\(((q58_0 d)=true->d.2.1.1.2.1.length<4611686018427387904)->((q58_0 d)=true->jw ((d.2.1.1.2.1.length:Int)-1))/\(U.ja d.1.1 (0:Int) (99:Int)&&U.ja d.1.2.1 (0:Int) (9999:Int)&&U.ja d.1.2.2.1 (1:Int) (2:Int)&&U.ja d.1.2.2.2.1 (0:Int) ((d.2.1.2.2.1.length:Int)-1)&&U.ja d.1.2.2.2.2.1 (0:Int) ((d.2.1.1.2.1.length:Int)-1),())=(U.jqe (U.jm d.2.1).length (U.je (U.jc d.2.1)).length d.1,()))
def jvt:jT:=⟨[.val tDy],[.bool],false,fun _=>[],fun d=>(U.zA d.1,())⟩
abbrev q59_0 (d:DyD×Unit):=((d.1.2.2.1.length:Int)<=4)
abbrev q59_1 (d:DyD×Unit):=(↑(U.jK d.1).length:Int)
abbrev q59_2 (d:DyD×Unit):=(d.1.2.1.length:Int)
def ju8:Prop:=∀(d:DyD×Unit),d.1.2.2.1.length<4611686018427387904->(decide (q59_0 d)=true->d.1.2.1.length<4611686018427387904)->((decide (q59_0 d)&&U.ja (q59_2 d) (1:Int) (5:Int))=true->∀(g:List (Int×Int×Unit)),g∈d.1.2.1->U.jD [∀(a:Int×Int×Unit),a∈g->U.jD []])/\((decide (q59_0 d)&&U.ja (q59_2 d) (1:Int) (5:Int)&&d.1.2.1.all (U.jb fun(b:List (Int×Int×Unit)×Unit)=>(decide ((b.1.length:Int)=(q59_1 d))&&b.1.all (U.jb fun(h:(Int×Int×Unit)×Unit)=>(U.jht h.1,())),())))=true->∀(i:BkD),i∈d.1.2.2.1->U.jD [])/\(((decide (q59_0 d)&&U.ja (q59_2 d) (1:Int) (5:Int)&&d.1.2.1.all (U.jb fun(c:List (Int×Int×Unit)×Unit)=>(decide ((c.1.length:Int)=(q59_1 d))&&c.1.all (U.jb fun(j:(Int×Int×Unit)×Unit)=>(U.jht j.1,())),()))&&d.1.2.2.1.all (U.jb fun(n:BkD×Unit)=>(U.jjP (U.jK d.1).length n.1,()))&&U.ja d.1.2.2.2.1 (0:Int) (300:Int)&&U.ja d.1.2.2.2.2.1 (0:Int) (1440:Int))=true->d.1.2.2.2.2.2.1.length<4611686018427387904)->((decide (q59_0 d)&&U.ja (q59_2 d) (1:Int) (5:Int)&&d.1.2.1.all (U.jb fun(e:List (Int×Int×Unit)×Unit)=>(decide ((e.1.length:Int)=(q59_1 d))&&e.1.all (U.jb fun(k:(Int×Int×Unit)×Unit)=>(U.jht k.1,())),()))&&d.1.2.2.1.all (U.jb fun(o:BkD×Unit)=>(U.jjP (U.jK d.1).length o.1,()))&&U.ja d.1.2.2.2.1 (0:Int) (300:Int)&&U.ja d.1.2.2.2.2.1 (0:Int) (1440:Int)&&decide ((d.1.2.2.2.2.2.1.length:Int)<=30))=true->∀(l:ShD),l∈d.1.2.2.2.2.2.1->U.jD [])/\(decide (q59_0 d)&&U.ja (q59_2 d) (1:Int) (5:Int)&&d.1.2.1.all (U.jb fun(f:List (Int×Int×Unit)×Unit)=>(decide ((f.1.length:Int)=(q59_1 d))&&f.1.all (U.jb fun(m:(Int×Int×Unit)×Unit)=>(U.jht m.1,())),()))&&d.1.2.2.1.all (U.jb fun(z6:BkD×Unit)=>(U.jjP (U.jK d.1).length z6.1,()))&&U.ja d.1.2.2.2.1 (0:Int) (300:Int)&&U.ja d.1.2.2.2.2.1 (0:Int) (1440:Int)&&decide ((d.1.2.2.2.2.2.1.length:Int)<=30)&&d.1.2.2.2.2.2.1.all (U.jb fun(z7:ShD×Unit)=>(U.jqe (U.jm d.1).length (U.je (U.jc d.1)).length z7.1,())),())=(U.zA d.1,()))
def jhZ:jT:=⟨[.val .int],[.bool],false,fun _=>[],fun _=>(false,())⟩
def jhR:Prop:=∀(d:Int×Unit),(decide (d.1≠d.1),())=(false,())
def je4:jT:=⟨[.val .int,.val .int],[.int],false,fun _=>[],fun d=>(U.jae d.1 d.2.1,())⟩
abbrev q61_0 (d:Int×Int×Unit):=(U.jae d.1 d.2.1,())
def jeT:Prop:=∀(d:Int×Int×Unit),(false=true->(false=true->((0:Int),())=(q61_0 d))/\(false=false->((-1:Int),())=(q61_0 d)))/\(false=false->(false=true->((1:Int),())=(q61_0 d))/\(false=false->(decide (d.1<d.2.1)=true->((-1:Int),())=(q61_0 d))/\(decide (d.1<d.2.1)=false->(decide (d.2.1<d.1)=true->((1:Int),())=(q61_0 d))/\(decide (d.2.1<d.1)=false->((0:Int),())=(q61_0 d)))))
def jne:jT:=⟨[.val (.slice .int)],[.int],false,fun _=>[],fun d=>(U.wE d.1,())⟩
def joF:Ann:=fun r=>match r with
 |3=>some fun σ=>{X:=Nat,sl:=fun i=>[(8,.dat .int (i:Int))],ob:=fun _=>[],inv:=fun i=>i<=(gd (.slice .int) σ 0).length/\∀b:Nat,b<i->nth (gd (.slice .int) σ 0) b=0,mu:=fun i=>(gd (.slice .int) σ 0).length-i}
 |_=>none
def jm0:Prop:=∀(d:List Int×Unit),d.1.length<4611686018427387904->(∃(x:Nat),((0=(x:Int)/\True)/\True)/\x<=d.1.length/\∀(b:Nat),b<x->nth d.1 b=0)/\∀(x:Nat),(x<=d.1.length/\∀(b:Nat),b<x->nth d.1 b=0)->(decide ((x:Int)<(d.1.length:Int))=true->0<=(x:Int)/\(x:Int)<(d.1.length:Int)/\(decide (nth d.1 (x:Int).toNat≠0)=true->(nth d.1 (x:Int).toNat,())=(U.wE d.1,()))/\(decide (nth d.1 (x:Int).toNat≠0)=false->jw ((x:Int)+1)/\∃(a:Nat),(((x:Int)+1=(a:Int)/\True)/\True)/\(a<=d.1.length/\∀(b:Nat),b<a->nth d.1 b=0)/\d.1.length-a<d.1.length-x))/\(decide ((x:Int)<(d.1.length:Int))=false->((0:Int),())=(U.wE d.1,()))
def jjf:jT:=⟨[.val tSh,.val tSh],[.int],false,fun _=>[],fun d=>(U.yP d.1 d.2.1,())⟩
def jiY:Prop:=∀(d:ShD×ShD×Unit),(U.wE [U.jae d.1.1 d.2.1.1,U.jae d.1.2.1 d.2.1.2.1,U.jae d.1.2.2.1 d.2.1.2.2.1,U.jae d.1.2.2.2.1 d.2.1.2.2.2.1,U.jae d.1.2.2.2.2.1 d.2.1.2.2.2.2.1],())=(U.yP d.1 d.2.1,())
def jr5:jT:=⟨[.val tSh,.val tSh],[.int],false,fun _=>[],fun d=>(U.js d.1 d.2.1,())⟩
def jrF:Prop:=∀(d:ShD×ShD×Unit),(U.wE [U.jae d.1.2.1 d.2.1.2.1,U.jae d.1.1 d.2.1.1],())=(U.js d.1 d.2.1,())
def jgy:zV:=⟨[.val (.slice tSh)],[rwS],fun d=>[d.1.length<=100000],fun d=>((d.1,()),())⟩
def jgm:Prop:=∀(d:List ShD×Unit),d.1.length<=100000->∀(a:Bool),(a=true->d.1=[])->(a=true->([],())=d/\()=())/\(a=false->(0+d.1.length)*40<=140737488355328/\([]++d.1,())=d/\()=())
def jdQ:zV:=⟨[.own rwS false],[rwS],fun d=>[d.1.length<=100000],fun d=>((U.vz U.wt d.1,()),())⟩
def jeC:Ann:=fun r=>match r with
 |4=>some fun σ=>{X:=Nat,sl:=fun i=>[(3,.dat .int (i:Int))],ob:=fun _=>[],inv:=fun i=>U.jD9 U.wt (gr tSh σ 1000000) i,mu:=fun i=>(gr tSh σ 1000000).length-i}
 |9=>some fun σ=>{X:=Nat×List ShD,sl:=fun x=>[(5,.dat .int (x.1:Int)),(3,.dat .int (U.jdn U.wt (gr tSh σ 1000000) ((gd .int σ 3).toNat+x.1)))],ob:=fun x=>[(1000000,some (.row 55 tSh false .unk x.2))],inv:=fun x=>U.jsW U.wt (gr tSh σ 1000000) (gd .int σ 3).toNat x.1 x.2,mu:=fun x=>(gr tSh σ 1000000).length-x.1}
 |_=>none
abbrev q66_0 (x:Nat)(a:Nat×List ShD):=((x:Int).toNat+a.1)
abbrev q66_2 (d:List ShD×Unit)(x:Nat)(a:Nat×List ShD):=(List.take (U.jdn U.wt d.1 (q66_0 x a)).toNat a.2++List.replicate ((a.2.length:Int).toNat-(U.jdn U.wt d.1 (q66_0 x a)).toNat) ((0:Int),(0:Int),(0:Int),(0:Int),(0:Int),()))
abbrev q66_3 (a:Nat×List ShD)(x:Nat):=(!decide (nth a.2 ((x:Int).toNat+(a.1:Int).toNat)=nth a.2 ((x:Int).toNat+((a.1:Int)-1).toNat)))
abbrev q66_4 (d:List ShD×Unit):=(d.1.length:Int)
abbrev q66_1 (d:List ShD×Unit)(x:Nat):=(↑((q66_4 d).toNat-(x:Int).toNat):Int)
def jdH:Prop:=∀(d:List ShD×Unit),d.1.length<=100000->d.1.length<4611686018427387904->(decide ((q66_4 d)<2)=true->d=(U.vz U.wt d.1,())/\()=())/\(decide ((q66_4 d)<2)=false->(∃(x:Nat),((1=(x:Int)/\True)/\True)/\U.jD9 U.wt d.1 x)/\∀(x:Nat),U.jD9 U.wt d.1 x->d.1.length<4611686018427387904->(decide ((x:Int)<(q66_4 d))=true->0<=(x:Int)/\(x:Int)<(q66_4 d)/\jw ((x:Int)-1)/\0<=(x:Int)-1/\(x:Int)-1<(q66_4 d)/\(decide (nth d.1 (x:Int).toNat=nth d.1 ((x:Int)-1).toNat)=true->0<=(x:Int)/\(x:Int)<=(q66_4 d)/\(q66_4 d)<=(q66_4 d)/\(∃(a:Nat×List ShD),((1=(a.1:Int)/\(x:Int)=U.jdn U.wt d.1 (q66_0 x a)/\True)/\d.1=a.2/\True)/\U.jsW U.wt d.1 (x:Int).toNat a.1 a.2)/\∀(a:Nat×List ShD),U.jsW U.wt d.1 (x:Int).toNat a.1 a.2->(q66_4 d).toNat-(x:Int).toNat<4611686018427387904->(decide ((a.1:Int)<(q66_1 d x))=true->0<=(a.1:Int)/\(a.1:Int)<(q66_1 d x)/\jw ((a.1:Int)-1)/\0<=(a.1:Int)-1/\(a.1:Int)-1<(q66_1 d x)/\((q66_3 a x)=true->0<=(a.1:Int)/\(a.1:Int)<(q66_1 d x)/\0<=U.jdn U.wt d.1 (q66_0 x a)/\U.jdn U.wt d.1 (q66_0 x a)<(a.2.length:Int)/\jw (U.jdn U.wt d.1 (q66_0 x a)+1)/\jw ((a.1:Int)+1)/\∃(b:Nat×List ShD),(((a.1:Int)+1=(b.1:Int)/\U.jdn U.wt d.1 (q66_0 x a)+1=U.jdn U.wt d.1 ((x:Int).toNat+b.1)/\True)/\a.2.set (U.jdn U.wt d.1 (q66_0 x a)).toNat (nth a.2 ((x:Int).toNat+(a.1:Int).toNat))=b.2/\True)/\U.jsW U.wt d.1 (x:Int).toNat b.1 b.2/\d.1.length-b.1<d.1.length-a.1)/\((q66_3 a x)=false->jw ((a.1:Int)+1)/\∃(b:Nat×List ShD),((U.jdn U.wt d.1 (q66_0 x a)=U.jdn U.wt d.1 ((x:Int).toNat+b.1)/\(a.1:Int)+1=(b.1:Int)/\True)/\a.2=b.2/\True)/\U.jsW U.wt d.1 (x:Int).toNat b.1 b.2/\d.1.length-b.1<d.1.length-a.1))/\(decide ((a.1:Int)<(q66_1 d x))=false->0<=U.jdn U.wt d.1 (q66_0 x a)/\U.jdn U.wt d.1 (q66_0 x a)<=(a.2.length:Int)/\(a.2.length:Int)<=(a.2.length:Int)/\(U.jdn U.wt d.1 (q66_0 x a)).toNat+((a.2.length:Int).toNat-(U.jdn U.wt d.1 (q66_0 x a)).toNat)=a.2.length/\(0:Int)<=0/\0<=U.jdn U.wt d.1 (q66_0 x a)/\U.jdn U.wt d.1 (q66_0 x a)<=(↑(q66_2 d x a).length:Int)/\(List.take ((U.jdn U.wt d.1 (q66_0 x a)).toNat-Int.toNat 0) (q66_2 d x a),())=(U.vz U.wt d.1,())/\()=()))/\(decide (nth d.1 (x:Int).toNat=nth d.1 ((x:Int)-1).toNat)=false->jw ((x:Int)+1)/\∃(c:Nat),(((x:Int)+1=(c:Int)/\True)/\True)/\U.jD9 U.wt d.1 c/\d.1.length-c<d.1.length-x))/\(decide ((x:Int)<(q66_4 d))=false->d=(U.vz U.wt d.1,())/\()=()))
abbrev jc6:zV:=jCI tSh 55
def jni:zV:=⟨[.val (.slice tSh)],[rwS],fun d=>[d.1.length<=100000],fun d=>((U.jY d.1,()),())⟩
abbrev q67_0:=(Ty.int.pair (Ty.int.pair (Ty.int.pair (Ty.int.pair (Ty.int.pair Ty.unit)))))
def jmX:Prop:=∀(d:List ShD×Unit),d.1.length<=100000->d.1.length<=100000/\(∀(x:ShD),x∈d.1->∀(y:ShD),y∈d.1->U.jD [])/\kK (U.jg q67_0 fun(a:ShD×ShD×Unit)=>(U.yP a.1 a.2.1,())) d.1/\(U.jd (U.jg q67_0 fun(b:ShD×ShD×Unit)=>(U.yP b.1 b.2.1,())) d.1).length<=100000/\(U.vz U.wt (U.jd (U.jg q67_0 fun(c:ShD×ShD×Unit)=>(U.yP c.1 c.2.1,())) d.1),())=(U.jY d.1,())/\()=()
def jpz:zV:=⟨[.val tSh,.own (.box 122 [.map .int .int]) true],[.cl (.dat .bool)],fun d=>[U.jxU d.2.1.1],fun d=>((U.juY d.2.1.1 d.1,()),((U.jcT d.2.1.1 d.1,()),()))⟩
abbrev q68_0 (d:ShD×(List (Int×Int)×Unit)×Unit):=(kS (0:Int) (zI Ty.int d.1.1 d.2.1.1)+1)
def jo1:Prop:=∀(d:ShD×(List (Int×Int)×Unit)×Unit),U.jxU d.2.1.1->jw (q68_0 d)/\(decide (1<kS (0:Int) (zI Ty.int d.1.1 (jd8 Ty.int d.1.1 (q68_0 d) d.2.1.1))),())=(U.juY d.2.1.1 d.1,())/\((jd8 Ty.int d.1.1 (q68_0 d) d.2.1.1,()),())=((U.jcT d.2.1.1 d.1,()),())
abbrev clV:Sh:= .fbox 88 122 [.map .int .int]
def gB:zV:=⟨[.val (.slice tSh),.own clV true],[.cl (.dat .int)],fun d=>[d.1.length<=100000,U.jFK d.2.1.1],fun d=>((U.jcv d.2.1.1 d.1,()),((U.jet d.2.1.1 d.1,()),()))⟩
def jai:Ann:=fun r=>match r with
 |2=>some fun σ=>{X:=Nat,sl:=fun i=>[(8,.dat .int (i:Int))],ob:=fun i=>[(400020,some (.map false .int .int (U.kY [] (gd (.slice tSh) σ 0) i)))],inv:=fun i=>i<=(gd (.slice tSh) σ 0).length/\∀b:Nat,b<i->U.jgf [] (gd (.slice tSh) σ 0) b=false,mu:=fun i=>(gd (.slice tSh) σ 0).length-i}
 |_=>none
def gn:Prop:=∀(d:List ShD×(List (Int×Int)×Unit)×Unit),d.1.length<=100000->U.jFK d.2.1.1->d.1.length<4611686018427387904->(∃(x:Nat),((0=(x:Int)/\True)/\d.2.1.1=U.kY [] d.1 x/\True)/\x<=d.1.length/\∀(b:Nat),b<x->U.jgf [] d.1 b=false)/\∀(x:Nat),(x<=d.1.length/\∀(b:Nat),b<x->U.jgf [] d.1 b=false)->(decide ((x:Int)<(d.1.length:Int))=true->0<=(x:Int)/\(x:Int)<(d.1.length:Int)/\U.jxU (U.kY [] d.1 x)/\(U.juY (U.kY [] d.1 x) (nth d.1 (x:Int).toNat)=true->((x:Int),())=(U.jcv d.2.1.1 d.1,())/\((U.jcT (U.kY [] d.1 x) (nth d.1 (x:Int).toNat),()),())=((U.jet d.2.1.1 d.1,()),()))/\(U.juY (U.kY [] d.1 x) (nth d.1 (x:Int).toNat)=false->jw ((x:Int)+1)/\∃(a:Nat),(((x:Int)+1=(a:Int)/\True)/\(True/\True)/\U.jcT (U.kY [] d.1 x) (nth d.1 (x:Int).toNat)=U.kY [] d.1 a/\True)/\(a<=d.1.length/\∀(b:Nat),b<a->U.jgf [] d.1 b=false)/\d.1.length-a<d.1.length-x))/\(decide ((x:Int)<(d.1.length:Int))=false->((-1:Int),())=(U.jcv d.2.1.1 d.1,())/\((U.kY [] d.1 x,()),())=((U.jet d.2.1.1 d.1,()),()))
def v6:zV:=⟨[.val (.slice tSh),.own clV true],[.cl (.dat .bool)],fun d=>[d.1.length<=100000,U.jFK d.2.1.1],fun d=>((decide (0<=U.jcv d.2.1.1 d.1),()),((U.jet d.2.1.1 d.1,()),()))⟩
def vU:Prop:=∀(d:List ShD×(List (Int×Int)×Unit)×Unit),d.1.length<=100000->U.jFK d.2.1.1->d.1.length<=100000/\U.jFK d.2.1.1/\(decide (0<=U.jcv d.2.1.1 d.1),())=(decide (0<=U.jcv d.2.1.1 d.1),())/\((U.jet d.2.1.1 d.1,()),())=((U.jet d.2.1.1 d.1,()),())
def jvu:jT:=⟨[.val (.slice tSh)],[.bool],false,fun d=>[d.1.length<=100000],fun d=>(U.jxd d.1,())⟩
def ju9:Prop:=∀(d:List ShD×Unit),d.1.length<=100000->d.1.length<=100000/\U.jFK []/\(decide (0<=U.jcv [] d.1),())=(U.jxd d.1,())
def jlj:jT:=⟨[.val tDy],[.int],false,fun _=>[],fun d=>(U.jkQ d.1,())⟩
def jlO:Ann:=fun r=>match r with
 |5=>some fun σ=>{X:=Nat,sl:=fun i=>[(17,.dat .int (i:Int))],ob:=fun _=>[],inv:=fun i=>i<=(gd (.slice tBk) σ 15).length/\∀b:Nat,b<i->U.jQ (U.jc (gd tDy σ 0)) (U.vJ (nth (gd (.slice tBk) σ 15) b))=true,mu:=fun i=>(gd (.slice tBk) σ 15).length-i}
 |_=>none
abbrev q72_0:=((0:Int),(1:Int),(0:Int),(0:Int),(0:Int),(1:Int),())
def jlc:Prop:=∀(d:DyD×Unit),(decide (U.zX d.1.1 q72_0≠0)=true->(U.zX d.1.1 q72_0,())=(U.jkQ d.1,()))/\(decide (U.zX d.1.1 q72_0≠0)=false->d.1.2.2.1.length<4611686018427387904->(∃(x:Nat),((0=(x:Int)/\True)/\True)/\x<=d.1.2.2.1.length/\∀(b:Nat),b<x->U.jQ (U.jc d.1) (U.vJ (nth d.1.2.2.1 b))=true)/\∀(x:Nat),(x<=d.1.2.2.1.length/\∀(b:Nat),b<x->U.jQ (U.jc d.1) (U.vJ (nth d.1.2.2.1 b))=true)->(decide ((x:Int)<(d.1.2.2.1.length:Int))=true->0<=(x:Int)/\(x:Int)<(d.1.2.2.1.length:Int)/\(decide (U.zX d.1.1 (nth d.1.2.2.1 (x:Int).toNat).1≠0)=true->(U.zX d.1.1 (nth d.1.2.2.1 (x:Int).toNat).1,())=(U.jkQ d.1,()))/\(decide (U.zX d.1.1 (nth d.1.2.2.1 (x:Int).toNat).1≠0)=false->jw ((x:Int)+1)/\∃(a:Nat),(((x:Int)+1=(a:Int)/\True)/\True)/\(a<=d.1.2.2.1.length/\∀(b:Nat),b<a->U.jQ (U.jc d.1) (U.vJ (nth d.1.2.2.1 b))=true)/\d.1.2.2.1.length-a<d.1.2.2.1.length-x))/\(decide ((x:Int)<(d.1.2.2.1.length:Int))=false->((0:Int),())=(U.jkQ d.1,())))
def jvw:jT:=⟨[.val tDy],[.int],false,fun d=>[(U.kl d.1).length<=100000],fun d=>(U.ju d.1,())⟩
def jvb:Prop:=∀(d:DyD×Unit),(U.kl d.1).length<=100000->(decide (U.jkQ d.1≠0)=true->(U.jkQ d.1,())=(U.ju d.1,()))/\(decide (U.jkQ d.1≠0)=false->((!U.zA d.1)=true->((50:Int),())=(U.ju d.1,()))/\((!U.zA d.1)=false->d.1.2.2.2.2.2.1.length<=100000/\(U.jY d.1.2.2.2.2.2.1).length<=100000/\(U.jxd (U.jY d.1.2.2.2.2.2.1)=true->((51:Int),())=(U.ju d.1,()))/\(U.jxd (U.jY d.1.2.2.2.2.2.1)=false->((0:Int),())=(U.ju d.1,()))))
end Go.X
namespace Go.X
open Go.Proofs
theorem jwd:jrE:=by
 intro d;rfl
theorem jd5:zk PR 68 jr4:=jU jwd Tryz.func68 kcN koN
theorem jei:jcZ:=by
 rintro⟨l,f,⟨⟩⟩ a g;refine⟨⟨0,⟨⟨rfl,trivial⟩,trivial⟩,jG7 _,fun b c=>by omega⟩,fun i hi=>⟨fun h=> ?_,fun h=> ?_⟩⟩
 .have h:i<l.length:=(by simpa using h);simp only[jG1] at*;refine⟨by omega,by omega,wZ _ (a _ (L.mem_nth h)) ⟨fun c=> ?_,fun c=>⟨L.in64 (by omega) (by omega),i+1,⟨⟨by simp,trivial⟩,trivial⟩,⟨by omega,fun b d=> ?_⟩,by omega⟩⟩⟩
  .rw[w7 (p:=U.jb (α:=SpD) f.F) h hi.2 c]
  .by_cases e:b=i
   .subst e;exact c
   .exact hi.2 b (by omega)
 .have h:l.length<=i:=(by simpa using h);rw[kN (p:=U.jb (α:=SpD) f.F) h hi.2]
theorem jda:zk PR 180 jc4:=kI jdh jei Tryz.func180 kcN koN
theorem jbr:jat:=by
 rintro⟨l,f,⟨⟩⟩ a;refine⟨a,?_⟩;exact congrArg (·,()) (jcf (U.jb (α:=SpD) f.F) l)
theorem jaH:zk PR 137 jaw:=jU jbr Tryz.func137 (kcC jda kcN) koN
theorem jdd:jbA:=by
 rintro⟨l,f,⟨⟩⟩ a g;refine⟨⟨0,⟨⟨rfl,trivial⟩,trivial⟩,jG7 _,fun b c=>by omega⟩,fun i hi=>⟨fun h=> ?_,fun h=> ?_⟩⟩
 .have h:i<l.length:=(by simpa using h);simp only[jG1] at*;refine⟨by omega,by omega,wZ _ (a _ (L.mem_nth h)) ⟨fun c=> ?_,fun c=>⟨L.in64 (by omega) (by omega),i+1,⟨⟨by simp,trivial⟩,trivial⟩,⟨by omega,fun b d=> ?_⟩,by omega⟩⟩⟩
  .rw[w7 (p:=U.jb (α:=(List SpD)) f.F) h hi.2 c]
  .by_cases e:b=i
   .subst e;exact c
   .exact hi.2 b (by omega)
 .have h:l.length<=i:=(by simpa using h);rw[kN (p:=U.jb (α:=(List SpD)) f.F) h hi.2]
theorem jbY:zk PR 181 jbI:=kI jcr jdd Tryz.func181 kcN koN
theorem jaP:gp:=by
 rintro⟨l,f,⟨⟩⟩ a;refine⟨a,?_⟩;exact congrArg (·,()) (jcf (U.jb (α:=(List SpD)) f.F) l)
theorem gK:zk PR 139 gx:=jU jaP Tryz.func139 (kcC jbY kcN) koN
theorem jbq:jas:=by
 rintro⟨l,f,⟨⟩⟩ a g;refine⟨⟨0,⟨⟨rfl,trivial⟩,trivial⟩,jG7 _,fun b c=>by omega⟩,fun i hi=>⟨fun h=> ?_,fun h=> ?_⟩⟩
 .have h:i<l.length:=(by simpa using h);simp only[jG1] at*;refine⟨by omega,by omega,wZ _ (a _ (L.mem_nth h)) ⟨fun c=> ?_,fun c=>⟨L.in64 (by omega) (by omega),i+1,⟨⟨by simp,trivial⟩,trivial⟩,⟨by omega,fun b d=> ?_⟩,by omega⟩⟩⟩
  .rw[w7 (p:=U.jb (α:=BkD) f.F) h hi.2 c]
  .by_cases e:b=i
   .subst e;exact c
   .exact hi.2 b (by omega)
 .have h:l.length<=i:=(by simpa using h);rw[kN (p:=U.jb (α:=BkD) f.F) h hi.2]
theorem jaG:zk PR 182 jav:=kI jaX jbq Tryz.func182 kcN koN
theorem y9:yt:=by
 rintro⟨l,f,⟨⟩⟩ a;refine⟨a,?_⟩;exact congrArg (·,()) (jcf (U.jb (α:=BkD) f.F) l)
theorem yz:zk PR 141 yv:=jU y9 Tryz.func141 (kcC jaG kcN) koN
theorem jde:jbB:=by
 rintro⟨l,f,⟨⟩⟩ a g;refine⟨⟨0,⟨⟨rfl,trivial⟩,trivial⟩,jG7 _,fun b c=>by omega⟩,fun i hi=>⟨fun h=> ?_,fun h=> ?_⟩⟩
 .have h:i<l.length:=(by simpa using h);simp only[jG1] at*;refine⟨by omega,by omega,wZ _ (a _ (L.mem_nth h)) ⟨fun c=> ?_,fun c=>⟨L.in64 (by omega) (by omega),i+1,⟨⟨by simp,trivial⟩,trivial⟩,⟨by omega,fun b d=> ?_⟩,by omega⟩⟩⟩
  .rw[w7 (p:=U.jb (α:=ShD) f.F) h hi.2 c]
  .by_cases e:b=i
   .subst e;exact c
   .exact hi.2 b (by omega)
 .have h:l.length<=i:=(by simpa using h);rw[kN (p:=U.jb (α:=ShD) f.F) h hi.2]
theorem jbZ:zk PR 119 jbJ:=kI jcs jde Tryz.func119 kcN koN
theorem jaQ:gq:=by
 rintro⟨l,f,⟨⟩⟩ a;refine⟨a,?_⟩;exact congrArg (·,()) (jcf (U.jb (α:=ShD) f.F) l)
theorem gL:zk PR 87 gy:=jU jaQ Tryz.func87 (kcC jbZ kcN) koN
theorem jik:jgq:=by
 intro d h;exact wZ _ h rfl
theorem jgO:zk PR 138 jgv:=jU jik Tryz.func138 kcN koN
theorem jlC:jiX:=by
 intro d h;exact⟨fun g a=>⟨h g a,trivial⟩,congrArg (·,()) (jjT d.snd.fst.2 d.fst)⟩
theorem jjM:zk PR 111 jje:=jU jlC Tryz.func111 (kcC jaH (kcC jgO kcN)) koN
theorem jg1:jeQ:=by
 intro d h;exact wZ _ h rfl
theorem jfq:zk PR 140 je1:=jU jg1 Tryz.func140 kcN koN
theorem jkq:jhP:=by
 intro d h;exact⟨fun g a=>⟨h g a,trivial⟩,congrArg (·,()) (jjT d.snd.fst.2 d.fst)⟩
theorem jh8:zk PR 114 jhX:=jU jkq Tryz.func114 (kcC gK (kcC jfq kcN)) koN
theorem jek:jc2:=by
 intro d h;exact wZ _ h rfl
theorem jdc:zk PR 142 jc5:=jU jek Tryz.func142 kcN koN
theorem jg3:jeS:=by
 intro d h;exact⟨fun g a=>⟨h g a,trivial⟩,congrArg (·,()) (jjT d.snd.fst.2 d.fst)⟩
theorem jft:zk PR 115 je3:=jU jg3 Tryz.func115 (kcC yz (kcC jdc kcN)) koN
theorem jg2:jeR:=by
 intro d h;exact wZ _ h rfl
theorem jfs:zk PR 143 je2:=jU jg2 Tryz.func143 kcN koN
theorem jkr:jhQ:=by
 intro d h;exact⟨fun g a=>⟨h g a,trivial⟩,congrArg (·,()) (jjT d.snd.fst.2 d.fst)⟩
theorem jh9:zk PR 116 jhY:=jU jkr Tryz.func116 (kcC gL (kcC jfs kcN)) koN
theorem js7:jo0:=fun _=>rfl
theorem jp9:zk PR 109 jpp:=jU js7 Tryz.func109 kcN koN
theorem js6:joZ:=by
 rintro⟨l,d,f,⟨⟩⟩ a _ _;exact⟨fun _=>a,rfl⟩
theorem jp8:zk PR 110 jpo:=jU js6 Tryz.func110 (kcC jjM kcN) koN
theorem js5:joY:=by
 rintro⟨b,d,⟨⟩⟩ h;have h:(U.jK d).length<4611686018427387904:=h;exact⟨L.in64 (by show _<=((U.jK d).length:Int)-1;omega) (by show((U.jK d).length:Int)-1<=_;omega),rfl⟩
theorem jp7:zk PR 112 jpn:=jU js5 Tryz.func112 (kcC jd5 kcN) koN
theorem js4:joX:=by
 unfold joX q58_1 q58_0;rintro⟨s,d,⟨⟩⟩ h;refine⟨fun a=> ?_,fun b=>⟨fun a=> ?_,rfl⟩⟩
 .have h:=h a;exact L.in64 (by simp only at*;omega) (by simp only at*;omega)
 .have h:=b a;exact L.in64 (by simp only at*;omega) (by simp only at*;omega)
theorem jp6:zk PR 113 jpm:=jU js4 Tryz.func113 (kcC jd5 kcN) koN
theorem jBm (s:SpD):U.jht s=U.jfv s:=by
 unfold U.jht U.jfv;rw[jHs];simp only[jGW,decide_eq_true_eq];omega
theorem jBo (n:Nat) (b:BkD):U.jjP n b=U.jb3 n b:=by
 unfold U.jjP U.jb3 U.ja;rw[jHs];simp only[jGW,decide_eq_true_eq];omega
theorem jBn (nb a:Nat) (s:ShD):U.jqe nb a s=U.gN nb a s:=by
 unfold U.jqe U.gN U.ja;rw[jHs];simp only[jGW,decide_eq_true_eq];omega
theorem jBH (d:DyD):(((((((decide (((U.jm d).length:Int)<=4)&&U.ja ((U.jK d).length:Int) 1 5)&&(U.jK d).all (fun r=>decide ((r.length:Int)=((U.jK d).length:Int))&&r.all U.jfv))&&(U.jm d).all (U.jb3 (U.jK d).length))&&U.ja (U.jfe d) 0 300)&&U.ja (U.jrs d) 0 1440)&&decide (((U.kl d).length:Int)<=30))&&(U.kl d).all (U.gN (U.jm d).length (U.je (U.jc d)).length))=U.zA d:=by
 unfold U.zA;have e:(fun(r:List SpD)=>decide ((r.length:Int)=((U.jK d).length:Int))&&r.all U.jfv)=U.vE (U.jK d).length:=by
  funext r;unfold U.vE;congr 1;exact decide_eq_decide.2 (by omega)
 rw[e];cases (U.jK d).all (U.vE (U.jK d).length)<;>cases (U.jm d).all (U.jb3 (U.jK d).length)<;>cases (U.kl d).all (U.gN (U.jm d).length (U.je (U.jc d)).length)<;>simp only[Bool.and_false,Bool.and_true,Bool.false_and,U.ja]
 rw[jHs];simp only[jGW,decide_eq_true_eq];omega
theorem jzn:ju8:=by
 unfold ju8 q59_2 q59_1 q59_0;rintro⟨d,⟨⟩⟩ _ _;refine⟨fun _ _ _=>⟨fun _ _=>trivial,trivial⟩,fun _ _ _=>trivial,fun _=>⟨fun _ _ _=>trivial,?_⟩⟩;have a:(U.jb fun(x:SpD×Unit)=>(U.jht x.fst,()))=U.jfv:=funext jBm;have b:(U.jb fun(x:BkD×Unit)=>(U.jjP (U.jK d).length x.fst,()))=U.jb3 (U.jK d).length:=funext (jBo _);have c:(U.jb fun(x:ShD×Unit)=>(U.jqe (U.jm d).length (U.je (U.jc d)).length x.fst,()))=U.gN (U.jm d).length (U.je (U.jc d)).length:=funext (jBn _ _);simp only;rw[a,b,c];exact congrArg (·,()) (jBH d)
theorem jvQ:zk PR 81 jvt:=jU jzn Tryz.func81 (kcC jd5 (kcC jp9 (kcC jp8 (kcC jp7 (kcC jp6 (kcC jh8 (kcC jft (kcC jh9 kcN)))))))) koN
theorem jks:jhR:=by
 intro d;simp
theorem jia:zk PR 102 jhZ:=jU jks Tryz.func102 kcN koN
theorem jg4:jeT:=by
 unfold jeT q61_0;rintro⟨a,b,⟨⟩⟩;refine⟨fun h=>(by cases h),fun _=>⟨fun h=>(by cases h),fun _=>⟨fun h=> ?_,fun h=>⟨fun c=> ?_,fun c=> ?_⟩⟩⟩⟩
 .have h:a<b:=of_decide_eq_true h;simp only;unfold U.jae;rw[if_pos h]
 .have h:¬a<b:=of_decide_eq_false h;have c:b<a:=of_decide_eq_true c;simp only;unfold U.jae;rw[if_neg h,if_pos c]
 .have h:¬a<b:=of_decide_eq_false h;have c:¬b<a:=of_decide_eq_false c;simp only;unfold U.jae;rw[if_neg h,if_neg c]
theorem qd:zk PR 73 je4:=jU jg4 Tryz.func73 (kcC jia kcN) koN
theorem jwr {l:List Int} {i:Nat} (h:i<l.length) (a:∀b:Nat,b<i->nth l b=0) (hi:nth l i≠0):U.wE l=nth l i:=by
 have e:l.find? (fun n=>decide (n≠0))=some (nth l i):=by
  rw[List.find?_eq_some_iff_getElem];refine⟨decide_eq_true hi,i,h,by rw[L.nth_lt h],fun j c=> ?_⟩;have:=a j c;rw[L.nth_lt (by omega)] at this;simp[this]
 unfold U.wE;rw[e]
theorem jqK {l:List Int} (a:∀b:Nat,b<l.length->nth l b=0):U.wE l=0:=by
 have e:l.find? (fun n=>decide (n≠0))=none:=by
  rw[List.find?_eq_none];intro x c;obtain⟨i,hi,rfl⟩:=L.mem_iff.1 c;simp[a i hi]
 unfold U.wE;rw[e]
theorem jqC:jm0:=by
 rintro⟨l,⟨⟩⟩ f;refine⟨⟨0,⟨⟨rfl,trivial⟩,trivial⟩,jG7 _,fun b c=>by omega⟩,fun x d=>⟨fun h=> ?_,fun h=> ?_⟩⟩
 .have h:x<l.length:=(by simpa using h);simp only[jG1];refine⟨by omega,by omega,fun a=> ?_,fun a=>⟨L.in64 (by omega) (by simp only at f;omega),x+1,⟨⟨by simp,trivial⟩,trivial⟩,⟨h,fun b c=> ?_⟩,by omega⟩⟩
  .rw[jwr h d.2 (of_decide_eq_true a)]
  .by_cases e:b=x
   .subst e;exact Classical.not_not.1 (of_decide_eq_false a)
   .exact d.2 b (by omega)
 .have h:l.length<=x:=(by simpa using h);rw[jqK (fun b c=>d.2 b (by simp only at c;omega))]
theorem jaI:zk PR 72 jne:=kI joF jqC Tryz.func72 kcN koN
theorem jlD:jiY:=fun _=>rfl
theorem jjN:zk PR 84 jjf:=jU jlD Tryz.func84 (kcC qd (kcC jaI kcN)) koN
theorem jwe:jrF:=fun _=>rfl
theorem jsG:zk PR 96 jr5:=jU jwe Tryz.func96 (kcC qd (kcC jaI kcN)) koN
theorem jig:jgm:=by
 rintro⟨l,⟨⟩⟩ b c a;have b:l.length<=100000:=b;refine⟨fun h=>⟨?_,rfl⟩,fun _=>⟨by simp only;omega,by simp,rfl⟩⟩;have:l=[]:=a h;rw[this]
theorem jgK:qv PR 82 jgy:=jmi jig Tryz.func82 kcN koN
theorem jfN:jdH:=by
 unfold jdH q66_1 q66_4 q66_3 q66_2 q66_0;rintro⟨l,⟨⟩⟩ m C;have m:l.length<=100000:=m;obtain⟨eq,k⟩:∃eq,eq=U.wt:=⟨_,rfl⟩;have A:∀a b:ShD,decide (a=b)=eq a b:=fun a b=>by rw[k];rfl
 simp only[<-k,A,jG1];refine⟨fun h=>⟨?_,trivial⟩,fun h=> ?_⟩
 .have h:(l.length:Int)<2:=of_decide_eq_true h;rw[L.comp_short (by omega)]
 have h:¬(l.length:Int)<2:=of_decide_eq_false h;refine⟨⟨1,⟨⟨rfl,trivial⟩,trivial⟩,jGY _,by omega,?_⟩,fun i hi _=>⟨fun g=> ?_,fun g=>⟨?_,trivial⟩⟩⟩
 .rw[L.comp_short];rw[jHv];omega
 .have g:(i:Int)<(l.length:Int):=of_decide_eq_true g;obtain⟨s,D,f⟩:=hi;have z:((i:Int)-1).toNat=i-1:=(by omega);rw[z];have n:=L.comp_take (eq:=eq) (l:=l) s (by omega:i<l.length);refine⟨by omega,g,by unfold jw;omega,by omega,by omega,fun j=>⟨by omega,by omega,jHV _,⟨(1,l),⟨⟨rfl,?_,trivial⟩,rfl,trivial⟩,jGY _,by omega,rfl,?_,rfl,?_⟩,fun x q _=>⟨fun e=> ?_,fun e=> ?_⟩⟩,fun j=>⟨L.in64 (by omega) (by omega),i+1,⟨⟨by simp,trivial⟩,trivial⟩,⟨by omega,by omega,?_⟩,by omega⟩⟩
  .unfold U.jdn;rw[n,if_pos j,jHq,f,jHv];omega
  .rw[n,if_pos j,jHq,f,jHv];show l.take i=l.take (min i l.length);congr 1;omega
  .rw[n,if_pos j,jHq,f,jHv];omega
  .have e:(x.1:Int)<((l.length-i:Nat):Int):=of_decide_eq_true e;have r:=q;obtain⟨G,H,I,v,J,w⟩:=r;obtain⟨E,F⟩:=L.inv9_next s q (by omega);have y:((x.1:Int)-1).toNat=x.1-1:=(by omega);have o:i+(x.1-1)=i+x.1-1:=(by omega);rw[y,o];have p:U.jdn eq l (i+x.1)=((U.vz eq (l.take (i+x.1))).length:Int):=rfl;refine⟨by omega,e,by unfold jw;omega,by omega,by omega,fun c=> ?_,fun c=> ?_⟩
   .have c:eq (nth x.2 (i+x.1)) (nth x.2 (i+x.1-1))=false:=(by simpa using c);obtain⟨t,u⟩:=E c;refine⟨by omega,e,by omega,by omega,by unfold jw;omega,L.in64 (by omega) (by omega),(x.1+1,_),⟨⟨by simp,t.symm,trivial⟩,rfl,trivial⟩,u,by show _-(x.1+1)<_;omega⟩
   .have c:eq (nth x.2 (i+x.1)) (nth x.2 (i+x.1-1))=true:=(by simpa using c);obtain⟨t,u⟩:=F c;exact⟨L.in64 (by omega) (by omega),(x.1+1,x.2),⟨⟨t.symm,by simp,trivial⟩,rfl,trivial⟩,u,by show _-(x.1+1)<_;omega⟩
  .have e:¬(x.1:Int)<((l.length-i:Nat):Int):=of_decide_eq_false e;obtain⟨G,H,I,v,J,w⟩:=q;have p:U.jdn eq l (i+x.1)=((U.vz eq (l.take (i+x.1))).length:Int):=rfl;have d:l.take (i+x.1)=l:=jHA (by omega);rw[d] at p v w;rw[p];simp only[jG1];have B:=L.comp_len (eq:=eq) l;refine⟨by omega,by omega,jHV _,by omega,by omega,by omega,?_,⟨?_,trivial⟩⟩
   .simp only[jHk,jHv,jHR];omega
   .congr 1;rw[show(U.vz eq l).length-Int.toNat 0=(U.vz eq l).length from rfl];rw[List.take_left' (by rw[jHv];omega)];exact v.symm
  .rw[n,if_neg (by rw[j];simp),f];exact(L.take_succ (by omega)).symm
 .have g:¬(i:Int)<(l.length:Int):=of_decide_eq_false g;obtain⟨s,D,f⟩:=hi;have d:l.take i=l:=jHA (by omega);rw[d] at f;rw[f]
theorem jd4:qv PR 85 jdQ:=jjX jeC jfN Tryz.func85 kcN koN
theorem vD:qv PR 83 jc6:=
 jsk Tryz.sortSh 55 rfl (jHa (by kernel_rfl)) Tryz.isAgg55 Tryz.sizeOf55 (wQ Tryz.func83 (c:=zM Tryz.f83) (by kernel_rfl) (by kernel_rfl))
theorem jCc:jbu U.yP:=by
 have e:U.yP=jAD (fun a b=>U.jae (U.wv a) (U.wv b)) (jAD (fun a b=>U.jae (U.joM a) (U.joM b)) (jAD (fun a b=>U.jae (U.jAB a) (U.jAB b)) (jAD (fun a b=>U.jae (U.vq a) (U.vq b)) (fun a b=>U.jae (U.qq a) (U.qq b))))):=by
  funext a b;unfold U.yP;simp only[zy,wq,jAD]
  split<;>(try rfl);split<;>(try rfl);split<;>(try rfl);split<;>(try rfl);split<;>(try rfl)
  rename_i h;exact(Classical.not_not.1 h).symm
 rw[e];exact jgS (jhq jf4 U.wv) (jgS (jhq jf4 U.joM) (jgS (jhq jf4 U.jAB) (jgS (jhq jf4 U.vq) (jhq jf4 U.qq))))
theorem jwJ {a b:ShD} (h:U.yP a b=0):a=b:=by
 unfold U.yP at h;rw[zy] at h
 split at h
 .contradiction
 rename_i c;rw[zy] at h
 split at h
 .contradiction
 rename_i d;rw[zy] at h
 split at h
 .contradiction
 rename_i e;rw[zy] at h
 split at h
 .contradiction
 rename_i f;rw[wq] at h;have c:=vM.1 (Classical.not_not.1 c);have d:=vM.1 (Classical.not_not.1 d);have e:=vM.1 (Classical.not_not.1 e);have f:=vM.1 (Classical.not_not.1 f);have g:=vM.1 h;obtain⟨i,j,k,l,m,⟨⟩⟩:=a;obtain⟨n,o,p,q,r,⟨⟩⟩:=b;have c:i=n:=c;have d:j=o:=d;have e:k=p:=e;have f:l=q:=f;have g:m=r:=g;rw[c,d,e,f,g]
theorem jBg (l:List ShD):kK (U.jg tSh fun x=>(U.yP x.1 x.2.1,())) l:=jnG jCc (fun _ _ _ _ h=>jwJ h)
theorem jzY (l:List ShD):(U.jY l).length<=l.length:=by
 unfold U.jY;refine jHb (L.comp_len _) ?_;rw[(zp l).length_eq];exact jGY _
theorem jqz:jmX:=by
 unfold jmX q67_0;rintro⟨l,⟨⟩⟩ a;exact⟨a,fun _ _ _ _=>trivial,jBg l,by rw[(zp (lt:=U.jg tSh fun x=>(U.yP x.1 x.2.1,())) l).length_eq];exact a,rfl,rfl⟩
theorem jfu:qv PR 54 jni:=jmi jqz Tryz.func54 (kcC jjN kcN) (koC jgK (koC vD (koC jd4 koN)))
theorem js8:jo1:=by
 unfold jo1 q68_0;rintro⟨s,⟨m,⟨⟩⟩,⟨⟩⟩ h;have h:U.jxU m:=h;have:=h (U.wv s);have this:0<=kS 0 (zI .int s.1 m)/\kS 0 (zI .int s.1 m)<=200000:=this;exact⟨L.in64 (by simp only;omega) (by simp only;omega),rfl,rfl⟩
theorem jqa:qv PR 88 jpz:=jmi js8 Tryz.func88 kcN koN
theorem jac {m:List (Int×Int)} {l:List ShD} {i:Nat} (h:i<l.length):U.kY m l (i+1)=U.jcT (U.kY m l i) (nth l i):=by
 unfold U.kY;rw[L.take_succ h,jHh];rfl
theorem jC5 (l:List ShD):∀i,i<=l.length->∀k,0<=kS 0 (zI .int k (U.kY [] l i))/\kS 0 (zI .int k (U.kY [] l i))<=(i:Int)
 |0,_,k=>⟨jHV 0,jHV 0⟩
 |i+1,hi,k=>by
  have b:=jC5 l i (by omega)
  rw[jac (by omega)]
  unfold U.jcT
  by_cases e:k=U.wv (nth l i)
  .rw[e]
   have a:=M.mfind_mput (kt:= .int) (U.wv (nth l i)) (kS 0 (zI .int (U.wv (nth l i)) (U.kY [] l i))+1) (U.kY [] l i)
   rw[a]
   have:=b (U.wv (nth l i))
   show 0<=kS 0 (zI .int (U.wv (nth l i)) (U.kY [] l i))+1/\kS 0 (zI .int (U.wv (nth l i)) (U.kY [] l i))+1<=_
   omega
  .have a:=M.mfind_mput_ne (kt:= .int) (k:=U.wv (nth l i)) (k':=k) e (kS 0 (zI .int (U.wv (nth l i)) (U.kY [] l i))+1) (U.kY [] l i)
   rw[a]
   have:=b k
   omega
theorem jCt {m:List (Int×Int)} {l:List ShD} {i:Nat} (h:i<l.length) (a:∀b:Nat,b<i->U.jgf m l b=false) (hi:U.jgf m l i=true):U.jcv m l=(i:Int)/\U.jAu m l=i+1:=by
 have e:(List.range l.length).findIdx? (U.jgf m l)=some i:=by
  rw[List.findIdx?_eq_some_iff_getElem];refine⟨by simpa using h,by simpa using hi,fun j c=>by simp[a j c]⟩
 unfold U.jcv U.jAu U.jal;rw[e];exact⟨rfl,rfl⟩
theorem jmP {m:List (Int×Int)} {l:List ShD} (a:∀b:Nat,b<l.length->U.jgf m l b=false):U.jcv m l= -1/\U.jAu m l=l.length:=by
 have e:(List.range l.length).findIdx? (U.jgf m l)=none:=by
  rw[List.findIdx?_eq_none_iff];intro x c;exact a x (jG4.1 c)
 unfold U.jcv U.jAu U.jal;rw[e];exact⟨rfl,rfl⟩
theorem jaO:gn:=by
 rintro⟨l,⟨m,⟨⟩⟩,⟨⟩⟩ n g o;have g:m=[]:=g;subst g;have n:l.length<=100000:=n;refine⟨⟨0,⟨⟨rfl,trivial⟩,rfl,trivial⟩,jG7 _,fun b j=>by omega⟩,fun x a=>⟨fun h=> ?_,fun h=> ?_⟩⟩
 .have h:x<l.length:=(by simpa using h);simp only[jG1];refine⟨by omega,by omega,fun k=> ?_,fun f=> ?_,fun f=>⟨L.in64 (by omega) (by omega),x+1,⟨⟨by simp,trivial⟩,⟨trivial,trivial⟩,(jac h).symm,trivial⟩,⟨h,fun b j=> ?_⟩,by omega⟩⟩
  .have:=jC5 l x (by omega) k;omega
  .obtain⟨c,d⟩:=jCt h a.2 f;unfold U.jet;rw[c,d,jac h];exact⟨rfl,rfl⟩
  .by_cases e:b=x
   .subst e;exact f
   .exact a.2 b (by omega)
 .have h:l.length<=x:=(by simpa using h);obtain⟨c,d⟩:=jmP (m:=[]) (l:=l) (fun b j=>a.2 b (by omega));have i:x=l.length:=(by have:=a.1;simp only at this;omega);unfold U.jet;rw[c,d,i];exact⟨rfl,rfl⟩
theorem gJ:qv PR 119 gB:=jjX jai jaO Tryz.func119 kcN (koC jqa koN)
theorem yB:vU:=fun _ a b=>⟨a,b,rfl,rfl⟩
theorem yb:qv PR 87 v6:=jmi yB Tryz.func87 kcN (koC gJ koN)
theorem jzo:ju9:=fun _ h=>⟨h,rfl,rfl⟩
theorem jvR:zk PR 56 jvu:=jU jzo Tryz.func56 kcN (koC yb koN)
theorem jAX {c:CrD} (h:U.jj c=true):U.jQ c (0,1,0,0,0,1,())=true:=by
 obtain⟨a,_⟩:=jA h;unfold U.jQ;refine decide_eq_true ?_;refine⟨by decide,?_,by decide,?_,by decide,by decide,by decide,by decide,by decide,by decide,by decide,by decide,by decide⟩
 .show(0:Int)<=U.la c-1;omega
 .show(1:Int)<=U.la c-1;omega
theorem jz8 (c:CrD):U.zX c (0,1,0,0,0,1,())=if U.jj c=false then 30 else 0:=by
 unfold U.zX;by_cases h:U.jj c=false
 .rw[if_pos h,if_pos h]
 .rw[if_neg h,if_neg h,if_neg (by rw[jAX (by simpa using h)];simp)]
theorem joa:jlc:=by
 unfold jlc q72_0;rintro⟨d,⟨⟩⟩;have e:=jz8 d.1;simp only[e];by_cases f:U.jj d.1=false
 .rw[if_pos f];refine⟨fun _=> ?_,fun h=>by simp at h⟩;have f:U.jj (U.jc d)=false:=f;unfold U.jkQ;rw[if_pos f]
 .rw[if_neg f];have c:U.jj (U.jc d)=true:=eq_true_of_ne_false f;refine⟨fun h=>by simp at h,fun _ k=>⟨⟨0,⟨⟨rfl,trivial⟩,trivial⟩,jG7 _,fun b j=>by omega⟩,fun x l=>⟨fun h=> ?_,fun h=> ?_⟩⟩⟩
  .have h:(x:Int)<((U.jm d).length:Int):=of_decide_eq_true h;have h:x<(U.jm d).length:=(by omega);have k:(U.jm d).length<4611686018427387904:=k;have m:U.zX d.1 (nth d.2.2.1 x).1=if U.jQ (U.jc d) (U.vJ (nth (U.jm d) x))=false then 31 else 0:=by
    show(if U.jj (U.jc d)=false then(30:Int) else if U.jQ (U.jc d) (U.vJ (nth (U.jm d) x))=false then 31 else 0)=_;rw[if_neg (by rw[c];simp)]
   simp only[jG1,m];refine⟨by omega,by show(x:Int)<((U.jm d).length:Int);omega,fun a=> ?_,fun a=>⟨L.in64 (by omega) (by omega),x+1,⟨⟨by simp,trivial⟩,trivial⟩,⟨h,fun b j=> ?_⟩,(by show(U.jm d).length-(x+1)<(U.jm d).length-x;omega)⟩⟩
   .have a:=of_decide_eq_true a;by_cases g:U.jQ (U.jc d) (U.vJ (nth (U.jm d) x))=false
    .rw[if_pos g];unfold U.jkQ;rw[if_neg (by rw[c];simp),if_pos];unfold U.jv8;exact L.all_false h g
    .rw[if_neg g] at a;exact absurd rfl a
   .have a:=of_decide_eq_false a;by_cases n:b=x
    .subst n;by_cases g:U.jQ (U.jc d) (U.vJ (nth (U.jm d) b))=false
     .rw[if_pos g] at a;exact absurd (by decide) a
     .exact eq_true_of_ne_false g
    .exact l.2 b (by omega)
  .have h:¬(x:Int)<((U.jm d).length:Int):=of_decide_eq_false h;have h:(U.jm d).length<=x:=(by omega);unfold U.jkQ;rw[if_neg (by rw[c];simp),if_neg];rw[Bool.not_eq_false];unfold U.jv8;rw[jHg];intro b j;obtain⟨i,hi,rfl⟩:=L.mem_iff.1 j;exact l.2 i (by omega)
theorem jlt:zk PR 80 jlj:=kI jlO joa Tryz.func80 (kcC jl9 kcN) koN
theorem jzq:jvb:=by
 rintro⟨d,⟨⟩⟩ c;refine⟨fun h=> ?_,fun h=>⟨fun b=> ?_,fun b=>⟨c,jHb (jzY _) c,fun a=> ?_,fun a=> ?_⟩⟩⟩
 .have h:=of_decide_eq_true h;simp only at h⊢;unfold U.ju;rw[if_pos h]
 .have h:=of_decide_eq_false h;simp only at h⊢;unfold U.ju;rw[if_neg h,if_pos (by simpa using b)]
 .have h:=of_decide_eq_false h;simp only at h⊢;unfold U.ju;rw[if_neg h,if_neg (by simpa using b)];have a:U.jxd (U.jY (U.kl d))=true:=a;rw[if_pos a]
 .have h:=of_decide_eq_false h;simp only at h⊢;unfold U.ju;rw[if_neg h,if_neg (by simpa using b)];have a:U.jxd (U.jY (U.kl d))=false:=a;rw[if_neg (by rw[a];simp)]
theorem jvS:zk PR 53 jvw:=jU jzq Tryz.func53 (kcC jlt (kcC jvQ (kcC jvR kcN))) (koC jfu koN)
end Go.X
namespace Go.X
namespace U
def jvm {α:Type} [Inhabited α] (l:List α) (j k:Nat):List α:=(l.set j (nth l k)).set k (nth l j)
def jc7 {α:Type} [Inhabited α] (lt:α->α->Bool):List α->Nat->List α
 |l,0=>l
 |l,j+1=>if lt (nth l (j+1)) (nth l j)=true then jc7 lt (jvm l (j+1) j) j else l
def y4 {α:Type} [Inhabited α] (lt:α->α->Bool) (l:List α) (i:Nat):List α:=(List.range i).foldl (jc7 lt) l
def jbd {α:Type} [Inhabited α] (lt:α->α->Bool) (l:List α):List α:=y4 lt l l.length
def jee {α:Type} (lt:α->α->Bool) (x:α):List α->List α
 |[]=>[x]
 |y::r=>if lt x y=true then y::jee lt x r else x::y::r
end U
namespace IS
variable {α:Type} [Inhabited α] {lt:α->α->Bool}
theorem swap_perm {l:List α} {j k:Nat} (a:j<l.length) (hk:k<l.length):(U.jvm l j k).Perm l:=by
 unfold U.jvm;rw[L.nth_lt a,L.nth_lt hk];exact List.set_set_perm a hk
theorem sink_perm:∀(j:Nat) (l:List α),j<l.length->(U.jc7 lt l j).Perm l
 |0,l,_=>List.Perm.refl _
 |j+1,l,h=>by
  unfold U.jc7
  have a:=swap_perm (l:=l) (j:=j+1) (k:=j) h (by omega)
  split
  .exact(sink_perm j _ (by rw[a.length_eq];omega)).trans a
  .exact List.Perm.refl _
theorem part_succ (lt:α->α->Bool) (l:List α) (i:Nat):U.y4 lt l (i+1)=U.jc7 lt (U.y4 lt l i) i:=by
 simp[U.y4,jHn]
theorem part_perm {l:List α}:∀(i:Nat),i<=l.length->(U.y4 lt l i).Perm l
 |0,_=>List.Perm.refl _
 |i+1,h=>by
  rw[part_succ]
  have a:=part_perm (l:=l) i (by omega)
  exact(sink_perm i _ (by rw[a.length_eq];omega)).trans a
theorem isort_perm (lt:α->α->Bool) (l:List α):(U.jbd lt l).Perm l:=part_perm _ (jGY _)
theorem part_isort {l:List α} {i:Nat} (a:1<=i) (b:i<=max l.length 1) (c:l.length<=i):U.y4 lt l i=U.jbd lt l:=by
 unfold U.jbd;by_cases h:l.length=0
 .have:i=1:=(by omega);subst this;rw[h];rfl
 .have:i=l.length:=(by omega);rw[this]
theorem insR_len {α:Type} {lt:α->α->Bool} (x:α):∀q:List α,(U.jee lt x q).length=q.length+1
 |[]=>rfl
 |y::r=>by
  unfold U.jee
  split
  .simp[insR_len x r]
  .simp
theorem nth_mid (a:List α) (x:α) (s:List α):nth (a++x::s) a.length=x:=by
 rw[L.nth_lt (by simp)];simp
theorem sink_app:∀(q:List α) (x:α) (s:List α),U.jc7 lt (q.reverse++x::s) q.length=(U.jee lt x q).reverse++s
 |[],x,s=>rfl
 |y::r,x,s=>by
  have e:(y::r).reverse++x::s=r.reverse++y::x::s:=by simp
  rw[e]
  have g:nth (r.reverse++y::x::s) (r.length+1)=x:=by
   have:=nth_mid (r.reverse++[y]) x s;simpa using this
  have h:nth (r.reverse++y::x::s) r.length=y:=by
   have:=nth_mid r.reverse y (x::s);simpa using this
  show(if lt (nth _ (r.length+1)) (nth _ r.length)=true then U.jc7 lt (U.jvm _ (r.length+1) r.length) r.length else _)=_;rw[g,h];unfold U.jee
  split
  .have a:U.jvm (r.reverse++y::x::s) (r.length+1) r.length=r.reverse++x::(y::s):=by
    unfold U.jvm;rw[g,h];apply List.ext_getElem?;intro k;simp only[List.getElem?_set,jH6];by_cases b:r.length=k
    .subst b;rw[if_pos rfl,if_pos (by simp)];rw[jG8 (by simp)];simp
    .rw[if_neg b];by_cases c:r.length+1=k
     .subst c;rw[if_pos rfl,if_pos (by simp)];rw[jG8 (by simp)];simp
     .rw[if_neg c];by_cases f:k<r.length
      .rw[jG9 (by simpa using f),jG9 (by simpa using f)]
      .rw[jG8 (by simp;omega),jG8 (by simp;omega)];obtain⟨d,i⟩:∃d,k-r.reverse.length=d+2:=⟨k-r.length-2,by simp;omega⟩;rw[i];simp
   rw[a,sink_app r x (y::s)];simp
  .simp
theorem fold_len {α:Type} {lt:α->α->Bool}:∀(l q:List α),(l.foldl (fun q x=>U.jee lt x q) q).length=q.length+l.length
 |[],q=>rfl
 |x::l,q=>by
  simp only[List.foldl_cons,jHy]
  rw[fold_len l,insR_len];omega
theorem part_eq (l:List α):∀i,i<=l.length->U.y4 lt l i=((l.take i).foldl (fun q x=>U.jee lt x q) []).reverse++l.drop i
 |0,_=>by simp[U.y4]
 |i+1,h=>by
  rw[part_succ,part_eq l i (by omega)]
  have b:l.drop i=nth l i::l.drop (i+1):=by
   rw[L.nth_lt (by omega)];exact List.drop_eq_getElem_cons (by omega)
  rw[b];have a:((l.take i).foldl (fun q x=>U.jee lt x q) []).length=i:=(by rw[fold_len];simp;omega);have:=sink_app (lt:=lt) ((l.take i).foldl (fun q x=>U.jee lt x q) []) (nth l i) (l.drop (i+1));rw[a] at this;rw[this,L.take_succ (by omega),jHh];rfl
theorem isort_eq (l:List α):U.jbd lt l=(l.foldl (fun q x=>U.jee lt x q) []).reverse:=by
 unfold U.jbd;rw[part_eq l _ (jGY _)];simp
theorem insR_mem {α:Type} {lt:α->α->Bool} {x z:α}:∀{q:List α},z∈U.jee lt x q↔z=x\/z∈q
 |[]=>by simp[U.jee]
 |y::r=>by
  unfold U.jee
  split
  .simp only[jGX,insR_mem (q:=r)]
   constructor
   .rintro(h|h|h)<;>simp[h]
   .rintro(h|h|h)<;>simp[h]
  .simp
theorem insR_desc {α:Type} {lt:α->α->Bool} {x:α}:∀{q:List α},kK lt (x::q)->q.Pairwise (fun a b=>lt a b=false)->(U.jee lt x q).Pairwise (fun a b=>lt a b=false)
 |[],_,_=>by simp[U.jee]
 |y::r,ho,h=>by
  rw[jHN] at h
  unfold U.jee
  split
  .rename_i d
   rw[jHN]
   refine⟨fun z c=> ?_,insR_desc (ho.sub (fun z c=>by rcases jGX.1 c with h|h;exact h▸jHz;exact jG0 _ (jG0 _ h))) h.2⟩
   rcases insR_mem.1 c with rfl|c
   .exact ho.asymm (by simp) (by simp) d
   .exact h.1 z c
  .rename_i d
   have d:lt x y=false:=by simpa using d
   rw[jHN]
   refine⟨fun z c=> ?_,jHN.2 h⟩
   rcases jGX.1 c with rfl|c
   .exact d
   .exact ho.ntrans (by simp) (by simp) (by simp[c]) d (h.1 z c)
theorem fold_desc {α:Type} {lt:α->α->Bool}:∀(l q:List α),kK lt (l++q)->q.Pairwise (fun a b=>lt a b=false)->(l.foldl (fun q x=>U.jee lt x q) q).Pairwise (fun a b=>lt a b=false)
 |[],q,_,h=>h
 |x::l,q,ho,h=>by
  refine fold_desc l _ (ho.sub (fun z c=> ?_)) (insR_desc (ho.sub (fun z c=> ?_)) h)
  .rcases jG5.1 c with c|c
   .simp[c]
   .rcases insR_mem.1 c with rfl|c
    .simp
    .simp[c]
  .rcases jGX.1 c with rfl|c
   .simp
   .simp[c]
theorem isort_asc {l:List α} (a:kK lt l):jw9 lt (U.jbd lt l):=by
 rw[isort_eq];unfold jw9;rw[List.pairwise_reverse];exact fold_desc l [] (by simpa using a) (by simp)
theorem isort_sort {l:List α} (a:kK lt l):U.jbd lt l=U.jd lt l:=jpw a (isort_perm lt l) (isort_asc a)
end IS
end Go.X
namespace Go.X
open Go.Proofs
def U.len8tab:ByteArray:=⟨#[0,1,2,2,3,3,3,3,4,4,4,4,4,4,4,4,5,5,5,5,5,5,5,5,5,5,5,5,5,5,5,5,6,6,6,6,6,6,6,6,6,6,6,6,6,6,6,6,6,6,6,6,6,6,6,6,6,6,6,6,6,6,6,6,7,7,7,7,7,7,7,7,7,7,7,7,7,7,7,7,7,7,7,7,7,7,7,7,7,7,7,7,7,7,7,7,7,7,7,7,7,7,7,7,7,7,7,7,7,7,7,7,7,7,7,7,7,7,7,7,7,7,7,7,7,7,7,7,8,8,8,8,8,8,8,8,8,8,8,8,8,8,8,8,8,8,8,8,8,8,8,8,8,8,8,8,8,8,8,8,8,8,8,8,8,8,8,8,8,8,8,8,8,8,8,8,8,8,8,8,8,8,8,8,8,8,8,8,8,8,8,8,8,8,8,8,8,8,8,8,8,8,8,8,8,8,8,8,8,8,8,8,8,8,8,8,8,8,8,8,8,8,8,8,8,8,8,8,8,8,8,8,8,8,8,8,8,8,8,8,8,8,8,8,8,8,8,8,8,8,8,8,8,8,8,8]⟩
abbrev rwI:Sh:= .cl (.row 3 .int .unk)
namespace U
abbrev FC:=Int×Int×Unit->Int×Unit
abbrev vL (F:FC):Int->Int->Bool:=jg .int F
def jba (p:Int×Int×Unit->List Prop) (l:List Int):Prop:=∀x∈l,∀y∈l,jD (p (x,y,()))
def jex (n:Int):Int:=if n=0 then 0 else if n<2 then 1 else if n<4 then 2 else if n<8 then 3 else 4
end U
def jng:jT:=⟨[.val (.uint .u64)],[.int],false,fun d=>[0<=d.1/\d.1<=12],fun d=>(U.jex d.1,())⟩
abbrev q74_0 (d:Int×Unit):=(d.1/(2:Int)^Int.toNat 32/(2:Int)^Int.toNat 16/(2:Int)^Int.toNat 8)
abbrev q74_1 (d:Int×Unit):=(d.1/(2:Int)^Int.toNat 32/(2:Int)^Int.toNat 16)
abbrev q74_2 (d:Int×Unit):=(d.1/(2:Int)^Int.toNat 32/(2:Int)^Int.toNat 8)
abbrev q74_3 (d:Int×Unit):=(d.1/(2:Int)^Int.toNat 16/(2:Int)^Int.toNat 8)
abbrev q74_4 (d:Int×Unit):=(256<=d.1/(2:Int)^Int.toNat 32/(2:Int)^Int.toNat 16)
def jm2:Prop:=∀(d:Int×Unit),0<=d.1/\d.1<=12->(decide (4294967296<=d.1)=true->(0:Int)<=32/\(32:Int)<=64/\(decide (65536<=d.1/(2:Int)^Int.toNat 32)=true->(0:Int)<=16/\(16:Int)<=64/\jw ((32:Int)+16)/\(decide (q74_4 d)=true->(0:Int)<=8/\(8:Int)<=64/\jw ((32:Int)+16+8)/\0<=d.1/(2:Int)^Int.toNat 32/(2:Int)^Int.toNat 16/(2:Int)^Int.toNat 8/\d.1/(2:Int)^Int.toNat 32/(2:Int)^Int.toNat 16/(2:Int)^Int.toNat 8<=255/\0<=d.1/(2:Int)^Int.toNat 32/(2:Int)^Int.toNat 16/(2:Int)^Int.toNat 8/\d.1/(2:Int)^Int.toNat 32/(2:Int)^Int.toNat 16/(2:Int)^Int.toNat 8<(U.len8tab.size:Int)/\jw (qp U.len8tab (q74_0 d).toNat)/\jw ((32:Int)+16+8+qp U.len8tab (q74_0 d).toNat)/\((32:Int)+16+8+qp U.len8tab (q74_0 d).toNat,())=(U.jex d.1,()))/\(decide (q74_4 d)=false->0<=d.1/(2:Int)^Int.toNat 32/(2:Int)^Int.toNat 16/\d.1/(2:Int)^Int.toNat 32/(2:Int)^Int.toNat 16<=255/\0<=d.1/(2:Int)^Int.toNat 32/(2:Int)^Int.toNat 16/\d.1/(2:Int)^Int.toNat 32/(2:Int)^Int.toNat 16<(U.len8tab.size:Int)/\jw (qp U.len8tab (q74_1 d).toNat)/\jw ((32:Int)+16+qp U.len8tab (q74_1 d).toNat)/\((32:Int)+16+qp U.len8tab (q74_1 d).toNat,())=(U.jex d.1,())))/\(decide (65536<=d.1/(2:Int)^Int.toNat 32)=false->(decide (256<=d.1/(2:Int)^Int.toNat 32)=true->(0:Int)<=8/\(8:Int)<=64/\jw ((32:Int)+8)/\0<=d.1/(2:Int)^Int.toNat 32/(2:Int)^Int.toNat 8/\d.1/(2:Int)^Int.toNat 32/(2:Int)^Int.toNat 8<=255/\0<=d.1/(2:Int)^Int.toNat 32/(2:Int)^Int.toNat 8/\d.1/(2:Int)^Int.toNat 32/(2:Int)^Int.toNat 8<(U.len8tab.size:Int)/\jw (qp U.len8tab (q74_2 d).toNat)/\jw ((32:Int)+8+qp U.len8tab (q74_2 d).toNat)/\((32:Int)+8+qp U.len8tab (q74_2 d).toNat,())=(U.jex d.1,()))/\(decide (256<=d.1/(2:Int)^Int.toNat 32)=false->0<=d.1/(2:Int)^Int.toNat 32/\d.1/(2:Int)^Int.toNat 32<=255/\0<=d.1/(2:Int)^Int.toNat 32/\d.1/(2:Int)^Int.toNat 32<(U.len8tab.size:Int)/\jw (qp U.len8tab (d.1/(2:Int)^Int.toNat 32).toNat)/\jw ((32:Int)+qp U.len8tab (d.1/(2:Int)^Int.toNat 32).toNat)/\((32:Int)+qp U.len8tab (d.1/(2:Int)^Int.toNat 32).toNat,())=(U.jex d.1,()))))/\(decide (4294967296<=d.1)=false->(decide (65536<=d.1)=true->(0:Int)<=16/\(16:Int)<=64/\jw ((0:Int)+16)/\(decide (256<=d.1/(2:Int)^Int.toNat 16)=true->(0:Int)<=8/\(8:Int)<=64/\jw ((0:Int)+16+8)/\0<=d.1/(2:Int)^Int.toNat 16/(2:Int)^Int.toNat 8/\d.1/(2:Int)^Int.toNat 16/(2:Int)^Int.toNat 8<=255/\0<=d.1/(2:Int)^Int.toNat 16/(2:Int)^Int.toNat 8/\d.1/(2:Int)^Int.toNat 16/(2:Int)^Int.toNat 8<(U.len8tab.size:Int)/\jw (qp U.len8tab (q74_3 d).toNat)/\jw ((0:Int)+16+8+qp U.len8tab (q74_3 d).toNat)/\((0:Int)+16+8+qp U.len8tab (q74_3 d).toNat,())=(U.jex d.1,()))/\(decide (256<=d.1/(2:Int)^Int.toNat 16)=false->0<=d.1/(2:Int)^Int.toNat 16/\d.1/(2:Int)^Int.toNat 16<=255/\0<=d.1/(2:Int)^Int.toNat 16/\d.1/(2:Int)^Int.toNat 16<(U.len8tab.size:Int)/\jw (qp U.len8tab (d.1/(2:Int)^Int.toNat 16).toNat)/\jw ((0:Int)+16+qp U.len8tab (d.1/(2:Int)^Int.toNat 16).toNat)/\((0:Int)+16+qp U.len8tab (d.1/(2:Int)^Int.toNat 16).toNat,())=(U.jex d.1,())))/\(decide (65536<=d.1)=false->(decide (256<=d.1)=true->(0:Int)<=8/\(8:Int)<=64/\jw ((0:Int)+8)/\0<=d.1/(2:Int)^Int.toNat 8/\d.1/(2:Int)^Int.toNat 8<=255/\0<=d.1/(2:Int)^Int.toNat 8/\d.1/(2:Int)^Int.toNat 8<(U.len8tab.size:Int)/\jw (qp U.len8tab (d.1/(2:Int)^Int.toNat 8).toNat)/\jw ((0:Int)+8+qp U.len8tab (d.1/(2:Int)^Int.toNat 8).toNat)/\((0:Int)+8+qp U.len8tab (d.1/(2:Int)^Int.toNat 8).toNat,())=(U.jex d.1,()))/\(decide (256<=d.1)=false->0<=d.1/\d.1<=255/\0<=d.1/\d.1<(U.len8tab.size:Int)/\jw (qp U.len8tab d.1.toNat)/\jw ((0:Int)+qp U.len8tab d.1.toNat)/\((0:Int)+qp U.len8tab d.1.toNat,())=(U.jex d.1,()))))
def jse:jT:=⟨[.val (.uint .u64)],[.int],false,fun d=>[0<=d.1/\d.1<=12],fun d=>(U.jex d.1,())⟩
def jrO:Prop:=∀(d:Int×Unit),0<=d.1/\d.1<=12->(false=true->False)/\(false=false->(0<=d.1/\d.1<=12)/\(U.jex d.1,())=(U.jex d.1,()))
def qW:zV:=⟨[.own rwI true,.val .int,.val .int,.fn [.int,.int] [.int]],[],fun d=>[d.2.1=0/\d.2.2.1=(d.1.length:Int)/\d.1.length<=12,U.jba d.2.2.2.1.pre d.1],fun d=>((),(U.jbd (U.vL d.2.2.2.1.F) d.1,()))⟩
def vj:Ann:=fun r=>match r with
 |1=>some fun σ=>{X:=Nat,sl:=fun i=>[(8,.dat .int (i:Int))],ob:=fun i=>[(1000000,some (.row 3 .int false .unk (U.y4 (U.vL (gfn [.int,.int] [.int] σ 3)) (gr .int σ 1000000) i)))],inv:=fun i=>1<=i/\i<=max (gr .int σ 1000000).length 1,mu:=fun i=>(gr .int σ 1000000).length-i}
 |4=>some fun σ=>{X:=Nat×List Int,sl:=fun x=>[(9,.dat .int (x.1:Int))],ob:=fun x=>[(1000000,some (.row 3 .int false .unk x.2))],inv:=fun x=>(x.1:Int)<=gd .int σ 8/\x.2.Perm (gr .int σ 1000000)/\U.jc7 (U.vL (gfn [.int,.int] [.int] σ 3)) x.2 x.1=U.jc7 (U.vL (gfn [.int,.int] [.int] σ 3)) (gr .int σ 1000000) (gd .int σ 8).toNat,mu:=fun x=>x.1}
 |_=>none
abbrev q76_0 (a:Nat×List Int):=(nth a.2 (a.1:Int).toNat,nth a.2 ((a.1:Int)-1).toNat,())
abbrev q76_1 (d:List Int×Int×Int×FnD [Ty.int,Ty.int] [Ty.int]×Unit):=(U.vL d.2.2.2.1.2)
def qT:Prop:=∀(d:List Int×Int×Int×FnD [Ty.int,Ty.int] [Ty.int]×Unit),d.2.1=0/\d.2.2.1=(d.1.length:Int)/\d.1.length<=12->U.jba d.2.2.2.1.1 d.1->jw (d.2.1+1)/\(∃(x:Nat),((d.2.1+1=(x:Int)/\True)/\d.1=U.y4 (q76_1 d) d.1 x/\True)/\1<=x/\x<=max d.1.length 1)/\∀(x:Nat),1<=x/\x<=max d.1.length 1->(decide ((x:Int)<d.2.2.1)=true->(∃(a:Nat×List Int),(((x:Int)=(a.1:Int)/\True)/\U.y4 (q76_1 d) d.1 x=a.2/\True)/\(a.1:Int)<=(x:Int)/\a.2.Perm (U.y4 (q76_1 d) d.1 x)/\U.jc7 (q76_1 d) a.2 a.1=U.jc7 (q76_1 d) (U.y4 (q76_1 d) d.1 x) (x:Int).toNat)/\∀(a:Nat×List Int),(a.1:Int)<=(x:Int)/\a.2.Perm (U.y4 (q76_1 d) d.1 x)/\U.jc7 (q76_1 d) a.2 a.1=U.jc7 (q76_1 d) (U.y4 (q76_1 d) d.1 x) (x:Int).toNat->(decide (d.2.1<(a.1:Int))=true->0<=(a.1:Int))/\(decide (d.2.1<(a.1:Int))=true->(a.1:Int)<(a.2.length:Int))/\(decide (d.2.1<(a.1:Int))=true->jw ((a.1:Int)-1))/\(decide (d.2.1<(a.1:Int))=true->0<=(a.1:Int)-1)/\(decide (d.2.1<(a.1:Int))=true->(a.1:Int)-1<(a.2.length:Int))/\jAh (decide (d.2.1<(a.1:Int))) (d.2.2.2.1.1 (q76_0 a)) (((decide (d.2.1<(a.1:Int))&&decide ((d.2.2.2.1.2 (q76_0 a)).1<0))=true->jw ((a.1:Int)-1)/\jw ((a.1:Int)-1)/\0<=(a.1:Int)-1/\(a.1:Int)-1<(a.2.length:Int)/\0<=(a.1:Int)/\(a.1:Int)<(a.2.length:Int)/\0<=(a.1:Int)/\(a.1:Int)<(a.2.length:Int)/\0<=(a.1:Int)-1/\(a.1:Int)-1<(↑(a.2.set (a.1:Int).toNat (nth a.2 ((a.1:Int)-1).toNat)).length:Int)/\jw ((a.1:Int)-1)/\∃(b:Nat×List Int),(((a.1:Int)-1=(b.1:Int)/\True)/\(a.2.set (a.1:Int).toNat (nth a.2 ((a.1:Int)-1).toNat)).set ((a.1:Int)-1).toNat (nth a.2 (a.1:Int).toNat)=b.2/\True)/\((b.1:Int)<=(x:Int)/\b.2.Perm (U.y4 (q76_1 d) d.1 x)/\U.jc7 (q76_1 d) b.2 b.1=U.jc7 (q76_1 d) (U.y4 (q76_1 d) d.1 x) (x:Int).toNat)/\b.1<a.1)/\((decide (d.2.1<(a.1:Int))&&decide ((d.2.2.2.1.2 (q76_0 a)).1<0))=false->jw ((x:Int)+1)/\∃(c:Nat),(((x:Int)+1=(c:Int)/\True)/\a.2=U.y4 (q76_1 d) d.1 c/\True)/\(1<=c/\c<=max d.1.length 1)/\d.1.length-c<d.1.length-x)))/\(decide ((x:Int)<d.2.2.1)=false->()=()/\(U.y4 (q76_1 d) d.1 x,())=(U.jbd (q76_1 d) d.1,()))
def gA:zV:=⟨[.own rwI true,.val .int,.val .int,.val .int,.fn [.int,.int] [.int]],[],fun d=>[d.2.1=0/\d.2.2.1=(d.1.length:Int)/\d.1.length<=12,U.jba d.2.2.2.2.1.pre d.1],fun d=>((),(U.jbd (U.vL d.2.2.2.2.1.F) d.1,()))⟩
def jah:Ann:=fun r=>match r with
 |1000002=>some fun _=>{X:=Unit,sl:=fun _=>[],ob:=fun _=>[],inv:=fun _=>True,mu:=fun _=>0}
 |_=>none
def gm:Prop:=∀(d:List Int×Int×Int×Int×FnD [Ty.int,Ty.int] [Ty.int]×Unit),d.2.1=0/\d.2.2.1=(d.1.length:Int)/\d.1.length<=12->U.jba d.2.2.2.2.1.1 d.1->jw (d.2.2.1-d.2.1)/\(decide (d.2.2.1-d.2.1<=12)=true->(d.2.1=0/\d.2.2.1=(d.1.length:Int)/\d.1.length<=12)/\U.jba d.2.2.2.2.1.1 d.1/\()=()/\(U.jbd (U.vL d.2.2.2.2.1.2) d.1,())=(U.jbd (U.vL d.2.2.2.2.1.2) d.1,()))/\(decide (d.2.2.1-d.2.1<=12)=false->(decide (d.2.2.2.1=0)=true->False)/\(decide (d.2.2.2.1=0)=false->((!true)=true->False)/\((!true)=false->False)))
def zK:zV:=⟨[.own rwI true,.fn [.int,.int] [.int]],[],fun d=>[d.1.length<=12,U.jba d.2.1.pre d.1,kK (U.vL d.2.1.F) d.1],fun d=>((),(U.jd (U.vL d.2.1.F) d.1,()))⟩
def jeN:Prop:=∀(d:List Int×FnD [Ty.int,Ty.int] [Ty.int]×Unit),d.1.length<=12->U.jba d.2.1.1 d.1->kK (U.vL d.2.1.2) d.1->d.1.length<4611686018427387904->0<=(d.1.length:Int)/\(d.1.length:Int)<=18446744073709551615/\(0<=(d.1.length:Int)/\(d.1.length:Int)<=12)/\((0:Int)=0/\(d.1.length:Int)=(d.1.length:Int)/\d.1.length<=12)/\U.jba d.2.1.1 d.1/\()=()/\(U.jbd (U.vL d.2.1.2) d.1,())=(U.jd (U.vL d.2.1.2) d.1,())
def asI (l:List Int):List (Ty.st [.int]).Data:=l.map (fun x=>(x,()))
def LVi (d:PD [.ref (.slice .int)]) (xs:List (Ty.st [.int]).Data):Prop:=xs=asI d.1
def jgd:jiM (YS [.int]):=fun r=>match r with
 |1=>some fun σ ys=>{X:=Nat,sl:=fun i=>[(7,.dat .int (i:Int))],ob:=fun _=>[],ys:=fun i=>(asI ((gd (.slice .int) σ 5).take i),true),inv:=fun i=>i<=(gd (.slice .int) σ 5).length,mu:=fun i=>(gd (.slice .int) σ 5).length-i}
 |_=>none
abbrev q79_0 (d:List Int×Unit)(x:Nat):=(nth d.1 (x:Int).toNat,())
def yD:Prop:=∀(d:List Int×Unit) (l:Nat),d.1.length<4611686018427387904->(∃(x:Nat),((0=(x:Int)/\True)/\True)/\([],true)=(List.map (fun(f:Int)=>(f,())) (List.take x d.1),true)/\x<=d.1.length)/\∀(x:Nat),x<=d.1.length->(decide ((x:Int)<(d.1.length:Int))=true->0<=(x:Int)/\(x:Int)<(d.1.length:Int)/\l=l/\(∃(rest:List (Int×Unit)),List.map (fun(g:Int)=>(g,())) (List.take x d.1)++[(q79_0 d x)]++rest=List.map (fun(h:Int)=>(h,())) d.1)/\(((!true)=true->true=true->List.map (fun(i:Int)=>(i,())) (List.take x d.1)++[(q79_0 d x)]=List.map (fun(j:Int)=>(j,())) d.1)/\((!true)=false->jw ((x:Int)+1)/\∃(a:Nat),(((x:Int)+1=(a:Int)/\True)/\True)/\(List.map (fun(k:Int)=>(k,())) (List.take x d.1)++[(q79_0 d x)],true)=(List.map (fun(z6:Int)=>(z6,())) (List.take a d.1),true)/\a<=d.1.length/\d.1.length-a<d.1.length-x))/\((!false)=true->false=true->List.map (fun(z7:Int)=>(z7,())) (List.take x d.1)++[(q79_0 d x)]=List.map (fun(z8:Int)=>(z8,())) d.1)/\((!false)=false->jw ((x:Int)+1)/\∃(a:Nat),(((x:Int)+1=(a:Int)/\True)/\True)/\(List.map (fun(m:Int)=>(m,())) (List.take x d.1)++[(q79_0 d x)],false)=(List.map (fun(b:Int)=>(b,())) (List.take a d.1),true)/\a<=d.1.length/\d.1.length-a<d.1.length-x))/\(decide ((x:Int)<(d.1.length:Int))=false->true=true->List.map (fun(c:Int)=>(c,())) (List.take x d.1)=List.map (fun(e:Int)=>(e,())) d.1)
theorem jbz:(jAZ (ctx 16 [] []) (zM Tryz.f101) [.int] [.ref (.slice .int)] LVi (fun _=>[]) (fun _ _=>jgd) (fun d l=>hkY [.int] l [13] (fun q=>∃rest,LVi d (q++rest)) (fun _=>none)))=yD:=by kernel_rfl
def zO:jeH:=⟨[.val (.slice .int)],fun _=>[],101,[.slice .int],fun d=>(d.1,())⟩
def ja1:Prop:=∀(d:List Int×Unit),d=d
theorem jdE:(jAb (ctx 4 [] []) (fun _=>none) Tryz.f70 (zM Tryz.f70) zO)=ja1:=by kernel_rfl
def v8:jrk [.int]:={ps:=[.own (.box 34 [.row 3 .int .unk]) true],slots:=[2],dst:=20,pre:=fun _=>[],G:=fun d q=>((d.1.1++q.map (·.1),()),()),seq:=fun sv=>match sv with
 | .clo 101 [.ep t m]=>(match zn t (.slice .int) m with
  |some a=>some (True,fun xs=>xs=asI a)
  |none=>none)
 |_=>none}
def wT:Nat->Option ((ts:List Ty)×jrk ts):=fun r=>match r with
 |3=>some ⟨[.int],v8⟩
 |_=>none
def kc:jeE:=⟨[none,some (101,1)],[.nil false,.ref (.slice .int)],[rwI],fun d=>[d.2.1.length<=12],fun d r=>r.1.1=d.2.1⟩
def kB:jeE:=⟨[some (101,1)],[.ref (.slice .int)],[rwI],fun d=>[d.1.length<=12],fun d r=>r.1.1=d.1⟩
def zT:jeE:=⟨[some (101,1),none],[.ref (.slice .int),.fn [.int,.int] [.int]],[rwI],fun d=>[d.1.length<=12,U.jba d.2.1.pre d.1,kK (U.vL d.2.1.F) d.1],fun d r=>r.1.1=U.jd (U.vL d.2.1.F) d.1⟩
def jez (d:OD kc.ps):List SV:=[.lit (.slice none 0 0),.clo 101 [.ep (.slice .int) d.2.1]]
def vV:Prop:=∀(d:Unit×List Int×Unit),d.2.1.length<=12/\True->True/\True/\(([]++List.map (fun(a:Int×Unit)=>a.1) [],()),())=(([],()),())/\(∀(q:List (Int×Unit)) (x:Int×Unit) (rest:List (Int×Unit)),q++x::rest=List.map (fun(b:Int)=>(b,())) d.2.1->we (fun(i:List (Int×Unit))=>false) q->(([]++List.map (fun(e:Int×Unit)=>e.1) q).length+[x.1].length)*8<=140737488355328/\false=false/\(([]++List.map (fun(f:Int×Unit)=>f.1) q++[x.1],()),())=(([]++List.map (fun(g:Int×Unit)=>g.1) (q++[x]),()),()))/\(∀(xs:List (Int×Unit)),xs=List.map (fun(z6:Int)=>(z6,())) d.2.1->we (fun(z7:List (Int×Unit))=>false) xs->∃(k:Unit),[]++List.map (fun(z8:Int×Unit)=>z8.1) xs=d.2.1)/\∀(q:List (Int×Unit)) (x:Int×Unit) (rest:List (Int×Unit)),q++x::rest=List.map (fun(h:Int)=>(h,())) d.2.1->we (fun(c:List (Int×Unit))=>false) q->false=true->∃(k:Unit),[]=d.2.1
theorem jbk:(jx9 (ctx 13 [] []) (fun _=>none) (hkC (ctx 13 [] []) (fun _=>none) wT [] []) Tryz.f122 (zM Tryz.f122) kc jez)=vV:=by kernel_rfl
def jhe (d:OD kB.ps):List SV:=[.clo 101 [.ep (.slice .int) d.1]]
def gu:Prop:=∀(d:List Int×Unit),d.1.length<=12/\True->(d.1.length<=12/\True)/\∀(r:(List Int×Unit)×Unit),r.1.1=d.1->∃(k:Unit),r.1.1=d.1
theorem jc0:(jx9 (ctx 5 [] []) (fun _=>none) (hkC (ctx 5 [] []) (fun _=>none) jDt [4] [(122,20,kc)]) Tryz.f99 (zM Tryz.f99) kB jhe)=gu:=by kernel_rfl
def jdf (d:OD zT.ps):List SV:=[.clo 101 [.ep (.slice .int) d.1],.fn [.int,.int] [.int] d.2.1.pre d.2.1.F]
def vA:Prop:=∀(d:List Int×FnD [Ty.int,Ty.int] [Ty.int]×Unit),d.1.length<=12/\U.jba d.2.1.1 d.1/\kK (U.vL d.2.1.2) d.1/\True->(d.1.length<=12/\True)/\∀(r:(List Int×Unit)×Unit),r.1.1=d.1->r.1.1.length<=12/\U.jba d.2.1.1 r.1.1/\kK (U.vL d.2.1.2) r.1.1/\∃(k:Unit),U.jd (U.vL d.2.1.2) r.1.1=U.jd (U.vL d.2.1.2) d.1
theorem jar:(jx9 (ctx 12 [] [(100,zK)]) (fun _=>none) (hkC (ctx 12 [] [(100,zK)]) (fun _=>none) jDt [7] [(99,20,kB)]) Tryz.f69 (zM Tryz.f69) zT jdf)=vA:=by kernel_rfl
end Go.X
namespace Go.X
open Go.Proofs
theorem jw6 {γ:Bool} {l:List Prop} {k:Prop} (h:γ=true->U.jD l) (hk:k):jAh γ l k:=by
 induction l with
 |nil=>exact hk
 |cons p l b=>exact⟨fun a=>(h a).1,b (fun a=>(h a).2)⟩
theorem jGK:∀n:Nat,n<13->qp U.len8tab n=U.jex (n:Int):=by decide+kernel
theorem jEB (n:Int):0<=U.jex n/\U.jex n<=4:=by
 unfold U.jex
 split
 .omega
 split
 .omega
 split
 .omega
 split<;>omega
theorem jqE:jm2:=by
 unfold jm2 q74_4 q74_3 q74_2 q74_1 q74_0;rintro⟨n,⟨⟩⟩ ⟨a,b⟩;have a:0<=n:=a;have b:n<=12:=b;refine⟨fun h=>absurd (of_decide_eq_true h) (by simp only;omega),fun _=>⟨fun h=>absurd (of_decide_eq_true h) (by simp only;omega),fun _=>⟨fun h=>absurd (of_decide_eq_true h) (by simp only;omega),fun _=> ?_⟩⟩⟩;have c:=jGK n.toNat (by omega);rw[Int.toNat_of_nonneg a] at c;have d:=jEB n;simp only;rw[c];refine⟨by omega,by omega,by omega,?_,by unfold jw;omega,by unfold jw;omega,by rw[Int.zero_add]⟩;have:U.len8tab.size=256:=(by decide+kernel);omega
theorem jnQ:zk PR 153 jng:=jU jqE Tryz.func153 kcN koN
theorem jwn:jrO:=by
 rintro⟨n,⟨⟩⟩ h;exact⟨fun e=>(by cases e),fun _=>⟨h,rfl⟩⟩
theorem jsO:zk PR 118 jse:=jU jwn Tryz.func118 (kcC jnQ kcN) koN
theorem vu:qT:=by
 unfold qT q76_1 q76_0;rintro⟨l,a,b,⟨pre,c⟩,⟨⟩⟩ x y;obtain⟨z,n,E⟩:a=0/\b=(l.length:Int)/\l.length<=12:=x;have s:U.jba pre l:=y;subst z n;simp only;refine⟨by unfold jw;omega,⟨1,⟨⟨rfl,trivial⟩,rfl,trivial⟩,jGY _,by omega⟩,fun i hi=>⟨fun h=> ?_,fun h=> ?_⟩⟩
 .have h:i<l.length:=(by have:=of_decide_eq_true h;omega);have u:=IS.part_perm (lt:=U.vL c) (l:=l) i (by omega);refine⟨⟨(i,U.y4 (U.vL c) l i),⟨⟨rfl,trivial⟩,rfl,trivial⟩,jHV _,List.Perm.refl _,rfl⟩,?_⟩;rintro⟨j,m⟩ ⟨v,o,p⟩;have v:(j:Int)<=i:=v;have o:m.Perm (U.y4 (U.vL c) l i):=o;have p:U.jc7 (U.vL c) m j=U.jc7 (U.vL c) (U.y4 (U.vL c) l i) i:=p;have C:m.length=l.length:=(o.trans u).length_eq;have g:∀{k:Nat},k<m.length->nth m k∈l:=fun hk=>(o.trans u).mem_iff.1 (L.mem_nth hk)
  simp only[jG1];refine⟨fun _=>by omega,fun f=>by have:=of_decide_eq_true f;omega,fun f=>by have:=of_decide_eq_true f;unfold jw;omega,fun f=>by have:=of_decide_eq_true f;omega,fun f=>by have:=of_decide_eq_true f;omega,jw6 (fun f=> ?_) ⟨fun n=> ?_,fun n=> ?_⟩⟩
  .have f:=of_decide_eq_true f;exact s _ (g (by omega)) _ (g (by omega))
  .simp only[jGW,decide_eq_true_eq] at n;obtain⟨D,q⟩:=n;obtain⟨d,rfl⟩:∃d,j=d+1:=⟨j-1,by omega⟩;have r:((d+1:Nat):Int)-1=(d:Int):=(by omega);rw[r] at q⊢;simp only[jG1] at q⊢;have t:=IS.swap_perm (l:=m) (j:=d+1) (k:=d) (by omega) (by omega);have e:jw (d:Int):=(by unfold jw;omega);refine⟨e,e,by omega,by omega,by omega,by omega,by omega,by omega,by omega,by simp;omega,e,⟨(d,U.jvm m (d+1) d),⟨⟨rfl,trivial⟩,rfl,trivial⟩,⟨by simp only;omega,t.trans o,?_⟩,by simp⟩⟩;rw[<-p];show _=(if U.vL c (nth m (d+1)) (nth m d)=true then U.jc7 (U.vL c) (U.jvm m (d+1) d) d else m);have w:U.vL c (nth m (d+1)) (nth m d)=true:=decide_eq_true q;rw[if_pos w]
  .have B:m=U.y4 (U.vL c) l (i+1):=by
    rw[IS.part_succ,<-p];cases j with
    |zero=>rfl
    |succ d=>
     unfold U.jc7;rw[if_neg];intro A;refine absurd n (by
      rw[Bool.and_eq_false_iff];rintro(h|h)
      .exact absurd (of_decide_eq_false h) (by simp)
      .refine of_decide_eq_false h ?_;have r:((d+1:Nat):Int)-1=(d:Int):=(by omega);rw[r];exact of_decide_eq_true A)
   exact⟨by unfold jw;omega,i+1,⟨⟨by simp,trivial⟩,B,trivial⟩,by omega,by omega⟩
 .have h:l.length<=i:=(by have:=of_decide_eq_false h;omega);exact⟨trivial,by rw[IS.part_isort hi.1 hi.2 h]⟩
theorem q8:qv PR 163 qW:=jjX vj vu Tryz.func163 kcN koN
theorem jaN:gm:=by
 rintro⟨l,a,b,lim,⟨pre,c⟩,⟨⟩⟩ e d;obtain⟨f,g,i⟩:a=0/\b=(l.length:Int)/\l.length<=12:=e;subst f g;refine⟨by unfold jw;simp only;omega,fun _=>⟨⟨rfl,rfl,by simp only;omega⟩,d,rfl,rfl⟩,fun h=>absurd (of_decide_eq_false h) (by simp only;omega)⟩
theorem gI:qv PR 123 gA:=jjX jah jaN Tryz.func123 kcN (koC q8 koN)
theorem jgX:jeN:=by
 rintro⟨l,⟨pre,c⟩,⟨⟩⟩ a b d _;have a:l.length<=12:=a;exact⟨by simp only;omega,by simp only;omega,⟨by simp only;omega,by simp only;omega⟩,⟨rfl,rfl,a⟩,b,rfl,congrArg (·,()) (IS.isort_sort d)⟩
theorem jfn:qv PR 100 zK:=jmi jgX Tryz.func100 (kcC jsO kcN) (koC gI koN)
theorem jCq {l:List Int} {i:Nat} (h:i<l.length):asI (l.take (i+1))=asI (l.take i)++[(nth l i,())]:=by
 unfold asI;rw[L.take_succ h,jHH];rfl
theorem jgW:yD:=by
 unfold yD q79_0;rintro⟨l,⟨⟩⟩ y b;have b:l.length<4611686018427387904:=b;refine⟨⟨0,⟨⟨rfl,trivial⟩,trivial⟩,rfl,jG7 _⟩,fun x c=>⟨fun h=> ?_,fun h _=> ?_⟩⟩
 .have h:(x:Int)<(l.length:Int):=of_decide_eq_true h;have a:x<l.length:=(by omega);have e:=jCq a;unfold asI at e;simp only[jG1];refine⟨by omega,h,trivial,⟨asI (l.drop (x+1)),?_⟩,⟨fun h=>(by cases h),fun _=>⟨L.in64 (by omega) (by omega),x+1,⟨⟨by simp,trivial⟩,trivial⟩,?_,by show x+1<=l.length;omega,by show l.length-(x+1)<l.length-x;omega⟩⟩,fun _ h=>(by cases h),fun h=>(by cases h)⟩
  .rw[<-e];unfold asI;rw[<-jHH,jIi]
  .rw[e]
 .have h:¬(x:Int)<(l.length:Int):=of_decide_eq_false h;have c:x<=l.length:=c;rw[jHA (by show l.length<=x;omega)]
theorem jvD {H:Imm} {lb:Array Value} {d:PD [.ref (.slice .int)]} (e:pvs PR H [.ref (.slice .int)] lb.toList d):jCv PR H [.int] (LVi d) (.func (.func 101) #[] lb):=
 jCK (C:=ctx 16 [] []) (jkM trivial trivial) mixed Tryz.func101 (by kernel_rfl) (by kernel_rfl) (by kernel_rfl) (by kernel_rfl) (by decide) (jbz.mpr jgW) (fun d l B0 R f a b c=>jFi a c) e trivial
theorem jkl:ja1:=by intro d;rfl
theorem jh6:jro PR 70 zO:=jFk (jdE.mpr jkl) Tryz.func70 (by kernel_rfl) (by kernel_rfl) (by kernel_rfl) (by kernel_rfl) trivial trivial
theorem jEG (l:List Int):(asI l).map (fun(x:Int×Unit)=>x.1)=l:=by
 unfold asI;rw[List.map_map];exact List.map_id l
theorem jfO:vV:=by
 intro d ⟨a,_⟩;refine⟨trivial,trivial,rfl,fun q x rest h _=>⟨?_,rfl,?_⟩,fun xs h _=>⟨(),?_⟩,fun _ _ _ _ _ h=>(by cases h)⟩
 .have b:=congrArg List.length h;simp only[jHX,jHk,jHy] at b;have a:d.2.1.length<=12:=a;simp only[jHr,jHX,jHy,jHM];omega
 .simp
 .rw[h,jHr];exact jEG d.2.1
theorem jif:gu:=fun d a=>⟨a,fun r h=>⟨(),h⟩⟩
theorem jeh:vA:=fun d ⟨a,b,c,_⟩=>⟨⟨a,trivial⟩,fun r h=>by rw[h];exact⟨a,b,c,(),rfl⟩⟩
theorem juJ {P:Program} {ρ:Env} {H:Imm} (b:ρ.H=H) {g:Nat} {t:Ty} {d:t.Data} {lb:Array Value} {w:World} {bs:List Nat} (a:jak P H w [.ref t] lb.toList (d,()) bs):SV.den P ρ (.clo g [.ep t d]) (.func (.func g) #[] lb):=by
 subst b
 match e:lb.toList,a with
 |[],a=>exact a.elim
 |[x],⟨_,_,_,⟨c,_⟩,_⟩=>
  simp only[SV.den,SV.denL];exact⟨lb,rfl,x,[],e,c,rfl⟩
 |x::y::r,⟨_,_,_,_,h2⟩=>cases h2.1
theorem jsC {lb:Array Value} (h:lb.size=1):∃x,lb.toList=[x]:=by
 have a:lb.toList.length=1:=(by rw[jHx];exact h);exact List.length_eq_one_iff.1 a
theorem jyy {g n:Nat} {s:jeE} (h:ROK PR g s):∀(f:Nat) (p:Nat×jeE),jy [(g,n,s)] f=some p->ROK PR f p.2:=by
 intro f p a;simp only[jy] at a
 split at a
 .rename_i b;have:=jGT b;subst this;simp at a;subst a;exact h
 .cases a
theorem jCk (n:Nat):(ctx n [] []).ok PR:=jkM trivial trivial
theorem jc9:ROK PR 122 kc:=by
 refine jx8 (body:=zM Tryz.f122) (C:=ctx 13 [] []) (hk:=hkC (ctx 13 [] []) (fun _=>none) wT [] []) (jCk 13) mixed Tryz.func122 (by kernel_rfl) (by kernel_rfl) (by kernel_rfl) (fun B=>jmw (jCk 13) mixed ?_ jDX B) rfl (fun H w vals fl d bs c b ρ f=> ?_) (fun d=>rfl) (jbk.mpr jfO)
 .intro k t rs sv A L v ρ hk a p g;unfold wT at hk
  split at hk
  case h_2=>cases hk
  simp only[Option.some.injEq] at hk;cases hk;simp only[v8] at a
  split at a
  case h_2=>cases a
  rename_i t m
  split at a
  case h_2=>cases a
  rename_i z o;simp only[Option.some.injEq,Prod.mk.injEq] at a;obtain⟨rfl,rfl⟩:=a;obtain⟨e,rfl⟩:=jk o;subst e;simp only[SV.den,SV.denL] at g;obtain⟨lb,rfl,x,r,n,j,l⟩:=g;exact jvD (d:=(m,())) (by rw[n,l];exact⟨j,rfl⟩)
 .obtain⟨v,q,h,rfl,rfl,lb,s,i,rfl,rfl,_,rfl,rfl⟩:=c;obtain⟨u,y,_,⟨rfl,_⟩,b⟩:=b;rw[jHq] at b;refine⟨_,_,rfl,rfl,_,_,rfl,juJ f b,rfl⟩
theorem jfc:ROK PR 99 kB:=by
 refine jx8 (body:=zM Tryz.f99) (C:=ctx 5 [] []) (hk:=hkC (ctx 5 [] []) (fun _=>none) jDt [4] [(122,20,kc)]) (jCk 5) mixed Tryz.func99 (by kernel_rfl) (by kernel_rfl) (by kernel_rfl) (fun B=>jmw (jCk 5) mixed jrU (jyy jc9) B) rfl (fun H w vals fl d bs a c ρ b=> ?_) (fun d=>rfl) (jc0.mpr jif);obtain⟨lb,f,e,rfl,rfl,_,rfl,rfl⟩:=a;rw[jHq] at c;exact⟨_,_,rfl,juJ b c,rfl⟩
theorem jmE:(ctx 12 [] [(100,zK)]).ok PR:=jkM trivial ⟨jfn,trivial⟩
theorem jbQ:ROK PR 69 zT:=by
 refine jx8 (body:=zM Tryz.f69) (C:=ctx 12 [] [(100,zK)]) (hk:=hkC (ctx 12 [] [(100,zK)]) (fun _=>none) jDt [7] [(99,20,kB)]) jmE mixed Tryz.func69 (by kernel_rfl) (by kernel_rfl) (by kernel_rfl)
  (fun B=>jmw jmE mixed jrU (jyy jfc) B) rfl (fun H w vals fl d bs a e ρ c=> ?_) (fun d=>rfl) (jar.mpr jeh)
 obtain⟨lb,k,g,rfl,rfl,b,v,l,h,rfl,rfl,rfl,rfl⟩:=a;obtain⟨x,f⟩:=jsC b;rw[f] at e;obtain⟨m,n,_,⟨i,_⟩,c1,c2,_,⟨j,_⟩,_⟩:=e;subst c;refine⟨_,_,rfl,⟨lb,rfl,x,[],f,i,rfl⟩,_,_,rfl,j,rfl⟩
end Go.X
namespace Go.X
open Go.Proofs
abbrev tRo:Ty:= .st [tDy,.slice .int,.slice (.slice .int),.slice .int]
abbrev RoD:Type:=DyD×List Int×List (List Int)×List Int×Unit
namespace U
def ro (o:Option RoD):RoD:=j7 (Ty.dflt tRo) o
def rd (r:RoD):DyD:=r.1
def qG (r:RoD):List Int:=r.2.1
def wa (r:RoD):List (List Int):=r.2.2.1
def jF3 (r:RoD):List Int:=r.2.2.2.1
def wJ (d:DyD) (b:Int):Prop:=0<=b/\b<((jm d).length:Int)
def jib (d:DyD) (l:List Int):Prop:=l.length<=12/\∀b∈l,wJ d b
def vK (d:DyD):Prop:=jj (jc d)=true/\jv8 d=true/\zA d=true
def jqg (r:RoD):Prop:=vK (rd r)/\(qG r).length=(jm (rd r)).length
def joN (d:DyD) (p:Int):Prop:=0<=p/\p<((je (jc d)).length:Int)
def jf5 (d:DyD) (a b:Int):Int:=wE [jae (jag (bk d a)) (jag (bk d b)),jae a b]
def jp (d:DyD) (l:List Int):List Int:=jd (w9 d) l
def ke (d:DyD) (s:List Int) (n:Nat):Int:=jfy d (s.take n)
def jnR (d:DyD) (yr:List Int) (p:Int) (s:List Int) (i:Nat):Bool:= !(decide (qO (nth yr (nth s i).toNat/2^p.toNat) 1=0)||(s.drop (i+1)).any (fun c=>decide (qV d (nth s i) c<0)))
def jEx (d:DyD) (yr:List Int) (p:Int) (s:List Int):Bool:=(List.range s.length).all (jnR d yr p s)&&decide (jfy d s<=jrs d)
def jin (d:DyD) (yr:List Int) (p:Int) (l:List Int):Bool:=jEx d yr p (jp d l)
def jaf (r:RoD) (p:Int) (l:List Int):Bool:=jin (rd r) (qG r) p l
def qB (on:List (List Int)) (b:Int) (n:Nat):Int:=(List.range n).foldl (fun s p=>if(nth on p).any (fun x=>decide (x=b))=true then bor s (1*2^p) else s) 0
def yV (on:List (List Int)) (b:Int):Int:=qB on b on.length
def jdr (d:DyD) (b t:Int):Bool:=(decide (qU (jc d) (vJ (bk d b)) t=0)&&decide (jEZ (jc d) (vJ (bk d b)) t=0))&&decide (t≠0)
def vG (l:List PeD) (t:Int) (n:Nat):Int:=(List.range n).foldl (fun s i=>s+qO (t/2^i) 1*fe (nth l i)) 0
def wP (d:DyD) (t:Int):Int:=vG (je (jc d)) t (je (jc d)).length
end U
def jgt:jT:=⟨[.val (.ptr tRo),.val .int,.val .int],[.int],false,fun d=>[d.1.isSome=true,U.vK (U.rd (U.ro d.1)),U.wJ (U.rd (U.ro d.1)) d.2.1,U.wJ (U.rd (U.ro d.1)) d.2.2.1],fun d=>(U.qV (U.rd (U.ro d.1)) d.2.1 d.2.2.1,())⟩
abbrev q84_0 (d:Option RoD×Int×Int×Unit):=(j7 ((((0:Int),[],[],()),[],[],(0:Int),(0:Int),[],()),[],[],[],()) d.1)
abbrev q84_1 (d:Option RoD×Int×Int×Unit):=(nth (q84_0 d).1.2.2.1 d.2.1.toNat)
abbrev q84_2 (d:Option RoD×Int×Int×Unit):=(nth (q84_0 d).1.2.2.1 d.2.2.1.toNat)
def jgo:Prop:=∀(d:Option RoD×Int×Int×Unit),d.1.isSome=true->U.vK (U.rd (U.ro d.1))->U.wJ (U.rd (U.ro d.1)) d.2.1->U.wJ (U.rd (U.ro d.1)) d.2.2.1->d.1.isSome=true/\0<=d.2.1/\d.2.1<(↑(q84_0 d).1.2.2.1.length:Int)/\d.1.isSome=true/\0<=d.2.2.1/\d.2.2.1<(↑(q84_0 d).1.2.2.1.length:Int)/\jw ((q84_2 d).2.2.1-(q84_1 d).2.2.2.1)/\d.1.isSome=true/\jw ((q84_2 d).2.2.1-(q84_1 d).2.2.2.1-(q84_0 d).1.2.2.2.1)/\d.1.isSome=true/\(0:Int)<=(q84_1 d).2.1/\(q84_1 d).2.1<(↑(q84_0 d).1.2.1.length:Int)/\(0:Int)<=(q84_2 d).2.1/\(q84_2 d).2.1<(↑(nth (q84_0 d).1.2.1 (q84_1 d).2.1.toNat).length:Int)/\jw ((q84_2 d).2.2.1-(q84_1 d).2.2.2.1-(q84_0 d).1.2.2.2.1-(nth (nth (q84_0 d).1.2.1 (q84_1 d).2.1.toNat) (q84_2 d).2.1.toNat).2.1)/\((q84_2 d).2.2.1-(q84_1 d).2.2.2.1-(q84_0 d).1.2.2.2.1-(nth (nth (q84_0 d).1.2.1 (q84_1 d).2.1.toNat) (q84_2 d).2.1.toNat).2.1,())=(U.qV (U.rd (U.ro d.1)) d.2.1 d.2.2.1,())
def zv:jT:=⟨[.val .int,.val .int,.ref (.ptr tRo)],[.int],false,fun d=>[d.2.2.1.isSome=true,U.wJ (U.rd (U.ro d.2.2.1)) d.1,U.wJ (U.rd (U.ro d.2.2.1)) d.2.1],fun d=>(U.jf5 (U.rd (U.ro d.2.2.1)) d.1 d.2.1,())⟩
abbrev q85_0 (d:Int×Int×Option RoD×Unit):=(j7 ((((0:Int),[],[],()),[],[],(0:Int),(0:Int),[],()),[],[],[],()) d.2.2.1)
def jc1:Prop:=∀(d:Int×Int×Option RoD×Unit),d.2.2.1.isSome=true->U.wJ (U.rd (U.ro d.2.2.1)) d.1->U.wJ (U.rd (U.ro d.2.2.1)) d.2.1->d.2.2.1.isSome=true/\0<=d.1/\d.1<(↑(q85_0 d).1.2.2.1.length:Int)/\d.2.2.1.isSome=true/\0<=d.2.1/\d.2.1<(↑(q85_0 d).1.2.2.1.length:Int)/\(U.wE [U.jae (nth (q85_0 d).1.2.2.1 d.1.toNat).2.2.1 (nth (q85_0 d).1.2.2.1 d.2.1.toNat).2.2.1,U.jae d.1 d.2.1],())=(U.jf5 (U.rd (U.ro d.2.2.1)) d.1 d.2.1,())
def yH:jT:=⟨[.val (.ptr tRo),.val (.slice .int)],[.slice .int],false,fun d=>[d.1.isSome=true,U.jib (U.rd (U.ro d.1)) d.2.1],fun d=>(U.jp (U.rd (U.ro d.1)) d.2.1,())⟩
def yE:Prop:=∀(d:Option RoD×List Int×Unit),d.1.isSome=true->U.jib (U.rd (U.ro d.1)) d.2.1->(d.2.1.length<=12/\U.jba (fun(a:Int×Int×Unit)=>[d.1.isSome=true,U.wJ (U.rd (U.ro d.1)) a.1,U.wJ (U.rd (U.ro d.1)) a.2.1]) d.2.1/\kK (U.vL fun(b:Int×Int×Unit)=>(U.jf5 (U.rd (U.ro d.1)) b.1 b.2.1,())) d.2.1/\True)/\∀(r:(List Int×Unit)×Unit),r.1.1=U.jd (U.vL fun(c:Int×Int×Unit)=>(U.jf5 (U.rd (U.ro d.1)) c.1 c.2.1,())) d.2.1->r.1=(U.jp (U.rd (U.ro d.1)) d.2.1,())
theorem jbC:(jDE (jrw 9 [(71,zv)] [] [(70,zO)] []) (fun _=>none) (hkC (jrw 9 [(71,zv)] [] [(70,zO)] []) (fun _=>none) jDt [8] [(69,20,zT)]) Tryz.f38 (zM Tryz.f38) yH)=yE:=by kernel_rfl
def jgu:jT:=⟨[.val .int,.ref (.ptr tRo),.ref .int],[.bool],false,fun d=>[d.2.1.isSome=true,U.vK (U.rd (U.ro d.2.1)),U.wJ (U.rd (U.ro d.2.1)) d.1,U.wJ (U.rd (U.ro d.2.1)) d.2.2.1],fun d=>(decide (U.qV (U.rd (U.ro d.2.1)) d.2.2.1 d.1<0),())⟩
def jgp:Prop:=∀(d:Int×Option RoD×Int×Unit),d.2.1.isSome=true->U.vK (U.rd (U.ro d.2.1))->U.wJ (U.rd (U.ro d.2.1)) d.1->U.wJ (U.rd (U.ro d.2.1)) d.2.2.1->d.2.1.isSome=true/\U.vK (U.rd (U.ro d.2.1))/\U.wJ (U.rd (U.ro d.2.1)) d.2.2.1/\U.wJ (U.rd (U.ro d.2.1)) d.1/\(decide (U.qV (U.rd (U.ro d.2.1)) d.2.2.1 d.1<0),())=(decide (U.qV (U.rd (U.ro d.2.1)) d.2.2.1 d.1<0),())
def jbL:jT:=⟨[.val (.ptr tRo),.val .int,.val (.slice .int)],[.bool],false,fun d=>[d.1.isSome=true,U.jqg (U.ro d.1),U.joN (U.rd (U.ro d.1)) d.2.1,U.jib (U.rd (U.ro d.1)) d.2.2.1],fun d=>(U.jaf (U.ro d.1) d.2.1 d.2.2.1,())⟩
def jk3:Ann:=fun r=>match r with
 |4=>some fun σ=>{X:=Nat,sl:=fun i=>[(16,.dat .int (i:Int)),(7,.dat .int (U.ke (U.rd (U.ro (gd (.ptr tRo) σ 0))) (gd (.slice .int) σ 14) i))],ob:=fun _=>[],inv:=fun i=>i<=(gd (.slice .int) σ 14).length/\∀b:Nat,b<i->U.jnR (U.rd (U.ro (gd (.ptr tRo) σ 0))) (U.qG (U.ro (gd (.ptr tRo) σ 0))) (gd .int σ 1) (gd (.slice .int) σ 14) b=true,mu:=fun i=>(gd (.slice .int) σ 14).length-i}
 |_=>none
abbrev q88_0 (d:Option RoD×Int×List Int×Unit):=(j7 ((((0:Int),[],[],()),[],[],(0:Int),(0:Int),[],()),[],[],[],()) d.1)
abbrev q88_5 (d:Option RoD×Int×List Int×Unit):=(U.rd (U.ro d.1))
abbrev q88_1 (d:Option RoD×Int×List Int×Unit):=(U.jp (q88_5 d) d.2.2.1)
abbrev q88_4 (d:Option RoD×Int×List Int×Unit):=(↑(q88_1 d).length:Int)
abbrev q88_6 (d:Option RoD×Int×List Int×Unit)(x:Nat):=(nth (q88_1 d) (x:Int).toNat)
abbrev q88_2 (d:Option RoD×Int×List Int×Unit)(x:Nat):=(qO (nth (q88_0 d).2.1 (q88_6 d x).toNat/(2:Int)^d.2.1.toNat) (1:Int)=0)
abbrev q88_3 (d:Option RoD×Int×List Int×Unit)(x:Nat):=((nth (q88_0 d).1.2.2.1 (q88_6 d x).toNat).2.2.2.1-(nth (q88_0 d).1.2.2.1 (q88_6 d x).toNat).2.2.1)
abbrev q88_7 (d:Option RoD×Int×List Int×Unit)(x:Nat):=(List.take ((q88_4 d).toNat-((x:Int)+1).toNat) (List.drop ((x:Int)+1).toNat (q88_1 d)))
def jiW:Prop:=∀(d:Option RoD×Int×List Int×Unit),d.1.isSome=true->U.jqg (U.ro d.1)->U.joN (q88_5 d) d.2.1->U.jib (q88_5 d) d.2.2.1->d.1.isSome=true/\U.jib (q88_5 d) d.2.2.1/\((q88_1 d).length<4611686018427387904->(∃(x:Nat),((0=(x:Int)/\0=U.ke (q88_5 d) (q88_1 d) x/\True)/\True)/\x<=(q88_1 d).length/\∀(b:Nat),b<x->U.jnR (q88_5 d) (U.qG (U.ro d.1)) d.2.1 (q88_1 d) b=true)/\∀(x:Nat),(x<=(q88_1 d).length/\∀(b:Nat),b<x->U.jnR (q88_5 d) (U.qG (U.ro d.1)) d.2.1 (q88_1 d) b=true)->(decide ((x:Int)<(q88_4 d))=true->0<=(x:Int)/\(x:Int)<(q88_4 d)/\d.1.isSome=true/\0<=nth (q88_1 d) (x:Int).toNat/\nth (q88_1 d) (x:Int).toNat<(↑(q88_0 d).1.2.2.1.length:Int)/\d.1.isSome=true/\0<=nth (q88_1 d) (x:Int).toNat/\nth (q88_1 d) (x:Int).toNat<(↑(q88_0 d).1.2.2.1.length:Int)/\jw (q88_3 d x)/\jw (U.ke (q88_5 d) (q88_1 d) x+(q88_3 d x))/\d.1.isSome=true/\0<=nth (q88_1 d) (x:Int).toNat/\nth (q88_1 d) (x:Int).toNat<(↑(q88_0 d).2.1.length:Int)/\0<=d.2.1/\d.2.1<=64/\((!decide (q88_2 d x))=true->jw ((x:Int)+1))/\((!decide (q88_2 d x))=true->0<=(x:Int)+1)/\((!decide (q88_2 d x))=true->(x:Int)+1<=(q88_4 d))/\((!decide (q88_2 d x))=true->(q88_4 d)<=(q88_4 d))/\((!decide (q88_2 d x))=true->∀(g:Int),g∈List.take ((q88_4 d).toNat-((x:Int)+1).toNat) (List.drop ((x:Int)+1).toNat (q88_1 d))->U.jD [d.1.isSome=true,U.vK (q88_5 d),U.wJ (q88_5 d) g,U.wJ (q88_5 d) (q88_6 d x)])/\((decide (q88_2 d x)||(q88_7 d x).any (U.jb fun(c:Int×Unit)=>(decide (U.qV (q88_5 d) (q88_6 d x) c.1<0),())))=true->(false,())=(U.jaf (U.ro d.1) d.2.1 d.2.2.1,()))/\((decide (q88_2 d x)||(q88_7 d x).any (U.jb fun(e:Int×Unit)=>(decide (U.qV (q88_5 d) (q88_6 d x) e.1<0),())))=false->jw ((x:Int)+1)/\∃(a:Nat),(((x:Int)+1=(a:Int)/\U.ke (q88_5 d) (q88_1 d) x+(q88_3 d x)=U.ke (q88_5 d) (q88_1 d) a/\True)/\True)/\(a<=(q88_1 d).length/\∀(b:Nat),b<a->U.jnR (q88_5 d) (U.qG (U.ro d.1)) d.2.1 (q88_1 d) b=true)/\(q88_1 d).length-a<(q88_1 d).length-x))/\(decide ((x:Int)<(q88_4 d))=false->d.1.isSome=true/\(decide (U.ke (q88_5 d) (q88_1 d) x<=(q88_0 d).1.2.2.2.2.1),())=(U.jaf (U.ro d.1) d.2.1 d.2.2.1,())))
def jhV:jT:=⟨[.val (.ptr tRo),.val .int],[.int],false,fun d=>[d.1.isSome=true,(U.wa (U.ro d.1)).length<=60],fun d=>(U.yV (U.wa (U.ro d.1)) d.2.1,())⟩
def jir:Ann:=fun r=>match r with
 |2=>some fun σ=>{X:=Nat,sl:=fun i=>[(12,.dat .int (i:Int)),(4,.dat .int (U.qB (U.wa (U.ro (gd (.ptr tRo) σ 0))) (gd .int σ 1) i))],ob:=fun _=>[],inv:=fun i=>i<=(U.wa (U.ro (gd (.ptr tRo) σ 0))).length,mu:=fun i=>(U.wa (U.ro (gd (.ptr tRo) σ 0))).length-i}
 |_=>none
abbrev q89_0 (d:Option RoD×Int×Unit):=(j7 ((((0:Int),[],[],()),[],[],(0:Int),(0:Int),[],()),[],[],[],()) d.1)
abbrev q89_1 (d:Option RoD×Int×Unit):=(U.wa (U.ro d.1))
def jhN:Prop:=∀(d:Option RoD×Int×Unit),d.1.isSome=true->(q89_1 d).length<=60->d.1.isSome=true/\((q89_0 d).2.2.1.length<4611686018427387904->(∃(x:Nat),((0=(x:Int)/\0=U.qB (q89_1 d) d.2.1 x/\True)/\True)/\x<=(q89_1 d).length)/\∀(x:Nat),x<=(q89_1 d).length->(decide ((x:Int)<(↑(q89_0 d).2.2.1.length:Int))=true->0<=(x:Int)/\(x:Int)<(↑(q89_0 d).2.2.1.length:Int)/\(((nth (q89_0 d).2.2.1 (x:Int).toNat).any fun(b:Int)=>decide (b=d.2.1))=true->0<=(x:Int)/\(x:Int)<=64/\jw ((1:Int)*2^(x:Int).toNat)/\jw ((x:Int)+1)/\∃(a:Nat),(((x:Int)+1=(a:Int)/\bor (U.qB (q89_1 d) d.2.1 x) ((1:Int)*2^(x:Int).toNat)=U.qB (q89_1 d) d.2.1 a/\True)/\True)/\a<=(q89_1 d).length/\(q89_1 d).length-a<(q89_1 d).length-x)/\(((nth (q89_0 d).2.2.1 (x:Int).toNat).any fun(c:Int)=>decide (c=d.2.1))=false->jw ((x:Int)+1)/\∃(a:Nat),((U.qB (q89_1 d) d.2.1 x=U.qB (q89_1 d) d.2.1 a/\(x:Int)+1=(a:Int)/\True)/\True)/\a<=(q89_1 d).length/\(q89_1 d).length-a<(q89_1 d).length-x))/\(decide ((x:Int)<(↑(q89_0 d).2.2.1.length:Int))=false->(U.qB (q89_1 d) d.2.1 x,())=(U.yV (q89_1 d) d.2.1,())))
def jhW:jT:=⟨[.val (.ptr tRo),.val .int,.val .int],[.bool],false,fun d=>[d.1.isSome=true,U.wJ (U.rd (U.ro d.1)) d.2.1],fun d=>(U.jdr (U.rd (U.ro d.1)) d.2.1 d.2.2.1,())⟩
abbrev q90_0 (d:Option RoD×Int×Int×Unit):=(j7 ((((0:Int),[],[],()),[],[],(0:Int),(0:Int),[],()),[],[],[],()) d.1)
def jhO:Prop:=∀(d:Option RoD×Int×Int×Unit),d.1.isSome=true->U.wJ (U.rd (U.ro d.1)) d.2.1->d.1.isSome=true/\d.1.isSome=true/\0<=d.2.1/\d.2.1<(↑(q90_0 d).1.2.2.1.length:Int)/\(decide (U.qU (q90_0 d).1.1 (nth (q90_0 d).1.2.2.1 d.2.1.toNat).1 d.2.2.1=0)&&decide (U.jEZ (q90_0 d).1.1 (nth (q90_0 d).1.2.2.1 d.2.1.toNat).1 d.2.2.1=0)&&decide (d.2.2.1≠0),())=(U.jdr (U.rd (U.ro d.1)) d.2.1 d.2.2.1,())
def jbK:jT:=⟨[.val (.ptr tRo),.val .int],[.int],false,fun d=>[d.1.isSome=true,U.jj (U.jc (U.rd (U.ro d.1)))=true,0<=d.2.1,d.2.1<=1000000],fun d=>(U.wP (U.rd (U.ro d.1)) d.2.1,())⟩
def jk2:Ann:=fun r=>match r with
 |2=>some fun σ=>{X:=Nat,sl:=fun i=>[(14,.dat .int (i:Int)),(4,.dat .int (U.vG (U.je (U.jc (U.rd (U.ro (gd (.ptr tRo) σ 0))))) (gd .int σ 1) i))],ob:=fun _=>[],inv:=fun i=>i<=(U.je (U.jc (U.rd (U.ro (gd (.ptr tRo) σ 0))))).length,mu:=fun i=>(U.je (U.jc (U.rd (U.ro (gd (.ptr tRo) σ 0))))).length-i}
 |_=>none
abbrev q91_0 (d:Option RoD×Int×Unit):=(j7 ((((0:Int),[],[],()),[],[],(0:Int),(0:Int),[],()),[],[],[],()) d.1)
abbrev q91_1 (d:Option RoD×Int×Unit):=(U.je (U.jc (U.rd (U.ro d.1))))
def jiV:Prop:=∀(d:Option RoD×Int×Unit),d.1.isSome=true->U.jj (U.jc (U.rd (U.ro d.1)))=true->0<=d.2.1->d.2.1<=1000000->d.1.isSome=true/\((q91_0 d).1.1.2.1.length<4611686018427387904->(∃(x:Nat),((0=(x:Int)/\0=U.vG (q91_1 d) d.2.1 x/\True)/\True)/\x<=(q91_1 d).length)/\∀(x:Nat),x<=(q91_1 d).length->(decide ((x:Int)<(↑(q91_0 d).1.1.2.1.length:Int))=true->0<=(x:Int)/\(x:Int)<(↑(q91_0 d).1.1.2.1.length:Int)/\0<=(x:Int)/\(x:Int)<=64/\jw (qO (d.2.1/(2:Int)^(x:Int).toNat) (1:Int)*(nth (q91_0 d).1.1.2.1 (x:Int).toNat).2.2.2.2.2.1)/\jw (U.vG (q91_1 d) d.2.1 x+qO (d.2.1/(2:Int)^(x:Int).toNat) (1:Int)*(nth (q91_0 d).1.1.2.1 (x:Int).toNat).2.2.2.2.2.1)/\jw ((x:Int)+1)/\∃(a:Nat),(((x:Int)+1=(a:Int)/\U.vG (q91_1 d) d.2.1 x+qO (d.2.1/(2:Int)^(x:Int).toNat) (1:Int)*(nth (q91_0 d).1.1.2.1 (x:Int).toNat).2.2.2.2.2.1=U.vG (q91_1 d) d.2.1 a/\True)/\True)/\a<=(q91_1 d).length/\(q91_1 d).length-a<(q91_1 d).length-x)/\(decide ((x:Int)<(↑(q91_0 d).1.1.2.1.length:Int))=false->(U.vG (q91_1 d) d.2.1 x,())=(U.wP (U.rd (U.ro d.1)) d.2.1,())))
end Go.X
namespace Go.X
open Go.Proofs
theorem zc {d:DyD} (h:U.zA d=true):(U.jm d).length<=4/\(1<=(U.jK d).length/\(U.jK d).length<=5)/\(0<=U.jfe d/\U.jfe d<=300)/\(0<=U.jrs d/\U.jrs d<=1440)/\(U.kl d).length<=30/\
 (∀r∈U.jK d,U.vE (U.jK d).length r=true)/\(∀b∈U.jm d,U.jb3 (U.jK d).length b=true)/\∀s∈U.kl d,U.gN (U.jm d).length (U.je (U.jc d)).length s=true:=by
 unfold U.zA at h;simp only[jGW,decide_eq_true_eq,jHg] at h;obtain⟨⟨e,f,g,i,j,k,l,m⟩,n,a,c⟩:=h;exact⟨e,⟨f,g⟩,⟨i,j⟩,⟨k,l⟩,m,n,a,c⟩
theorem jFS {d:DyD} {b:Int} (h:U.wJ d b):U.bk d b∈U.jm d:=by
 unfold U.bk;exact L.mem_nth (by unfold U.wJ at h;omega)
theorem qR {d:DyD} (h:U.zA d=true) {b:Int} (a:U.wJ d b):(0<=U.jwR (U.bk d b)/\U.jwR (U.bk d b)<((U.jK d).length:Int))/\0<=U.jag (U.bk d b)/\U.jag (U.bk d b)<U.joB (U.bk d b)/\U.joB (U.bk d b)<=1440:=by
 have:=(zc h).2.2.2.2.2.2.1 _ (jFS a);unfold U.jb3 at this;have:=of_decide_eq_true this;omega
theorem jfa {d:DyD} (h:U.zA d=true) {i:Nat} (hi:i<(U.jK d).length):(nth (U.jK d) i).length=(U.jK d).length/\∀j,j<(U.jK d).length->0<=U.lo (nth (nth (U.jK d) i) j)/\U.lo (nth (nth (U.jK d) i) j)<=U.hi (nth (nth (U.jK d) i) j)/\U.hi (nth (nth (U.jK d) i) j)<=300:=by
 have:=(zc h).2.2.2.2.2.1 _ (L.mem_nth hi);unfold U.vE at this;rw[jGW,decide_eq_true_eq,jHg] at this;refine⟨this.1,fun j b=> ?_⟩;have a:=this.2 _ (L.mem_nth (l:=nth (U.jK d) i) (i:=j) (by omega));unfold U.jfv at a;exact of_decide_eq_true a
theorem jkB {d:DyD} (h:U.zA d=true) {a b:Int} (c:U.wJ d a) (e:U.wJ d b):0<=U.jtj d a b/\U.jtj d a b<=300:=by
 have f:=(qR h c).1;have g:=(qR h e).1;have:=(jfa h (i:=(U.jwR (U.bk d a)).toNat) (by omega)).2 (U.jwR (U.bk d b)).toNat (by omega);unfold U.jtj;omega
theorem jii:jgo:=by
 unfold jgo q84_2 q84_1 q84_0;rintro⟨(_|r),a,b,⟨⟩⟩ h c d e
 .cases h
 obtain⟨c1,c2,c⟩:U.vK (U.rd r):=c;have d:U.wJ (U.rd r) a:=d;have e:U.wJ (U.rd r) b:=e;have g:=qR c d;have j:=qR c e;have k:=jkB c d e;have l:=(zc c).2.2.1;have m:=(jfa c (i:=(U.jwR (U.bk (U.rd r) a)).toNat) (by omega)).1;have f:(0<=a/\a<((U.jm (U.rd r)).length:Int))/\0<=b/\b<((U.jm (U.rd r)).length:Int):=⟨d,e⟩;refine⟨rfl,f.1.1,f.1.2,rfl,f.2.1,f.2.2,?_,rfl,?_,rfl,g.1.1,g.1.2,j.1.1,?_,?_,rfl⟩
 .show jw (U.jag (U.bk (U.rd r) b)-U.joB (U.bk (U.rd r) a));exact L.in64 (by omega) (by omega)
 .show jw (U.jag (U.bk (U.rd r) b)-U.joB (U.bk (U.rd r) a)-U.jfe (U.rd r));exact L.in64 (by omega) (by omega)
 .show U.jwR (U.bk (U.rd r) b)<((nth (U.jK (U.rd r)) (U.jwR (U.bk (U.rd r) a)).toNat).length:Int);omega
 .show jw (U.jag (U.bk (U.rd r) b)-U.joB (U.bk (U.rd r) a)-U.jfe (U.rd r)-U.jtj (U.rd r) a b);exact L.in64 (by omega) (by omega)
theorem jgM:zk PR 39 jgt:=jU jii Tryz.func39 kcN koN
theorem jej:jc1:=by
 unfold jc1 q85_0;rintro⟨a,b,(_|r),⟨⟩⟩ e c d
 .cases e
 have c:U.wJ (U.rd r) a:=c;have d:U.wJ (U.rd r) b:=d;exact⟨rfl,c.1,c.2,rfl,d.1,d.2,rfl⟩
theorem jdb:zk PR 71 zv:=jU jej Tryz.func71 (kcC qd (kcC jaI kcN)) koN
theorem jEs (d:DyD):jbu (U.jf5 d):=by
 have e:U.jf5 d=jAD (fun a b=>U.jae (U.jag (U.bk d a)) (U.jag (U.bk d b))) U.jae:=by
  funext a b;unfold U.jf5;rw[zy,wq];rfl
 rw[e];exact jgS (jhq jf4 (fun a=>U.jag (U.bk d a))) jf4
theorem jz5 {d:DyD} {a b:Int} (h:U.jf5 d a b=0):a=b:=by
 unfold U.jf5 at h;rw[zy] at h
 split at h
 .contradiction
 .rw[wq] at h;exact vM.1 h
theorem jz6 (d:DyD) (a b:Int):decide (U.jf5 d a b<0)=U.w9 d a b:=by
 unfold U.jf5 U.w9;rw[zy,wq];refine decide_eq_decide.2 ?_;by_cases c:U.jag (U.bk d a)<U.jag (U.bk d b)
 .have e:U.jae (U.jag (U.bk d a)) (U.jag (U.bk d b))= -1:=(by unfold U.jae;rw[if_pos c]);rw[e];simp;omega
 .by_cases f:U.jag (U.bk d b)<U.jag (U.bk d a)
  .have e:U.jae (U.jag (U.bk d a)) (U.jag (U.bk d b))=1:=(by unfold U.jae;rw[if_neg c,if_pos f]);rw[e];simp;omega
  .have e:U.jae (U.jag (U.bk d a)) (U.jag (U.bk d b))=0:=(by unfold U.jae;rw[if_neg c,if_neg f]);rw[e];unfold U.jae;simp only[ne_eq,not_true_eq_false,if_false]
   split<;>(try split)<;>omega
theorem jGN (d:DyD) (l:List Int):kK (U.w9 d) l:=by
 have:=jnG (t:= .int) (jEs d) (l:=l) (fun _ _ _ _ h=>jz5 h);have e:(U.jg .int fun(x:Int×Int×Unit)=>(U.jf5 d x.1 x.2.1,()))=U.w9 d:=by
  funext a b;exact jz6 d a b
 rw[e] at this;exact this
theorem ltK (d:DyD):(U.vL fun(x:Int×Int×Unit)=>(U.jf5 d x.1 x.2.1,()))=U.w9 d:=by
 funext a b;exact jz6 d a b
theorem jg0:yE:=by
 rintro⟨(_|r),l,⟨⟩⟩ c f
 .cases c
 obtain⟨d,b⟩:U.jib (U.rd r) l:=f;refine⟨⟨d,fun x g y h=>⟨rfl,b x g,b y h,trivial⟩,?_,trivial⟩,fun q a=> ?_⟩
 .have e:=ltK (U.rd r);show kK (U.vL fun(x:Int×Int×Unit)=>(U.jf5 (U.rd r) x.1 x.2.1,())) l;rw[e];exact jGN _ l
 .have e:=ltK (U.rd r);have a:q.1.1=U.jd (U.vL fun(x:Int×Int×Unit)=>(U.jf5 (U.rd r) x.1 x.2.1,())) l:=a;rw[e] at a;obtain⟨⟨q,⟨⟩⟩,⟨⟩⟩:=q;rw[show q=_ from a];rfl
theorem jq1:(jrw 9 [(71,zv)] [] [(70,zO)] []).ok PR:=jtx ⟨fun _=>jdb,trivial⟩ trivial ⟨jh6,trivial⟩ trivial
theorem jfp:zk PR 38 yH:=
 jE7 (body:=zM Tryz.f38) (C:=jrw 9 [(71,zv)] [] [(70,zO)] []) (hk:=hkC (jrw 9 [(71,zv)] [] [(70,zO)] []) (fun _=>none) jDt [8] [(69,20,zT)]) jq1 mixed Tryz.func38 (by kernel_rfl) (by kernel_rfl) (by kernel_rfl) (by decide)
  (fun B=>jmw jq1 mixed jrU (jyy jbQ) B) (jbC.mpr jg0)
theorem jij:jgp:=by
 rintro⟨b,(_|r),a,⟨⟩⟩ c f e d
 .cases c
 exact⟨rfl,f,d,e,rfl⟩
theorem jgN:zk PR 105 jgu:=jU jij Tryz.func105 (kcC jgM kcN) koN
theorem jd9 {d:DyD} {s:List Int} {i:Nat} (h:i<s.length):U.ke d s (i+1)=U.ke d s i+(U.joB (U.bk d (nth s i))-U.jag (U.bk d (nth s i))):=by
 unfold U.ke U.jfy;rw[L.take_succ h,jHH,jHh];rfl
theorem jsR {d:DyD} (a:U.zA d=true) {s:List Int} (c:∀b∈s,U.wJ d b):∀i,i<=s.length->0<=U.ke d s i/\U.ke d s i<=1440*(i:Int)
 |0,_=>⟨jHV _,jHV _⟩
 |i+1,hi=>by
  have f:=jsR a c i (by omega)
  have e:=qR a (c _ (L.mem_nth (l:=s) (i:=i) (by omega)))
  rw[jd9 (by omega)]
  omega
theorem jsh {d:DyD} {l:List Int} {b:Int}:b∈U.jp d l↔b∈l:=(zp l).mem_iff
theorem jsi (d:DyD) (l:List Int):(U.jp d l).length=l.length:=(zp l).length_eq
theorem jlB:jiW:=by
 unfold jiW q88_7 q88_3 q88_2 q88_6 q88_4 q88_1 q88_5 q88_0;rintro⟨(_|r),p,l,⟨⟩⟩ D v q K
 .cases D
 obtain⟨⟨c1,c2,u⟩,v⟩:U.jqg r:=v;have q:U.joN (U.rd r) p:=q;obtain⟨z,A⟩:U.jib (U.rd r) l:=K;have N:=(jA c1).2.2.1;refine⟨rfl,⟨z,A⟩,fun _=> ?_⟩;obtain⟨s,o⟩:∃s,s=U.jp (U.rd r) l:=⟨_,rfl⟩;have O:s.length<=12:=(by rw[o,jsi];exact z);have k:∀b∈s,U.wJ (U.rd r) b:=fun b d=>A b (by rw[o] at d;exact jsh.1 d)
 have t:U.ro (some r)=r:=rfl;simp only[t,<-o];refine⟨⟨0,⟨⟨rfl,rfl,trivial⟩,trivial⟩,jG7 _,fun b d=>by omega⟩,fun x w=>⟨fun h=> ?_,fun h=> ?_⟩⟩
 .have h:(x:Int)<(s.length:Int):=of_decide_eq_true h;have a:x<s.length:=(by omega);have d:=k _ (L.mem_nth a);have H:=qR u d;have M:=jsR u k x (by omega);have C:((x:Int)+1).toNat=x+1:=(by omega);have B:(s.drop (x+1)).take (s.length-(x+1))=s.drop (x+1):=jHA (by rw[jIh];omega);have I:U.jag (U.bk (U.rd r) (nth s x))=(nth (U.jm (U.rd r)) (nth s x).toNat).2.2.1:=rfl;simp only[jG1,C,B];have n:(nth s x)<((U.qG r).length:Int):=(by rw[v];exact d.2);have m:U.jnR (U.rd r) (U.qG r) p s x= !(decide (qO (nth (U.qG r) (nth s x).toNat/2^p.toNat) 1=0)||(s.drop (x+1)).any (fun c=>decide (U.qV (U.rd r) (nth s x) c<0))):=rfl;have j:((s.drop (x+1)).any (U.jb fun(y:Int×Unit)=>(decide (U.qV (U.rd r) (nth s x) y.fst<0),())))=(s.drop (x+1)).any (fun c=>decide (U.qV (U.rd r) (nth s x) c<0)):=rfl;unfold U.joN at q;refine⟨by omega,h,rfl,d.1,d.2,rfl,d.1,d.2,?_,?_,rfl,d.1,n,q.1,by omega,fun _=>L.in64 (by omega) (by omega),fun _=>by omega,fun _=>by omega,fun _=>by omega,fun _ g J=>⟨rfl,⟨c1,c2,u⟩,k g (jIk J),d,trivial⟩,fun f=> ?_,fun f=>⟨L.in64 (by omega) (by omega),x+1,⟨⟨by simp,(jd9 a).symm,trivial⟩,trivial⟩,⟨by omega,fun b G=> ?_⟩,by omega⟩⟩
  .show jw (U.joB (U.bk (U.rd r) (nth s x))-U.jag (U.bk (U.rd r) (nth s x)));exact L.in64 (by omega) (by omega)
  .show jw (U.ke (U.rd r) s x+(U.joB (U.bk (U.rd r) (nth s x))-U.jag (U.bk (U.rd r) (nth s x))));exact L.in64 (by omega) (by omega)
  .have f:(decide (qO (nth (U.qG r) (nth s x).toNat/2^p.toNat) 1=0)||((s.drop (x+1)).any (U.jb fun(y:Int×Unit)=>(decide (U.qV (U.rd r) (nth s x) y.fst<0),()))))=true:=f;have f:U.jnR (U.rd r) (U.qG r) p s x=false:=(by rw[m,<-j,f];rfl);have:U.jaf r p l=false:=by
    unfold U.jaf U.jin U.jEx;rw[<-o];have:(List.range s.length).all (U.jnR (U.rd r) (U.qG r) p s)=false:=by
     rw[jHZ];exact⟨x,by simpa using a,by rw[f];simp⟩
    rw[this];rfl
   rw[this]
  .by_cases e:b=x
   .subst e;have f:(decide (qO (nth (U.qG r) (nth s b).toNat/2^p.toNat) 1=0)||((s.drop (b+1)).any (U.jb fun(y:Int×Unit)=>(decide (U.qV (U.rd r) (nth s b) y.fst<0),()))))=false:=f;rw[m,<-j,f];rfl
   .exact w.2 b (by omega)
 .have h:¬(x:Int)<(s.length:Int):=of_decide_eq_false h;have a:x=s.length:=(by have:=w.1;omega);refine⟨rfl,?_⟩;have E:(List.range s.length).all (U.jnR (U.rd r) (U.qG r) p s)=true:=by
   rw[jHg];intro i hi;exact w.2 i (by rw[a];simpa using hi)
  have F:U.ke (U.rd r) s x=U.jfy (U.rd r) s:=by
   unfold U.ke;rw[a,jHA (jGY _)]
  rw[F];have:U.jaf r p l=decide (U.jfy (U.rd r) s<=U.jrs (U.rd r)):=by
   unfold U.jaf U.jin U.jEx;rw[<-o,E,Bool.true_and]
  rw[this];rfl
theorem jb0:zk PR 76 jbL:=kI jk3 jlB Tryz.func76 (kcC jfp (kcC jgN (kcC qz kcN))) koN
theorem ji1 (on:List (List Int)) (b:Int) (n:Nat):U.qB on b (n+1)=if(nth on n).any (fun x=>decide (x=b))=true then bor (U.qB on b n) (1*2^n) else U.qB on b n:=by
 unfold U.qB;rw[jHn,jHh];rfl
theorem jbW (n:Nat):(1:Int)*2^n=2^n:=Int.one_mul _
theorem jko:jhN:=by
 unfold jhN q89_1 q89_0;rintro⟨(_|r),b,⟨⟩⟩ g d
 .cases g
 have d:(U.wa r).length<=60:=d;have c:U.ro (some r)=r:=rfl;refine⟨rfl,fun _=>⟨⟨0,⟨⟨rfl,rfl,trivial⟩,trivial⟩,jG7 _⟩,fun x f=>⟨fun h=> ?_,fun h=> ?_⟩⟩⟩
 .have h:(x:Int)<((U.wa r).length:Int):=of_decide_eq_true h;have e:=ji1 (U.wa r) b x;have i:BT.Set' ((2:Int)^x):=BT.two_set (by omega);unfold BT.Set' at i;simp only[jG1,c];refine⟨by omega,h,fun a=>⟨by omega,by omega,by rw[jbW];exact L.in64 (by omega) (by omega),L.in64 (by omega) (by omega),x+1,⟨⟨by simp,?_,trivial⟩,trivial⟩,by omega,by omega⟩,fun a=>⟨L.in64 (by omega) (by omega),x+1,⟨⟨?_,by simp,trivial⟩,trivial⟩,by omega,by omega⟩⟩
  .rw[e];have a:((nth (U.wa r) x).any fun y=>decide (y=b))=true:=a;rw[if_pos a]
  .rw[e];have a:((nth (U.wa r) x).any fun y=>decide (y=b))=false:=a;rw[if_neg (by rw[a];simp)]
 .have h:¬(x:Int)<((U.wa r).length:Int):=of_decide_eq_false h;have f:x<=(U.wa r).length:=f;rw[show x=(U.wa r).length by omega];rfl
theorem ja8:zk PR 35 jhV:=kI jir jko Tryz.func35 (kcC yJ kcN) koN
theorem jkp:jhO:=by
 unfold jhO q90_0;rintro⟨(_|r),b,t,⟨⟩⟩ c a
 .cases c
 have a:U.wJ (U.rd r) b:=a;exact⟨rfl,rfl,a.1,a.2,rfl⟩
theorem ja9:zk PR 41 jhW:=jU jkp Tryz.func41 (kcC jsF kcN) koN
theorem jmA (l:List PeD) (t:Int) (n:Nat):U.vG l t (n+1)=U.vG l t n+qO (t/2^n) 1*U.fe (nth l n):=by
 unfold U.vG;rw[jHn,jHh];rfl
theorem jfW {c:CrD} (h:U.jj c=true) {i:Nat} (hi:i<(U.je c).length):0<=U.fe (nth (U.je c) i)/\U.fe (nth (U.je c) i)<=1000:=by
 have:=(jA h).2.2.2.2.1 _ (L.mem_nth hi);unfold U.y8 at this;simp only[jGW,decide_eq_true_eq] at this;obtain⟨⟨_,_,_,_,_,_,a,b⟩,_⟩:=this;exact⟨a,b⟩
theorem jAf {z f:Int} (a:0<=f/\f<=1000):0<=qO z 1*f/\qO z 1*f<=1000:=by
 rcases juR z with h|h
 .rw[h,Int.zero_mul];omega
 .rw[h,Int.one_mul];omega
theorem jom {c:CrD} (h:U.jj c=true) (t:Int):∀i,i<=(U.je c).length->0<=U.vG (U.je c) t i/\U.vG (U.je c) t i<=1000*(i:Int)
 |0,_=>⟨jHV _,jHV _⟩
 |i+1,hi=>by
  have a:=jom h t i (by omega)
  have:=jAf (z:=t/2^i) (jfW h (i:=i) (by omega))
  rw[jmA]
  omega
theorem jlA:jiV:=by
 unfold jiV q91_1 q91_0;rintro⟨(_|r),t,⟨⟩⟩ d a f g
 .cases d
 have a:U.jj (U.jc (U.rd r))=true:=a;have l:=(jA a).2.2.1;have b:U.ro (some r)=r:=rfl;refine⟨rfl,fun _=>⟨⟨0,⟨⟨rfl,rfl,trivial⟩,trivial⟩,jG7 _⟩,fun x c=>⟨fun h=> ?_,fun h=> ?_⟩⟩⟩
 .have h:(x:Int)<((U.je (U.jc (U.rd r))).length:Int):=of_decide_eq_true h;have e:=jmA (U.je (U.jc (U.rd r))) t x;have j:=jom a t x (by omega);have k:=jAf (z:=t/2^x) (jfW a (i:=x) (by omega));simp only[jG1,b];refine⟨by omega,h,by omega,by omega,L.in64 (by show _<=qO (t/2^x) 1*U.fe (nth (U.je (U.jc (U.rd r))) x);omega) (by show qO (t/2^x) 1*U.fe (nth (U.je (U.jc (U.rd r))) x)<=_;omega),L.in64 (by show _<=U.vG _ t x+qO (t/2^x) 1*U.fe (nth (U.je (U.jc (U.rd r))) x);omega) (by show U.vG _ t x+qO (t/2^x) 1*U.fe (nth (U.je (U.jc (U.rd r))) x)<=_;omega),L.in64 (by omega) (by omega),x+1,⟨⟨by simp,e.symm,trivial⟩,trivial⟩,by omega,by omega⟩
 .have h:¬(x:Int)<((U.je (U.jc (U.rd r))).length:Int):=of_decide_eq_false h;have c:x<=(U.je (U.jc (U.rd r))).length:=c;rw[show x=(U.je (U.jc (U.rd r))).length by omega];rfl
theorem jjL:zk PR 49 jbK:=kI jk2 jlA Tryz.func49 kcN koN
end Go.X
namespace Go.X
theorem jeq {l:List ShD} {s:ShD}:s∈U.jY l↔s∈l:=by
 have e:U.jY l=U.vz (fun a b=>decide (a=b)) (U.jd (U.jg tSh fun x=>(U.yP x.1 x.2.1,())) l):=by
  unfold U.jY;congr 1
 rw[e,L.comp_mem];exact(zp l).mem_iff
theorem jqY (l:List ShD):(U.jY l).Nodup:=by
 have e:U.jY l=U.vz (fun a b=>decide (a=b)) (U.jd (U.jg tSh fun x=>(U.yP x.1 x.2.1,())) l):=by
  unfold U.jY;congr 1
 rw[e];refine L.asc_nodup (lt:=U.jg tSh fun x=>(U.yP x.1 x.2.1,())) (fun x=> ?_) (L.comp_asc (jBg _) (gz (jBg l)));exact(jBg [x]).irrefl x (jIj.2 rfl)
theorem jC6 (l:List ShD):∀i,i<=l.length->∀k,kS 0 (zI .int k (U.kY [] l i))=(((l.take i).countP (fun s=>decide (U.wv s=k)):Nat):Int)
 |0,_,k=>rfl
 |i+1,hi,k=>by
  have a:=jC6 l i (by omega)
  rw[jac (by omega),L.take_succ (by omega),jIr]
  unfold U.jcT
  by_cases e:k=U.wv (nth l i)
  .rw[e]
   rw[M.mfind_mput (kt:= .int) (U.wv (nth l i)) (kS 0 (zI .int (U.wv (nth l i)) (U.kY [] l i))+1) (U.kY [] l i)]
   show kS 0 (zI .int (U.wv (nth l i)) (U.kY [] l i))+1=_
   rw[a]
   simp
  .rw[M.mfind_mput_ne (kt:= .int) (k:=U.wv (nth l i)) (k':=k) e (kS 0 (zI .int (U.wv (nth l i)) (U.kY [] l i))+1) (U.kY [] l i),a]
   have:decide (U.wv (nth l i)=k)=false:=decide_eq_false fun h=>e h.symm
   simp[this]
theorem juX {l:List ShD} {i:Nat} (h:i<l.length):U.jgf [] l i=(l.take i).any (fun s=>decide (U.wv s=U.wv (nth l i))):=by
 unfold U.jgf U.juY;rw[<-jac h,jC6 l (i+1) (by omega),L.take_succ h,jIr];rw[jHs,decide_eq_true_eq,jHG];have b:List.countP (fun s=>decide (U.wv s=U.wv (nth l i))) [nth l i]=1:=(by simp);rw[b];constructor
 .intro a;have:0<(l.take i).countP (fun s=>decide (U.wv s=U.wv (nth l i))):=(by omega);rw[List.countP_pos_iff] at this;exact this
 .intro a;have:0<(l.take i).countP (fun s=>decide (U.wv s=U.wv (nth l i))):=List.countP_pos_iff.2 a;omega
theorem jEm (l:List ShD):U.jxd l=false↔(l.map U.wv).Nodup:=by
 have g:U.jxd l=false↔∀i,i<l.length->U.jgf [] l i=false:=by
  unfold U.jxd;constructor
  .intro h i hi;cases k:U.jgf [] l i with
   |false=>rfl
   |true=>
    exfalso;have b:(List.range l.length).findIdx? (U.jgf [] l)≠none:=by
     intro f;rw[List.findIdx?_eq_none_iff] at f;have:=f i (jG4.2 hi);rw[k] at this;cases this
    unfold U.jcv U.jal at h;cases d:(List.range l.length).findIdx? (U.jgf [] l) with
    |none=>exact b d
    |some j=>
     rw[d] at h;have h:=of_decide_eq_false h;exact h (jHi j)
  .intro h;rw[(jmP h).1];rfl
 rw[g,List.nodup_iff_pairwise_ne,jId,jHO];constructor
 .intro h i j hi a m e;have:=h j a;rw[juX a,jHJ] at this;have c:=this (l[i]) (by rw[jHD];exact⟨i,by omega,rfl⟩);rw[L.nth_lt a] at c;simp[e] at c
 .intro h i hi;rw[juX hi,jHJ];intro s b;rw[jHD] at b;obtain⟨j,a,rfl⟩:=b;have:=h j i (by omega) hi (by omega);rw[L.nth_lt hi];simpa using this
theorem jzP (l:List ShD):U.jxd (U.jY l)=false↔∀a∈l,∀b∈l,U.wv a=U.wv b->a=b:=by
 rw[jEm];constructor
 .intro h a c b d e;exact L.nodup_inj h (jeq.2 c) (jeq.2 d) e
 .intro h;rw[List.nodup_iff_pairwise_ne,jId];exact(List.Pairwise.imp_of_mem (fun{a b} c d f e=>f (h a (jeq.1 c) b (jeq.1 d) e)) (jqY l))
theorem jq8 (l:List ShD):U.vH l=false↔∀a∈l,∀b∈l,U.wv a=U.wv b->a=b:=by
 have k:U.vH l=false↔∀i,i<l.length->∀j,j<i->U.jkP (nth l i) (nth l j)=false:=by
  unfold U.vH U.qh U.jiI;rw[jHJ];constructor
  .intro h i hi j d;have:=h i (jG4.2 hi);rw[Bool.not_eq_true,jHJ] at this;have:=this (nth l j) (by rw[jHD];exact⟨j,by omega,(L.nth_lt (by omega)).symm⟩);simpa using this
  .intro h i hi;have hi:=jG4.1 hi;rw[Bool.not_eq_true,jHJ];intro s g;rw[jHD] at g;obtain⟨j,d,rfl⟩:=g;have:=h i hi j (by omega);rw[L.nth_lt (l:=l) (i:=j) (by omega)] at this;simpa using this
 rw[k];have f:∀a b:ShD,U.jkP a b=false↔(U.wv a=U.wv b->a=b):=by
  intro a b;unfold U.jkP;rw[Bool.and_eq_false_iff];simp only[decide_eq_false_iff_not,jHC,decide_eq_true_eq];constructor
  .rintro(h|h) e
   .exact absurd e h
   .exact h
  .intro h;by_cases e:U.wv a=U.wv b
   .exact .inr (h e)
   .exact .inl e
 constructor
 .intro h a m b n e;obtain⟨i,hi,rfl⟩:=L.mem_iff.1 m;obtain⟨j,d,rfl⟩:=L.mem_iff.1 n;rcases Nat.lt_trichotomy i j with c|rfl|c
  .exact((f _ _).1 (h j d i c) e.symm).symm
  .rfl
  .exact(f _ _).1 (h i hi j c) e
 .intro h i hi j d;exact(f _ _).2 (h _ (L.mem_nth hi) _ (L.mem_nth (by omega)))
theorem jzQ (l:List ShD):U.jxd (U.jY l)=U.vH l:=by
 have:=(jzP l).trans (jq8 l).symm;cases a:U.jxd (U.jY l) with
 |false=>exact(this.1 a).symm
 |true=>
  cases b:U.vH l with
  |false=>rw[this.2 b] at a;cases a
  |true=>rfl
theorem qi (d:DyD):U.ju d=U.wG d:=by
 unfold U.ju U.jkQ U.wG;rw[jzQ]
 split
 .rfl
 .split
  .rfl
  .rw[if_neg (by simp)]
end Go.X
namespace Go.X
open Go.Proofs
abbrev tSt:Ty:= .st [.int,.int]
abbrev jF2:Sh:= .box 82 [.dat .int,.dat (.slice tPe),.dat (.slice tLw),.dat (.slice (.slice tSp)),.dat (.slice tBk),.dat .int,.dat .int,.dat (.slice tSh),.row 3 .int .yes,.row 34 (.slice .int) .no,.row 3 .int .unk]
namespace U
def vn:List Int:=[]
def kM (b:jF2.D):RoD:=(((b.1,b.2.1,b.2.2.1,()),b.2.2.2.1,b.2.2.2.2.1,b.2.2.2.2.2.1,b.2.2.2.2.2.2.1,b.2.2.2.2.2.2.2.1,()),b.2.2.2.2.2.2.2.2.1,b.2.2.2.2.2.2.2.2.2.1,b.2.2.2.2.2.2.2.2.2.2.1,())
def jio (b:jF2.D) (x:List (List Int)×List Int):jF2.D:=(b.1,b.2.1,b.2.2.1,b.2.2.2.1,b.2.2.2.2.1,b.2.2.2.2.2.1,b.2.2.2.2.2.2.1,b.2.2.2.2.2.2.2.1,b.2.2.2.2.2.2.2.2.1,x.1,x.2,())
def yw (s:ShD):Int×Int×Unit:=(vq s,qq s,())
def zz (l:List ShD) (n:Nat):List ((Int×Int×Unit)×ShD):=(l.take n).foldl (fun m s=>jd8 tSt (yw s) s m) []
def kf (m:List ((Int×Int×Unit)×ShD)) (s:ShD):Bool:= !(!decide (kS (Ty.dflt tSh) (zI tSt (yw s) m)=s)|| !decide (jAB s=1))
def jpd (d:DyD) (yr:List Int) (m:List ((Int×Int×Unit)×ShD)) (x:List (List Int)×List Int) (s:ShD):List (List Int)×List Int:=
 if kf m s=true then(if jin d yr (qq s) (nth x.1 (qq s).toNat++[vq s])=true then(x.1.set (qq s).toNat (nth x.1 (qq s).toNat++[vq s]),x.2) else(x.1,x.2++[wv s])) else x
def jGS (l:List ShD):List ShD:=jd (jg tSh fun x=>(js x.1 x.2.1,())) l
def jF (d:DyD):List ShD:=jGS (jY (kl d))
def zN (r:RoD) (l:List ShD) (n:Nat):List (List Int)×List Int:=(l.take n).foldl (jpd (rd r) (qG r) (zz l l.length)) (wa r,jF3 r)
def vo (r:RoD):List (List Int)×List Int:=((zN r (jF (rd r)) (jF (rd r)).length).1,je5 (zN r (jF (rd r)) (jF (rd r)).length).2)
def jBs (l:List (List Int)):Prop:=∀x∈l,x=vn
def jBl (r:RoD):Prop:=(ju (rd r)=0/\(qG r).length=(jm (rd r)).length)/\((wa r).length=(je (jc (rd r))).length/\jBs (wa r))/\jF3 r=vn
def yF (r:RoD) (l:List ShD) (n:Nat) (x:List (List Int)×List Int):Prop:=x.1.length=(je (jc (rd r))).length/\x.2.length<=n/\∀p:Nat,(nth x.1 p).Nodup/\∀b∈nth x.1 p,wJ (rd r) b/\∃i:Nat,i<n/\yw (nth l i)=(b,(p:Int),())/\kS (Ty.dflt tSh) (zI tSt (yw (nth l i)) (zz l l.length))=nth l i
end U
def bx (σ:St) (o:Nat):List SV:=match σ.obj o with|some (.box _ _ cs)=>cs|_=>[]
def gb (t:Ty) (σ:St) (o:Nat):t.Data:=match wi σ t (bx σ o) with|some (x,_)=>x|none=>t.dflt
abbrev jlm:zV:=jxT 3
def jgz:zV:=⟨[.own jF2 true],[],fun d=>[U.jBl (U.kM d.1)],fun d=>((),(U.jio d.1 (U.vo (U.kM d.1)),()))⟩
def jhf:Ann:=fun r=>match r with
 |4=>some fun σ=>{X:=Nat,sl:=fun i=>[(20,.dat .int (i:Int))],ob:=fun i=>[(9,some (.map false tSt tSh (U.zz (gr tSh σ 3) i)))],inv:=fun i=>i<=(gr tSh σ 3).length,mu:=fun i=>(gr tSh σ 3).length-i}
 |9=>some fun σ=>{X:=Nat,sl:=fun i=>[(34,.dat .int (i:Int))],ob:=fun i=>[(400009,some (.row 34 (.slice .int) false .no (U.zN (gb tRo σ 1000000) (gr tSh σ 3) i).1)),(400010,some (.row 3 .int false .unk (U.zN (gb tRo σ 1000000) (gr tSh σ 3) i).2))],inv:=fun i=>i<=(gr tSh σ 3).length/\U.yF (gb tRo σ 1000000) (gr tSh σ 3) i (U.zN (gb tRo σ 1000000) (gr tSh σ 3) i),mu:=fun i=>(gr tSh σ 3).length-i}
 |_=>none
abbrev q92_2 (d:(Int×List PeD×List LwD×List (List (Int×Int×Unit))×List BkD×Int×Int×List ShD×List Int×List (List Int)×List Int×Unit)×Unit):=(U.jY d.1.2.2.2.2.2.2.2.1)
abbrev q92_3 (d:(Int×List PeD×List LwD×List (List (Int×Int×Unit))×List BkD×Int×Int×List ShD×List Int×List (List Int)×List Int×Unit)×Unit):=((d.1.1,d.1.2.1,d.1.2.2.1,()),d.1.2.2.2.1,d.1.2.2.2.2.1,d.1.2.2.2.2.2.1,d.1.2.2.2.2.2.2.1,d.1.2.2.2.2.2.2.2.1,())
abbrev q92_1 (d:(Int×List PeD×List LwD×List (List (Int×Int×Unit))×List BkD×Int×Int×List ShD×List Int×List (List Int)×List Int×Unit)×Unit):=((q92_3 d),d.1.2.2.2.2.2.2.2.2)
abbrev q92_4:=(Ty.int.pair (Ty.int.pair Ty.unit))
abbrev q92_0:=(Ty.int.pair (Ty.int.pair (Ty.int.pair q92_4)))
abbrev q92_5:=((0:Int),(0:Int),(0:Int),(0:Int),(0:Int),())
def jgn:Prop:=∀(d:(Int×List PeD×List LwD×List (List (Int×Int×Unit))×List BkD×Int×Int×List ShD×List Int×List (List Int)×List Int×Unit)×Unit),U.jBl (U.kM d.1)->d.1.2.2.2.2.2.2.2.1.length<=100000/\(∀(u0:ShD),u0∈U.jY d.1.2.2.2.2.2.2.2.1->∀(y:ShD),y∈U.jY d.1.2.2.2.2.2.2.2.1->U.jD [])/\kK (U.jg q92_0 fun(z0:ShD×ShD×Unit)=>(U.js z0.1 z0.2.1,())) (q92_2 d)/\((U.jd (U.jg q92_0 fun(z1:ShD×ShD×Unit)=>(U.js z1.1 z1.2.1,())) (q92_2 d)).length<4611686018427387904->(∃(x:Nat),((0=(x:Int)/\True)/\[]=U.zz (U.jd (U.jg q92_0 fun(z2:ShD×ShD×Unit)=>(U.js z2.1 z2.2.1,())) (q92_2 d)) x/\True)/\x<=(U.jd (U.jg q92_0 fun(z3:ShD×ShD×Unit)=>(U.js z3.1 z3.2.1,())) (q92_2 d)).length)/\∀(x:Nat),x<=(U.jd (U.jg q92_0 fun(z4:ShD×ShD×Unit)=>(U.js z4.1 z4.2.1,())) (q92_2 d)).length->(decide ((x:Int)<(↑(U.jd (U.jg q92_0 fun(z5:ShD×ShD×Unit)=>(U.js z5.1 z5.2.1,())) (q92_2 d)).length:Int))=true->0<=(x:Int)/\(x:Int)<(↑(U.jd (U.jg q92_0 fun(z6:ShD×ShD×Unit)=>(U.js z6.1 z6.2.1,())) (q92_2 d)).length:Int)/\jw ((x:Int)+1)/\∃(b:Nat),(((x:Int)+1=(b:Int)/\True)/\jd8 q92_4 (nth (U.jd (U.jg q92_0 fun(z7:ShD×ShD×Unit)=>(U.js z7.1 z7.2.1,())) (q92_2 d)) (x:Int).toNat).2.2.2 (nth (U.jd (U.jg q92_0 fun(z8:ShD×ShD×Unit)=>(U.js z8.1 z8.2.1,())) (q92_2 d)) (x:Int).toNat) (U.zz (U.jd (U.jg q92_0 fun(z9:ShD×ShD×Unit)=>(U.js z9.1 z9.2.1,())) (q92_2 d)) x)=U.zz (U.jd (U.jg q92_0 fun(v:ShD×ShD×Unit)=>(U.js v.1 v.2.1,())) (q92_2 d)) b/\True)/\b<=(U.jd (U.jg q92_0 fun(w:ShD×ShD×Unit)=>(U.js w.1 w.2.1,())) (q92_2 d)).length/\(U.jd (U.jg q92_0 fun(z:ShD×ShD×Unit)=>(U.js z.1 z.2.1,())) (q92_2 d)).length-b<(U.jd (U.jg q92_0 fun(A:ShD×ShD×Unit)=>(U.js A.1 A.2.1,())) (q92_2 d)).length-x)/\(decide ((x:Int)<(↑(U.jd (U.jg q92_0 fun(B:ShD×ShD×Unit)=>(U.js B.1 B.2.1,())) (q92_2 d)).length:Int))=false->(U.jd (U.jg q92_0 fun(C:ShD×ShD×Unit)=>(U.js C.1 C.2.1,())) (q92_2 d)).length<4611686018427387904->(∃(x:Nat),((0=(x:Int)/\True)/\d.1.2.2.2.2.2.2.2.2.2.1=(U.zN (q92_1 d) (U.jd (U.jg q92_0 fun(D:ShD×ShD×Unit)=>(U.js D.1 D.2.1,())) (q92_2 d)) x).1/\d.1.2.2.2.2.2.2.2.2.2.2.1=(U.zN (q92_1 d) (U.jd (U.jg q92_0 fun(E:ShD×ShD×Unit)=>(U.js E.1 E.2.1,())) (q92_2 d)) x).2/\True)/\x<=(U.jd (U.jg q92_0 fun(F:ShD×ShD×Unit)=>(U.js F.1 F.2.1,())) (q92_2 d)).length/\U.yF (q92_1 d) (U.jd (U.jg q92_0 fun(G:ShD×ShD×Unit)=>(U.js G.1 G.2.1,())) (q92_2 d)) x (U.zN (q92_1 d) (U.jd (U.jg q92_0 fun(H:ShD×ShD×Unit)=>(U.js H.1 H.2.1,())) (q92_2 d)) x))/\∀(a:Nat),a<=(U.jd (U.jg q92_0 fun(I:ShD×ShD×Unit)=>(U.js I.1 I.2.1,())) (q92_2 d)).length/\U.yF (q92_1 d) (U.jd (U.jg q92_0 fun(J:ShD×ShD×Unit)=>(U.js J.1 J.2.1,())) (q92_2 d)) a (U.zN (q92_1 d) (U.jd (U.jg q92_0 fun(K:ShD×ShD×Unit)=>(U.js K.1 K.2.1,())) (q92_2 d)) a)->(decide ((a:Int)<(↑(U.jd (U.jg q92_0 fun(L:ShD×ShD×Unit)=>(U.js L.1 L.2.1,())) (q92_2 d)).length:Int))=true->0<=(a:Int)/\(a:Int)<(↑(U.jd (U.jg q92_0 fun(M:ShD×ShD×Unit)=>(U.js M.1 M.2.1,())) (q92_2 d)).length:Int)/\((!decide (kS q92_5 (zI q92_4 (nth (U.jd (U.jg q92_0 fun(N:ShD×ShD×Unit)=>(U.js N.1 N.2.1,())) (q92_2 d)) (a:Int).toNat).2.2.2 (U.zz (U.jd (U.jg q92_0 fun(O:ShD×ShD×Unit)=>(U.js O.1 O.2.1,())) (q92_2 d)) x))=nth (U.jd (U.jg q92_0 fun(P:ShD×ShD×Unit)=>(U.js P.1 P.2.1,())) (q92_2 d)) (a:Int).toNat)||decide ((nth (U.jd (U.jg q92_0 fun(Q:ShD×ShD×Unit)=>(U.js Q.1 Q.2.1,())) (q92_2 d)) (a:Int).toNat).2.2.1≠1))=true->jw ((a:Int)+1)/\∃(b:Nat),(((a:Int)+1=(b:Int)/\True)/\(U.zN (q92_1 d) (U.jd (U.jg q92_0 fun(R:ShD×ShD×Unit)=>(U.js R.1 R.2.1,())) (q92_2 d)) a).2=(U.zN (q92_1 d) (U.jd (U.jg q92_0 fun(S:ShD×ShD×Unit)=>(U.js S.1 S.2.1,())) (q92_2 d)) b).2/\(U.zN (q92_1 d) (U.jd (U.jg q92_0 fun(T:ShD×ShD×Unit)=>(U.js T.1 T.2.1,())) (q92_2 d)) a).1=(U.zN (q92_1 d) (U.jd (U.jg q92_0 fun(V:ShD×ShD×Unit)=>(U.js V.1 V.2.1,())) (q92_2 d)) b).1/\True)/\(b<=(U.jd (U.jg q92_0 fun(W:ShD×ShD×Unit)=>(U.js W.1 W.2.1,())) (q92_2 d)).length/\U.yF (q92_1 d) (U.jd (U.jg q92_0 fun(X:ShD×ShD×Unit)=>(U.js X.1 X.2.1,())) (q92_2 d)) b (U.zN (q92_1 d) (U.jd (U.jg q92_0 fun(Y:ShD×ShD×Unit)=>(U.js Y.1 Y.2.1,())) (q92_2 d)) b))/\(U.jd (U.jg q92_0 fun(Z:ShD×ShD×Unit)=>(U.js Z.1 Z.2.1,())) (q92_2 d)).length-b<(U.jd (U.jg q92_0 fun(z38:ShD×ShD×Unit)=>(U.js z38.1 z38.2.1,())) (q92_2 d)).length-a)/\((!decide (kS q92_5 (zI q92_4 (nth (U.jd (U.jg q92_0 fun(z39:ShD×ShD×Unit)=>(U.js z39.1 z39.2.1,())) (q92_2 d)) (a:Int).toNat).2.2.2 (U.zz (U.jd (U.jg q92_0 fun(z40:ShD×ShD×Unit)=>(U.js z40.1 z40.2.1,())) (q92_2 d)) x))=nth (U.jd (U.jg q92_0 fun(z41:ShD×ShD×Unit)=>(U.js z41.1 z41.2.1,())) (q92_2 d)) (a:Int).toNat)||decide ((nth (U.jd (U.jg q92_0 fun(z42:ShD×ShD×Unit)=>(U.js z42.1 z42.2.1,())) (q92_2 d)) (a:Int).toNat).2.2.1≠1))=false->(0:Int)<=(nth (U.jd (U.jg q92_0 fun(z43:ShD×ShD×Unit)=>(U.js z43.1 z43.2.1,())) (q92_2 d)) (a:Int).toNat).2.2.2.2.1/\(nth (U.jd (U.jg q92_0 fun(z44:ShD×ShD×Unit)=>(U.js z44.1 z44.2.1,())) (q92_2 d)) (a:Int).toNat).2.2.2.2.1<(↑(U.zN (q92_1 d) (U.jd (U.jg q92_0 fun(z45:ShD×ShD×Unit)=>(U.js z45.1 z45.2.1,())) (q92_2 d)) a).1.length:Int)/\(0:Int)<=(nth (U.jd (U.jg q92_0 fun(z46:ShD×ShD×Unit)=>(U.js z46.1 z46.2.1,())) (q92_2 d)) (a:Int).toNat).2.2.2.2.1/\(nth (U.jd (U.jg q92_0 fun(z47:ShD×ShD×Unit)=>(U.js z47.1 z47.2.1,())) (q92_2 d)) (a:Int).toNat).2.2.2.2.1<(↑(U.zN (q92_1 d) (U.jd (U.jg q92_0 fun(z48:ShD×ShD×Unit)=>(U.js z48.1 z48.2.1,())) (q92_2 d)) a).1.length:Int)/\(0:Int)<=(nth (U.jd (U.jg q92_0 fun(z49:ShD×ShD×Unit)=>(U.js z49.1 z49.2.1,())) (q92_2 d)) (a:Int).toNat).2.2.2.2.1/\(nth (U.jd (U.jg q92_0 fun(z50:ShD×ShD×Unit)=>(U.js z50.1 z50.2.1,())) (q92_2 d)) (a:Int).toNat).2.2.2.2.1<(↑(U.zN (q92_1 d) (U.jd (U.jg q92_0 fun(z51:ShD×ShD×Unit)=>(U.js z51.1 z51.2.1,())) (q92_2 d)) a).1.length:Int)/\(↑(nth (U.zN (q92_1 d) (U.jd (U.jg q92_0 fun(z52:ShD×ShD×Unit)=>(U.js z52.1 z52.2.1,())) (q92_2 d)) a).1 (nth (U.jd (U.jg q92_0 fun(z53:ShD×ShD×Unit)=>(U.js z53.1 z53.2.1,())) (q92_2 d)) (a:Int).toNat).2.2.2.2.1.toNat).length:Int)=(↑(nth (U.zN (q92_1 d) (U.jd (U.jg q92_0 fun(z54:ShD×ShD×Unit)=>(U.js z54.1 z54.2.1,())) (q92_2 d)) a).1 (nth (U.jd (U.jg q92_0 fun(z55:ShD×ShD×Unit)=>(U.js z55.1 z55.2.1,())) (q92_2 d)) (a:Int).toNat).2.2.2.2.1.toNat).length:Int)/\(↑(nth (U.zN (q92_1 d) (U.jd (U.jg q92_0 fun(z56:ShD×ShD×Unit)=>(U.js z56.1 z56.2.1,())) (q92_2 d)) a).1 (nth (U.jd (U.jg q92_0 fun(z57:ShD×ShD×Unit)=>(U.js z57.1 z57.2.1,())) (q92_2 d)) (a:Int).toNat).2.2.2.2.1.toNat).length:Int)=(↑(nth (U.zN (q92_1 d) (U.jd (U.jg q92_0 fun(z58:ShD×ShD×Unit)=>(U.js z58.1 z58.2.1,())) (q92_2 d)) a).1 (nth (U.jd (U.jg q92_0 fun(z59:ShD×ShD×Unit)=>(U.js z59.1 z59.2.1,())) (q92_2 d)) (a:Int).toNat).2.2.2.2.1.toNat).length:Int)/\((nth (U.zN (q92_1 d) (U.jd (U.jg q92_0 fun(z60:ShD×ShD×Unit)=>(U.js z60.1 z60.2.1,())) (q92_2 d)) a).1 (nth (U.jd (U.jg q92_0 fun(z61:ShD×ShD×Unit)=>(U.js z61.1 z61.2.1,())) (q92_2 d)) (a:Int).toNat).2.2.2.2.1.toNat).length+[(nth (U.jd (U.jg q92_0 fun(z62:ShD×ShD×Unit)=>(U.js z62.1 z62.2.1,())) (q92_2 d)) (a:Int).toNat).2.2.2.1].length)*8<=140737488355328/\(some ((q92_3 d),d.1.2.2.2.2.2.2.2.2.1,(U.zN (q92_1 d) (U.jd (U.jg q92_0 fun(z63:ShD×ShD×Unit)=>(U.js z63.1 z63.2.1,())) (q92_2 d)) a).1,(U.zN (q92_1 d) (U.jd (U.jg q92_0 fun(z64:ShD×ShD×Unit)=>(U.js z64.1 z64.2.1,())) (q92_2 d)) a).2,())).isSome=true/\U.jqg (U.ro (some ((q92_3 d),d.1.2.2.2.2.2.2.2.2.1,(U.zN (q92_1 d) (U.jd (U.jg q92_0 fun(z65:ShD×ShD×Unit)=>(U.js z65.1 z65.2.1,())) (q92_2 d)) a).1,(U.zN (q92_1 d) (U.jd (U.jg q92_0 fun(z66:ShD×ShD×Unit)=>(U.js z66.1 z66.2.1,())) (q92_2 d)) a).2,())))/\U.joN (U.rd (U.ro (some ((q92_3 d),d.1.2.2.2.2.2.2.2.2.1,(U.zN (q92_1 d) (U.jd (U.jg q92_0 fun(z67:ShD×ShD×Unit)=>(U.js z67.1 z67.2.1,())) (q92_2 d)) a).1,(U.zN (q92_1 d) (U.jd (U.jg q92_0 fun(z68:ShD×ShD×Unit)=>(U.js z68.1 z68.2.1,())) (q92_2 d)) a).2,())))) (nth (U.jd (U.jg q92_0 fun(z69:ShD×ShD×Unit)=>(U.js z69.1 z69.2.1,())) (q92_2 d)) (a:Int).toNat).2.2.2.2.1/\U.jib (U.rd (U.ro (some ((q92_3 d),d.1.2.2.2.2.2.2.2.2.1,(U.zN (q92_1 d) (U.jd (U.jg q92_0 fun(z70:ShD×ShD×Unit)=>(U.js z70.1 z70.2.1,())) (q92_2 d)) a).1,(U.zN (q92_1 d) (U.jd (U.jg q92_0 fun(z71:ShD×ShD×Unit)=>(U.js z71.1 z71.2.1,())) (q92_2 d)) a).2,())))) (nth (U.zN (q92_1 d) (U.jd (U.jg q92_0 fun(z72:ShD×ShD×Unit)=>(U.js z72.1 z72.2.1,())) (q92_2 d)) a).1 (nth (U.jd (U.jg q92_0 fun(z73:ShD×ShD×Unit)=>(U.js z73.1 z73.2.1,())) (q92_2 d)) (a:Int).toNat).2.2.2.2.1.toNat++[(nth (U.jd (U.jg q92_0 fun(z74:ShD×ShD×Unit)=>(U.js z74.1 z74.2.1,())) (q92_2 d)) (a:Int).toNat).2.2.2.1])/\(U.jaf (U.ro (some ((q92_3 d),d.1.2.2.2.2.2.2.2.2.1,(U.zN (q92_1 d) (U.jd (U.jg q92_0 fun(z75:ShD×ShD×Unit)=>(U.js z75.1 z75.2.1,())) (q92_2 d)) a).1,(U.zN (q92_1 d) (U.jd (U.jg q92_0 fun(z76:ShD×ShD×Unit)=>(U.js z76.1 z76.2.1,())) (q92_2 d)) a).2,()))) (nth (U.jd (U.jg q92_0 fun(z77:ShD×ShD×Unit)=>(U.js z77.1 z77.2.1,())) (q92_2 d)) (a:Int).toNat).2.2.2.2.1 (nth (U.zN (q92_1 d) (U.jd (U.jg q92_0 fun(z78:ShD×ShD×Unit)=>(U.js z78.1 z78.2.1,())) (q92_2 d)) a).1 (nth (U.jd (U.jg q92_0 fun(z79:ShD×ShD×Unit)=>(U.js z79.1 z79.2.1,())) (q92_2 d)) (a:Int).toNat).2.2.2.2.1.toNat++[(nth (U.jd (U.jg q92_0 fun(z80:ShD×ShD×Unit)=>(U.js z80.1 z80.2.1,())) (q92_2 d)) (a:Int).toNat).2.2.2.1])=true->(0:Int)<=(nth (U.jd (U.jg q92_0 fun(z81:ShD×ShD×Unit)=>(U.js z81.1 z81.2.1,())) (q92_2 d)) (a:Int).toNat).2.2.2.2.1/\(nth (U.jd (U.jg q92_0 fun(z82:ShD×ShD×Unit)=>(U.js z82.1 z82.2.1,())) (q92_2 d)) (a:Int).toNat).2.2.2.2.1<(↑(U.zN (q92_1 d) (U.jd (U.jg q92_0 fun(z83:ShD×ShD×Unit)=>(U.js z83.1 z83.2.1,())) (q92_2 d)) a).1.length:Int)/\jw ((a:Int)+1)/\∃(b:Nat),(((a:Int)+1=(b:Int)/\True)/\(U.zN (q92_1 d) (U.jd (U.jg q92_0 fun(z84:ShD×ShD×Unit)=>(U.js z84.1 z84.2.1,())) (q92_2 d)) a).2=(U.zN (q92_1 d) (U.jd (U.jg q92_0 fun(z85:ShD×ShD×Unit)=>(U.js z85.1 z85.2.1,())) (q92_2 d)) b).2/\(U.zN (q92_1 d) (U.jd (U.jg q92_0 fun(z86:ShD×ShD×Unit)=>(U.js z86.1 z86.2.1,())) (q92_2 d)) a).1.set (nth (U.jd (U.jg q92_0 fun(z87:ShD×ShD×Unit)=>(U.js z87.1 z87.2.1,())) (q92_2 d)) (a:Int).toNat).2.2.2.2.1.toNat (nth (U.zN (q92_1 d) (U.jd (U.jg q92_0 fun(z88:ShD×ShD×Unit)=>(U.js z88.1 z88.2.1,())) (q92_2 d)) a).1 (nth (U.jd (U.jg q92_0 fun(z89:ShD×ShD×Unit)=>(U.js z89.1 z89.2.1,())) (q92_2 d)) (a:Int).toNat).2.2.2.2.1.toNat++[(nth (U.jd (U.jg q92_0 fun(z90:ShD×ShD×Unit)=>(U.js z90.1 z90.2.1,())) (q92_2 d)) (a:Int).toNat).2.2.2.1])=(U.zN (q92_1 d) (U.jd (U.jg q92_0 fun(z91:ShD×ShD×Unit)=>(U.js z91.1 z91.2.1,())) (q92_2 d)) b).1/\True)/\(b<=(U.jd (U.jg q92_0 fun(z92:ShD×ShD×Unit)=>(U.js z92.1 z92.2.1,())) (q92_2 d)).length/\U.yF (q92_1 d) (U.jd (U.jg q92_0 fun(z93:ShD×ShD×Unit)=>(U.js z93.1 z93.2.1,())) (q92_2 d)) b (U.zN (q92_1 d) (U.jd (U.jg q92_0 fun(z94:ShD×ShD×Unit)=>(U.js z94.1 z94.2.1,())) (q92_2 d)) b))/\(U.jd (U.jg q92_0 fun(z95:ShD×ShD×Unit)=>(U.js z95.1 z95.2.1,())) (q92_2 d)).length-b<(U.jd (U.jg q92_0 fun(z96:ShD×ShD×Unit)=>(U.js z96.1 z96.2.1,())) (q92_2 d)).length-a)/\(U.jaf (U.ro (some ((q92_3 d),d.1.2.2.2.2.2.2.2.2.1,(U.zN (q92_1 d) (U.jd (U.jg q92_0 fun(z97:ShD×ShD×Unit)=>(U.js z97.1 z97.2.1,())) (q92_2 d)) a).1,(U.zN (q92_1 d) (U.jd (U.jg q92_0 fun(z98:ShD×ShD×Unit)=>(U.js z98.1 z98.2.1,())) (q92_2 d)) a).2,()))) (nth (U.jd (U.jg q92_0 fun(z99:ShD×ShD×Unit)=>(U.js z99.1 z99.2.1,())) (q92_2 d)) (a:Int).toNat).2.2.2.2.1 (nth (U.zN (q92_1 d) (U.jd (U.jg q92_0 fun(c:ShD×ShD×Unit)=>(U.js c.1 c.2.1,())) (q92_2 d)) a).1 (nth (U.jd (U.jg q92_0 fun(e:ShD×ShD×Unit)=>(U.js e.1 e.2.1,())) (q92_2 d)) (a:Int).toNat).2.2.2.2.1.toNat++[(nth (U.jd (U.jg q92_0 fun(f:ShD×ShD×Unit)=>(U.js f.1 f.2.1,())) (q92_2 d)) (a:Int).toNat).2.2.2.1])=false->((U.zN (q92_1 d) (U.jd (U.jg q92_0 fun(g:ShD×ShD×Unit)=>(U.js g.1 g.2.1,())) (q92_2 d)) a).2.length+[(nth (U.jd (U.jg q92_0 fun(h:ShD×ShD×Unit)=>(U.js h.1 h.2.1,())) (q92_2 d)) (a:Int).toNat).1].length)*8<=140737488355328/\jw ((a:Int)+1)/\∃(b:Nat),(((a:Int)+1=(b:Int)/\True)/\(U.zN (q92_1 d) (U.jd (U.jg q92_0 fun(i:ShD×ShD×Unit)=>(U.js i.1 i.2.1,())) (q92_2 d)) a).1=(U.zN (q92_1 d) (U.jd (U.jg q92_0 fun(j:ShD×ShD×Unit)=>(U.js j.1 j.2.1,())) (q92_2 d)) b).1/\(d.1.1=d.1.1/\d.1.2.1=d.1.2.1/\d.1.2.2.1=d.1.2.2.1/\d.1.2.2.2.1=d.1.2.2.2.1/\d.1.2.2.2.2.1=d.1.2.2.2.2.1/\d.1.2.2.2.2.2.1=d.1.2.2.2.2.2.1/\d.1.2.2.2.2.2.2.1=d.1.2.2.2.2.2.2.1/\d.1.2.2.2.2.2.2.2.1=d.1.2.2.2.2.2.2.2.1/\True/\True/\True/\True)/\(U.zN (q92_1 d) (U.jd (U.jg q92_0 fun(k:ShD×ShD×Unit)=>(U.js k.1 k.2.1,())) (q92_2 d)) a).2++[(nth (U.jd (U.jg q92_0 fun(l:ShD×ShD×Unit)=>(U.js l.1 l.2.1,())) (q92_2 d)) (a:Int).toNat).1]=(U.zN (q92_1 d) (U.jd (U.jg q92_0 fun(m:ShD×ShD×Unit)=>(U.js m.1 m.2.1,())) (q92_2 d)) b).2/\True)/\(b<=(U.jd (U.jg q92_0 fun(n:ShD×ShD×Unit)=>(U.js n.1 n.2.1,())) (q92_2 d)).length/\U.yF (q92_1 d) (U.jd (U.jg q92_0 fun(o:ShD×ShD×Unit)=>(U.js o.1 o.2.1,())) (q92_2 d)) b (U.zN (q92_1 d) (U.jd (U.jg q92_0 fun(p:ShD×ShD×Unit)=>(U.js p.1 p.2.1,())) (q92_2 d)) b))/\(U.jd (U.jg q92_0 fun(q:ShD×ShD×Unit)=>(U.js q.1 q.2.1,())) (q92_2 d)).length-b<(U.jd (U.jg q92_0 fun(r:ShD×ShD×Unit)=>(U.js r.1 r.2.1,())) (q92_2 d)).length-a)))/\(decide ((a:Int)<(↑(U.jd (U.jg q92_0 fun(s:ShD×ShD×Unit)=>(U.js s.1 s.2.1,())) (q92_2 d)).length:Int))=false->()=()/\((d.1.1,d.1.2.1,d.1.2.2.1,d.1.2.2.2.1,d.1.2.2.2.2.1,d.1.2.2.2.2.2.1,d.1.2.2.2.2.2.2.1,d.1.2.2.2.2.2.2.2.1,d.1.2.2.2.2.2.2.2.2.1,(U.zN (q92_1 d) (U.jd (U.jg q92_0 fun(t:ShD×ShD×Unit)=>(U.js t.1 t.2.1,())) (q92_2 d)) a).1,U.je5 (U.zN (q92_1 d) (U.jd (U.jg q92_0 fun(u:ShD×ShD×Unit)=>(U.js u.1 u.2.1,())) (q92_2 d)) a).2,()),())=(U.jio d.1 (U.vo (U.kM d.1)),()))))
end Go.X
