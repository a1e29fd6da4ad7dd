/-
  Part 5 of the road: a checked reading of bodies, and what the functions on it do (T L BT BS NL DF RC FX A1 P1 A2 P2 A4 P4 A5 P5 A3 P6 CM MP O1 B1 P7 IS B2 P8 B3 P9 DI B4).
-/
import Derived.Test.YtphbhcmpebmadaaGreatDoorK04
import Derived.Test.YtphbhcmpebmadaaGreatDoorProg
import Derived.KernelRfl
import Derived.Shelf.SlSortCmp.WholeK
import Derived.Shelf.Sort.Plain
namespace Go.X
open Go.Proofs
abbrev bT:=true
abbrev bF:=false
abbrev vO:Value:=.int .i64 0
abbrev qy0:Ty:=.ptr (.uint .u8)
abbrev qy1:Ty:=.st [.int,.int]
abbrev qy2:Ty:=.ptr (.uint .u64)
abbrev qy3:Ty:=.slice (.slice .int)
abbrev qy4:Ty:=.st [.int,.int,.bool]
abbrev qy5:Ty:=.slice qy1
abbrev qy6:Ty:=.slice qy4
abbrev qy7:Ty:=.st [.int,.int,.bool,.uint .u8]
abbrev qy8:Ty:=.st [.int,.int,.int,.int,.int]
abbrev qy9:Ty:=.slice qy5
abbrev qy10:Ty:=.st [.int,.int,.int,.int,.int,.int]
abbrev qy11:Ty:=.slice qy8
abbrev qy12:Ty:=.slice qy10
abbrev qy13:Ty:=.slice qy11
abbrev qy14:Ty:=.st [.slice .int,.int,.int,.slice .int,.bool,.int]
abbrev qy15:Ty:=.map qy1 qy8
abbrev qy16:Ty:=.st [qy10,.int,.int,.int]
abbrev qy17:Ty:=.slice qy14
abbrev qy18:Ty:=.slice qy16
abbrev qy19:Ty:=.st [.int,qy17,qy6]
abbrev qy20:Ty:=.st [qy19,qy10,qy4]
abbrev qy21:Ty:=.ptr qy20
abbrev qy22:Ty:=.st [qy19,qy9,qy18,.int,.int,qy11]
abbrev qy23:Ty:=.slice qy22
abbrev qy24:Ty:=.st [qy22,.slice .int,qy3,.slice .int]
abbrev qy25:Ty:=.ptr qy24
abbrev qy26:Ty:=.st [qy25,qy3,.slice .int,.slice .int,.int,.bool]
abbrev qy27:Ty:=.ptr qy26
def rr (i:Nat)(t:Ty)(n:Nat)(a:Bool)(f:List (Nat×Nat))(s:Bool)(e b:Nat)(z:List Value)(c m:Bool)(k:Nat)(q:Bool):TI:=⟨i,t,n,a,f,s,e,b,z,c,m,k,q,false,false,false⟩
def rf (i:Nat):TI:=⟨i,.unit,1,false,[],false,0,8,[.nilFunc],false,false,0,false,false,false,true⟩
def rq (i:Nat):TI:=⟨i,.unit,1,false,[],false,0,8,[.pointer none],false,false,0,false,false,true,false⟩
def ti:List TI:=[
 rf 1,
 rr 2 .int 1 bF [] bF 0 8 [vO] bF bF 0 bT,
 rr 3 .int 1 bF [] bF 0 8 [vO] bF bF 0 bT,
 rr 4 .bool 1 bF [] bF 0 1 [.bool false] bT bF 0 bF,
 rr 5 (.uint .u8) 1 bF [] bF 0 1 [.int .u8 0] bF bF 0 bF,
 rr 6 (.uint .u8) 1 bF [] bF 0 1 [.int .u8 0] bF bF 0 bF,
 rr 7 qy7 4 bT [(0,2),(1,3),(2,4),(3,6)] bF 0 24 [vO,vO,.bool false,.int .u8 0] bT bF 0 bT,
 rr 8 qy7 4 bT [(0,2),(1,3),(2,4),(3,6)] bF 0 24 [vO,vO,.bool false,.int .u8 0] bT bF 0 bT,
 rr 12 (.uint .u64) 1 bF [] bF 0 8 [.int .u64 0] bF bF 0 bF,
 rq 15,
 rq 16,
 rq 17,
 rr 18 .unit 1 bT [(0,17)] bF 0 8 [.pointer none] bF bF 0 bF,
 rr 19 .unit 1 bT [(0,17)] bF 0 8 [.pointer none] bF bF 0 bF,
 rr 21 (.uint .i32) 1 bF [] bF 0 4 [.int .i32 0] bF bF 0 bF,
 rr 22 qy17 1 bF [] bT 92 24 [.slice none 0 0] bF bF 0 bF,
 rr 23 qy6 1 bF [] bT 116 24 [.slice none 0 0] bF bF 0 bF,
 rr 24 qy19 3 bT [(0,3),(1,22),(2,23)] bF 0 56 [vO,.slice none 0 0,.slice none 0 0] bF bF 0 bF,
 rr 25 qy19 3 bT [(0,3),(1,22),(2,23)] bF 0 56 [vO,.slice none 0 0,.slice none 0 0] bF bF 0 bF,
 rr 26 qy9 1 bF [] bT 37 24 [.slice none 0 0] bF bF 0 bF,
 rr 27 qy18 1 bF [] bT 49 24 [.slice none 0 0] bF bF 0 bF,
 rr 28 qy11 1 bF [] bT 55 24 [.slice none 0 0] bF bF 0 bF,
 rr 29 qy22 8 bT [(0,25),(3,26),(4,27),(5,3),(6,3),(7,28)] bF 0 144 [vO,.slice none 0 0,.slice none 0 0,.slice none 0 0,.slice none 0 0,vO,vO,.slice none 0 0] bF bF 0 bF,
 rr 30 qy22 8 bT [(0,25),(3,26),(4,27),(5,3),(6,3),(7,28)] bF 0 144 [vO,.slice none 0 0,.slice none 0 0,.slice none 0 0,.slice none 0 0,vO,vO,.slice none 0 0] bF bF 0 bF,
 rr 31 qy3 1 bF [] bT 34 24 [.slice none 0 0] bF bF 0 bF,
 rf 32,
 rf 33,
 rr 34 (.slice .int) 1 bF [] bT 3 24 [.slice none 0 0] bF bF 0 bF,
 rr 35 qy1 2 bT [(0,3),(1,3)] bF 0 16 [vO,vO] bT bF 0 bT,
 rr 36 qy1 2 bT [(0,3),(1,3)] bF 0 16 [vO,vO] bT bF 0 bT,
 rr 37 qy5 1 bF [] bT 36 24 [.slice none 0 0] bF bF 0 bF,
 rr 38 .int 1 bF [] bF 0 8 [vO] bF bF 0 bT,
 rf 40,
 rf 42,
 rf 43,
 rf 44,
 rf 45,
 rr 46 qy10 6 bT [(0,3),(1,3),(2,3),(3,3),(4,3),(5,3)] bF 0 48 [vO,vO,vO,vO,vO,vO] bT bF 0 bT,
 rr 47 qy10 6 bT [(0,3),(1,3),(2,3),(3,3),(4,3),(5,3)] bF 0 48 [vO,vO,vO,vO,vO,vO] bT bF 0 bT,
 rr 48 qy16 9 bT [(0,47),(6,3),(7,3),(8,3)] bF 0 72 [vO,vO,vO,vO,vO,vO,vO,vO,vO] bT bF 0 bT,
 rr 49 qy16 9 bT [(0,47),(6,3),(7,3),(8,3)] bF 0 72 [vO,vO,vO,vO,vO,vO,vO,vO,vO] bT bF 0 bT,
 rf 50,
 rf 51,
 rf 52,
 rf 53,
 rr 54 qy8 5 bT [(0,3),(1,3),(2,3),(3,3),(4,3)] bF 0 40 [vO,vO,vO,vO,vO] bT bF 0 bT,
 rr 55 qy8 5 bT [(0,3),(1,3),(2,3),(3,3),(4,3)] bF 0 40 [vO,vO,vO,vO,vO] bT bF 0 bT,
 rf 56,
 rf 57,
 rf 58,
 rf 59,
 rf 60,
 rf 62,
 rf 63,
 rr 64 (.uint .u64) 1 bF [] bF 0 8 [.int .u64 0] bF bF 0 bF,
 rf 65,
 rf 66,
 rf 67,
 rf 68,
 rf 70,
 rf 71,
 rf 72,
 rf 73,
 {rr 74 qy25 1 bF [] bF 0 8 [.pointer none] bF bF 0 bF with pt:=true},
 rf 76,
 rf 77,
 rf 78,
 rf 79,
 rf 80,
 rr 81 qy24 11 bT [(0,30),(8,34),(9,31),(10,34)] bF 0 216 [vO,.slice none 0 0,.slice none 0 0,.slice none 0 0,.slice none 0 0,vO,vO,.slice none 0 0,.slice none 0 0,.slice none 0 0,.slice none 0 0] bF bF 0 bF,
 rr 82 qy24 11 bT [(0,30),(8,34),(9,31),(10,34)] bF 0 216 [vO,.slice none 0 0,.slice none 0 0,.slice none 0 0,.slice none 0 0,vO,vO,.slice none 0 0,.slice none 0 0,.slice none 0 0,.slice none 0 0] bF bF 0 bF,
 rf 83,
 rf 84,
 {rr 85 qy27 1 bF [] bF 0 8 [.pointer none] bF bF 0 bF with pt:=true},
 rr 86 qy26 6 bT [(0,74),(1,31),(2,34),(3,34),(4,3),(5,4)] bF 0 96 [.pointer none,.slice none 0 0,.slice none 0 0,.slice none 0 0,vO,.bool false] bF bF 0 bF,
 rr 87 qy26 6 bT [(0,74),(1,31),(2,34),(3,34),(4,3),(5,4)] bF 0 96 [.pointer none,.slice none 0 0,.slice none 0 0,.slice none 0 0,vO,.bool false] bF bF 0 bF,
 rf 88,
 rf 89,
 rf 90,
 rr 91 qy14 6 bT [(0,34),(1,3),(2,3),(3,34),(4,4),(5,3)] bF 0 80 [.slice none 0 0,vO,vO,.slice none 0 0,.bool false,vO] bF bF 0 bF,
 rr 92 qy14 6 bT [(0,34),(1,3),(2,3),(3,34),(4,4),(5,3)] bF 0 80 [.slice none 0 0,vO,vO,.slice none 0 0,.bool false,vO] bF bF 0 bF,
 rf 93,
 rr 94 qy23 1 bF [] bT 30 24 [.slice none 0 0] bF bF 0 bF,
 rf 95,
 rf 96,
 rf 97,
 rf 98,
 rf 99,
 rf 100,
 rr 101 qy12 1 bF [] bT 47 24 [.slice none 0 0] bF bF 0 bF,
 rf 103,
 rf 104,
 rf 105,
 rf 106,
 rf 107,
 rf 108,
 rf 109,
 rf 110,
 rf 112,
 rf 113,
 rf 114,
 rr 115 qy4 3 bT [(0,3),(1,3),(2,4)] bF 0 24 [vO,vO,.bool false] bT bF 0 bT,
 rr 116 qy4 3 bT [(0,3),(1,3),(2,4)] bF 0 24 [vO,vO,.bool false] bT bF 0 bT,
 rf 117,
 rf 118,
 rf 119,
 rr 120 qy13 1 bF [] bT 28 24 [.slice none 0 0] bF bF 0 bF,
 rf 121,
 rr 122 (.map .int .int) 1 bF [] bF 3 8 [.map none] bF bT 3 bF,
 rf 123,
 rf 124,
 rf 125,
 rf 126,
 rf 127,
 rf 128,
 {rr 129 qy21 1 bF [] bF 0 8 [.pointer none] bF bF 0 bF with pt:=true},
 rf 131,
 rr 132 (.uint .u64) 1 bF [] bF 0 8 [.int .u64 0] bF bF 0 bF,
 rf 133,
 rr 134 qy15 1 bF [] bF 55 8 [.map none] bF bT 136 bF,
 rr 135 qy1 2 bT [(0,3),(1,3)] bF 0 16 [vO,vO] bT bF 0 bT,
 rr 136 qy1 2 bT [(0,3),(1,3)] bF 0 16 [vO,vO] bT bF 0 bT,
 rf 137,
 rf 138,
 rf 139,
 rf 140,
 rf 141,
 rf 142,
 rf 143,
 rf 144,
 rf 145,
 rf 146,
 rf 147,
 rf 148,
 rf 149,
 rf 150,
 rf 151,
 rf 152,
 rf 153,
 rf 154,
 rr 155 qy20 12 bT [(0,25),(3,47),(9,116)] bF 0 128 [vO,.slice none 0 0,.slice none 0 0,vO,vO,vO,vO,vO,vO,vO,vO,.bool false] bF bF 0 bF,
 rr 156 qy20 12 bT [(0,25),(3,47),(9,116)] bF 0 128 [vO,.slice none 0 0,.slice none 0 0,vO,vO,vO,vO,vO,vO,vO,vO,.bool false] bF bF 0 bF,
 rf 157,
 rf 158,
 rf 159,
 rf 160,
 rf 161,
 rf 162,
 rf 163,
 rf 164,
 rf 165,
 rf 166,
 rf 167,
 rf 168,
 rf 169,
 rf 170,
 rr 171 .int 1 bF [] bF 0 8 [vO] bF bF 0 bT,
 rf 173,
 rf 174,
 rf 175,
 rf 177,
 rf 178,
 rr 179 (.uint .u32) 1 bF [] bF 0 4 [.int .u32 0] bF bF 0 bF,
 rf 180,
 rr 181 (.uint .u64) 1 bF [] bF 0 8 [.int .u64 0] bF bF 0 bF,
 rf 182,
 rf 183,
 rf 184,
 rf 185,
 rf 186,
 rf 187,
 rf 188,
 rf 189,
 rf 190,
 rf 191,
 rf 192,
 rf 193,
 rf 194,
 rf 195,
 rf 196,
 rr 197 (.uint .u64) 1 bF [] bF 0 8 [.int .u64 0] bF bF 0 bF,
 rf 198,
 rf 199,
 rf 200,
 {rr 201 (.ptr .int) 1 bF [] bF 0 8 [.pointer none] bF bF 0 bF with pt:=true},
 rf 202,
 rf 203,
 rf 204,
 rf 205,
 rf 206,
 rf 208,
 rf 209,
 rf 210,
 {rr 211 qy2 1 bF [] bF 0 8 [.pointer none] bF bF 0 bF with pt:=true},
 rf 213,
 rf 214,
 rf 215,
 rf 217,
 rf 219,
 rf 220,
 rr 224 .unit 0 bT [(0,223)] bF 0 0 [] bF bF 0 bF,
 rr 225 .unit 0 bT [(0,223)] bF 0 0 [] bF bF 0 bF,
 rr 226 (.uint .u8) 1 bF [] bF 0 1 [.int .u8 0] bF bF 0 bF,
 rr 227 (.uint .u8) 1 bF [] bF 0 1 [.int .u8 0] bF bF 0 bF,
 rf 228,
 {rr 229 qy0 1 bF [] bF 0 8 [.pointer none] bF bF 0 bF with pt:=true},
 rr 230 (.uint .i32) 1 bF [] bF 0 4 [.int .i32 0] bF bF 0 bF,
 rr 231 (.uint .i32) 1 bF [] bF 0 4 [.int .i32 0] bF bF 0 bF,
 rr 232 .unit 11 bT [(0,12),(1,12),(2,179),(3,226),(4,5),(5,5),(6,227),(7,228),(8,229),(9,230),(10,231)] bF 0 48 [.int .u64 0,.int .u64 0,.int .u32 0,.int .u8 0,.int .u8 0,.int .u8 0,.int .u8 0,.nilFunc,.pointer none,.int .i32 0,.int .i32 0] bF bF 0 bF,
 rr 233 .unit 11 bT [(0,12),(1,12),(2,179),(3,226),(4,5),(5,5),(6,227),(7,228),(8,229),(9,230),(10,231)] bF 0 48 [.int .u64 0,.int .u64 0,.int .u32 0,.int .u8 0,.int .u8 0,.int .u8 0,.int .u8 0,.nilFunc,.pointer none,.int .i32 0,.int .i32 0] bF bF 0 bF,
 rf 234,
 rf 236]
def strs:List Nat:=[9,10,11]
noncomputable abbrev PR:Program:=Tryz.prog
theorem jzZ:ti.all (jCf PR)=true:=by kernel_rfl
def jAA (P:Program) (k:Nat):Bool:=match P.underlying k with|some .string=>true|_=>false
theorem jwq {P:Program} {l:List Nat} (a:l.all (jAA P)=true) (T:Nat) (h:vD l T=true):P.underlying T=some .string:=by
 have:=jDO.1 a T ((zX _ _).1 h);unfold jAA at this
 split at this
 .assumption
 .cases this
theorem jz3:strs.all (jAA PR)=true:=by kernel_rfl
theorem ju1:∀T,vD strs T=true->PR.underlying T=some .string:=jwq jz3
theorem mixed:PR.follows .mixedOrders=true:=by kernel_rfl
def jCF (n:Nat) (fs:List (Nat×jX)):Ctx:=⟨n,ti,fs,fun _ _ _ _=>none,strs,false⟩
def ctx (n:Nat) (fs:List (Nat×jX)) (os:List (Nat×zH)):Ctx:=⟨n,ti,fs,jCv (jCF n fs) os,strs,false⟩
def jdZ:List (Nat×jX)->Prop
 |[]=>True
 |p::r=>(p.2.own=false->zn PR p.1 p.2)/\jdZ r
def ym:List (Nat×zH)->Prop
 |[]=>True
 |p::r=>wY PR p.1 p.2/\ym r
theorem jb5:∀{l:List (Nat×jX)},jdZ l->∀f s,jt l f=some s->s.own=false->zn PR f s
 |[],_,f,s,h,_=>by simp[jt] at h
 | (j,x)::r,hk,f,s,h,ho=>by
  simp only[jt] at h
  cases a:Nat.beq j f with
  |true=>rw[a] at h;simp at h;subst h;have:=jDa a;subst this;exact hk.1 ho
  |false=>rw[a] at h;exact jb5 hk.2 f s h ho
theorem jdu:∀{l:List (Nat×zH)},ym l->∀f s,jt l f=some s->wY PR f s
 |[],_,f,s,h=>by simp[jt] at h
 | (j,x)::r,hk,f,s,h=>by
  simp only[jt] at h
  cases a:Nat.beq j f with
  |true=>rw[a] at h;simp at h;subst h;have:=jDa a;subst this;exact hk.1
  |false=>rw[a] at h;exact jdu hk.2 f s h
theorem jxb {n:Nat} {fs:List (Nat×jX)} (h:jdZ fs):(jCF n fs).ok PR:=
 ⟨juV jzZ,jb5 h,ju1,rfl,fun _ _ _ _ _ a=>by cases a⟩
theorem jjE {n:Nat} {fs:List (Nat×jX)} {os:List (Nat×zH)} (h:jdZ fs) (b:ym os):(ctx n fs os).ok PR:=
 ⟨juV jzZ,jb5 h,ju1,rfl,fun f dst σ svs out a=>jtH (jxb h) (jdu b) a⟩
def gd (t:Ty) (σ:St) (s:Nat):t.Data:=match σ.get s with
 | .dat a d=>(match zc a t d with|some x=>x|none=>t.dflt)
 |_=>t.dflt
def gr (t:Ty) (σ:St) (o:Nat):List t.Data:=match σ.obj o with
 |some (.row _ a _ _ l)=>(match zc (.slice a) (.slice t) l with|some l'=>l'|none=>[])
 |_=>[]
def gfn (ps rs:List Ty) (σ:St) (s:Nat):(Ty.st ps).Data->(Ty.st rs).Data:=match σ.get s with
 | .fn a b _ F=>if h:a=ps/\b=rs then h.1▸h.2▸F else fun _=>(Ty.st rs).dflt
 |_=>fun _=>(Ty.st rs).dflt
def zD (fn:Func):Code:=match fn.body with|some c=>c|none=> .skip
theorem jCT {f:Nat} {fn:Func} {n:Nat} {fs:List (Nat×jX)} {os:List (Nat×zH)} {s:jX} {A:Ann} (h:jBX (ctx n fs os) A fn (zD fn) s) (d:PR.funcs[f]? =some fn) (c:fn.body=some (zD fn)) (a:(fn.name== "runtime.NumGoroutine")=false)
 (e:fn.ntmps=n) (b:Nat.ble s.ps.length n=true) (hk:jdZ fs) (g:ym os):zn PR f s:=
 jCB (jjE hk g) mixed d c a e (jDp b) A h
theorem jAu {f:Nat} {fn:Func} {n:Nat} {fs:List (Nat×jX)} {os:List (Nat×zH)} {s:zH} {A:Ann} (h:jtG (ctx n fs os) A fn (zD fn) s) (e:PR.funcs[f]? =some fn) (d:fn.body=some (zD fn)) (a:(fn.name== "runtime.NumGoroutine")=false)
 (g:fn.ntmps=n) (c:Nat.ble s.ps.length n=true) (b:wG (jqS s.ps 0)=true) (hk:jdZ fs) (i:ym os):wY PR f s:=
 jBB (jjE hk i) mixed e d a g (jDp c) b A h
theorem kcC {f:Nat} {s:jX} {fs:List (Nat×jX)} (h:zn PR f s) (hk:jdZ fs):jdZ ((f,s)::fs):=⟨fun _=>h,hk⟩
theorem kcN:jdZ []:=trivial
theorem koC {f:Nat} {s:zH} {fs:List (Nat×zH)} (h:wY PR f s) (hk:ym fs):ym ((f,s)::fs):=⟨h,hk⟩
theorem koN:ym []:=trivial
theorem wO (A:Ann) {f:Nat} {fn:Func} {fs:List (Nat×jX)} {os:List (Nat×zH)} {s:jX} {P:Prop} (h:P) (e:PR.funcs[f]? =some fn) (hk:jdZ fs) (g:ym os) (d:jBX (ctx fn.ntmps fs os) A fn (zD fn) s=P:=by kernel_rfl) (c:fn.body=some (zD fn):=by kernel_rfl) (a:(fn.name== "runtime.NumGoroutine")=false:=by kernel_rfl) (b:Nat.ble s.ps.length fn.ntmps=true:=by kernel_rfl):zn PR f s:=jCT (d.mpr h) e c a rfl b hk g
theorem jT {f:Nat} {fn:Func} {fs:List (Nat×jX)} {os:List (Nat×zH)} {s:jX} {P:Prop} (h:P) (e:PR.funcs[f]? =some fn) (hk:jdZ fs) (g:ym os) (d:jBX (ctx fn.ntmps fs os) (fun _=>none) fn (zD fn) s=P:=by kernel_rfl) (c:fn.body=some (zD fn):=by kernel_rfl) (a:(fn.name== "runtime.NumGoroutine")=false:=by kernel_rfl) (b:Nat.ble s.ps.length fn.ntmps=true:=by kernel_rfl):zn PR f s:=jCT (d.mpr h) e c a rfl b hk g
theorem jgA (A:Ann) {f:Nat} {fn:Func} {fs:List (Nat×jX)} {os:List (Nat×zH)} {s:zH} {P:Prop} (h:P) (g:PR.funcs[f]? =some fn) (hk:jdZ fs) (i:ym os) (e:jtG (ctx fn.ntmps fs os) A fn (zD fn) s=P:=by kernel_rfl) (d:fn.body=some (zD fn):=by kernel_rfl) (a:(fn.name== "runtime.NumGoroutine")=false:=by kernel_rfl) (c:Nat.ble s.ps.length fn.ntmps=true:=by kernel_rfl) (b:wG (jqS s.ps 0)=true:=by kernel_rfl):wY PR f s:=jAu (e.mpr h) g d a rfl c b hk i
theorem jk3 {f:Nat} {fn:Func} {fs:List (Nat×jX)} {os:List (Nat×zH)} {s:zH} {P:Prop} (h:P) (g:PR.funcs[f]? =some fn) (hk:jdZ fs) (i:ym os) (e:jtG (ctx fn.ntmps fs os) (fun _=>none) fn (zD fn) s=P:=by kernel_rfl) (d:fn.body=some (zD fn):=by kernel_rfl) (a:(fn.name== "runtime.NumGoroutine")=false:=by kernel_rfl) (c:Nat.ble s.ps.length fn.ntmps=true:=by kernel_rfl) (b:wG (jqS s.ps 0)=true:=by kernel_rfl):wY PR f s:=jAu (e.mpr h) g d a rfl c b hk i
def jpH (n:Nat) (fs:List (Nat×jX)) (os:List (Nat×zH)) (cs:List (Nat×jd0)) (vs:List (Nat×jm5)):Ctx:=⟨n,ti,fs,jCp (jCF n fs) os cs vs,strs,false⟩
def jxD:List (Nat×jd0)->Prop
 |[]=>True
 |p::r=>jpE PR p.1 p.2/\jxD r
def jxC:List (Nat×jm5)->Prop
 |[]=>True
 |p::r=>VOK PR p.1 p.2/\jxC r
theorem ji3:∀{l:List (Nat×jd0)},jxD l->∀f s,jt l f=some s->jpE PR f s
 |[],_,f,s,h=>by simp[jt] at h
 | (j,x)::r,hk,f,s,h=>by
  simp only[jt] at h
  cases a:Nat.beq j f with
  |true=>rw[a] at h;simp at h;subst h;have:=jDa a;subst this;exact hk.1
  |false=>rw[a] at h;exact ji3 hk.2 f s h
theorem ji2:∀{l:List (Nat×jm5)},jxC l->∀f s,jt l f=some s->VOK PR f s
 |[],_,f,s,h=>by simp[jt] at h
 | (j,x)::r,hk,f,s,h=>by
  simp only[jt] at h
  cases a:Nat.beq j f with
  |true=>rw[a] at h;simp at h;subst h;have:=jDa a;subst this;exact hk.1
  |false=>rw[a] at h;exact ji2 hk.2 f s h
theorem jry {n:Nat} {fs:List (Nat×jX)} {os:List (Nat×zH)} {cs:List (Nat×jd0)} {vs:List (Nat×jm5)} (h:jdZ fs) (c:ym os) (a:jxD cs) (d:jxC vs):(jpH n fs os cs vs).ok PR:=
 ⟨juV jzZ,jb5 h,ju1,rfl,fun f dst σ svs out b=>jsY (jxb h) (jdu c) (ji3 a) (ji2 d) b⟩
theorem jBF {f:Nat} {fn:Func} {n:Nat} {fs:List (Nat×jX)} {os:List (Nat×zH)} {s:jd0} {A:Ann} (h:jxk (ctx n fs os) A fn (zD fn) s) (d:PR.funcs[f]? =some fn) (c:fn.body=some (zD fn)) (a:(fn.name== "runtime.NumGoroutine")=false)
 (e:fn.ntmps=n) (b:Nat.ble s.ps.length n=true) (hk:jdZ fs) (g:ym os):jpE PR f s:=
 jB7 (jjE hk g) mixed d c a e (jDp b) A h
end Go.X
namespace Go.X
namespace L
theorem nth_lt {α:Type} [Inhabited α] {l:List α} {i:Nat} (h:i<l.length):nth l i=l[i]:=by
 unfold nth;simp[h]
theorem take_succ {α:Type} [Inhabited α] {l:List α} {i:Nat} (h:i<l.length):l.take (i+1)=l.take i++[nth l i]:=by
 rw[nth_lt h];exact List.take_succ_eq_append_getElem h
theorem mem_nth {α:Type} [Inhabited α] {l:List α} {i:Nat} (h:i<l.length):nth l i∈l:=by
 rw[nth_lt h];exact List.getElem_mem h
theorem mem_iff {α:Type} [Inhabited α] {l:List α} {x:α}:x∈l↔∃i,i<l.length/\nth l i=x:=by
 constructor
 .intro h;obtain⟨i,hi,e⟩:=List.getElem_of_mem h;exact⟨i,hi,by rw[nth_lt hi,e]⟩
 .rintro⟨i,hi,rfl⟩;exact mem_nth hi
theorem all_false {α:Type} [Inhabited α] {l:List α} {i:Nat} {p:α->Bool} (h:i<l.length) (a:p (nth l i)=false):l.all p=false:=by
 rw[jEi];exact⟨nth l i,mem_nth h,by simp[a]⟩
theorem in64 {x:Int} (a: -9223372036854775808<=x) (b:x<=9223372036854775807):jA x:=⟨a,b⟩
end L
end Go.X
namespace Go.X
namespace BT
theorem two_nat (k:Nat):(2:Int)^k=((2^k:Nat):Int):=by simp
theorem div_nat (n k:Nat):(n:Int)/2^k=((n/2^k:Nat):Int):=by simp
theorem pow63 {k:Nat} (h:k<=62):2^k<2^63:=Nat.pow_lt_pow_right (by decide) (by omega)
theorem ofInt_nat {n:Nat} (a:n<2^63):(BitVec.ofInt 64 (n:Int)).toNat=n:=by
 simp only[BitVec.toNat_ofInt];omega
theorem wrap_nat {n:Nat} (h:n<2^63):IntKind.i64.wrap (n:Int)=(n:Int):=by
 unfold IntKind.wrap;simp[IntKind.signed,IntKind.bits];omega
theorem wrapU_nat {n:Nat} (h:n<2^63):IntKind.u64.wrap (n:Int)=(n:Int):=by
 unfold IntKind.wrap;simp[IntKind.signed,IntKind.bits];omega
theorem band_nat {a b:Nat} (c:a<2^63) (d:b<2^63):vf (a:Int) (b:Int)=((a&&&b:Nat):Int):=by
 unfold vf;rw[BitVec.toNat_and,ofInt_nat c,ofInt_nat d];exact wrap_nat (Nat.lt_of_le_of_lt Nat.and_le_left c)
theorem uand_nat {a b:Nat} (c:a<2^63) (d:b<2^63):wn (a:Int) (b:Int)=((a&&&b:Nat):Int):=by
 unfold wn;rw[BitVec.toNat_and,ofInt_nat c,ofInt_nat d];exact wrapU_nat (Nat.lt_of_le_of_lt Nat.and_le_left c)
theorem bor_nat {a b:Nat} (c:a<2^63) (d:b<2^63):bor (a:Int) (b:Int)=((a|||b:Nat):Int):=by
 unfold bor;rw[BitVec.toNat_or,ofInt_nat c,ofInt_nat d,wrap_nat (Nat.or_lt_two_pow c d)]
def Set' (s:Int):Prop:=0<=s/\s<2^62
def has (s:Int) (p:Nat):Bool:=s.toNat.testBit p
theorem nat_of {s:Int} (h:Set' s):∃n:Nat,s=(n:Int)/\n<2^62:=⟨s.toNat,by unfold Set' at h;omega,by unfold Set' at h;omega⟩
theorem lt63 {n:Nat} (h:n<2^62):n<2^63:=by omega
theorem has_shr {s:Int} (h:Set' s) (p:Nat):decide (vf (s/2^p) 1=1)=has s p:=by
 obtain⟨n,rfl,b⟩:=nat_of h;unfold has;rw[jDm,div_nat];have a:n/2^p<2^63:=Nat.lt_of_le_of_lt (Nat.div_le_self _ _) (lt63 b);rw[show(1:Int)=((1:Nat):Int) from rfl,band_nat a (by decide),Nat.and_one_is_mod,Nat.testBit_eq_decide_div_mod_eq];exact decide_eq_decide.2 ⟨fun h=>by omega,fun h=>by omega⟩
theorem bit_num {s:Int} (h:Set' s) (p:Nat):vf (s/2^p) 1=if has s p=true then 1 else 0:=by
 obtain⟨n,rfl,b⟩:=nat_of h;unfold has;rw[jDm,div_nat];have a:n/2^p<2^63:=Nat.lt_of_le_of_lt (Nat.div_le_self _ _) (lt63 b);rw[show(1:Int)=((1:Nat):Int) from rfl,band_nat a (by decide),Nat.and_one_is_mod,Nat.testBit_eq_decide_div_mod_eq]
 split
 .rename_i h;have:=of_decide_eq_true h;omega
 .rename_i h;have:¬(n/2^p%2=1):=fun e=>h (decide_eq_true e);omega
theorem has_zero (p:Nat):has 0 p=false:=by unfold has;simp
theorem has_two (k p:Nat):has ((2:Int)^k) p=decide (k=p):=by
 unfold has;rw[two_nat,jDm,Nat.testBit_two_pow]
theorem has_bor {a b:Int} (c:Set' a) (d:Set' b) (p:Nat):has (bor a b) p=(has a p||has b p):=by
 obtain⟨n,rfl,f⟩:=nat_of c;obtain⟨m,rfl,e⟩:=nat_of d;unfold has;rw[bor_nat (lt63 f) (lt63 e)];simp only[jDm,Nat.testBit_or]
theorem bor_set {a b:Int} (e:Set' a) (f:Set' b):Set' (bor a b):=by
 obtain⟨n,rfl,d⟩:=nat_of e;obtain⟨m,rfl,c⟩:=nat_of f;rw[bor_nat (lt63 d) (lt63 c)];have:n|||m<2^62:=Nat.or_lt_two_pow d c;unfold Set';omega
theorem zero_set:Set' 0:=by unfold Set';omega
theorem two_set {k:Nat} (h:k<=61):Set' ((2:Int)^k):=by
 rw[two_nat];have:2^k<2^62:=Nat.pow_lt_pow_right (by decide) (by omega);obtain⟨q,a⟩:∃q,q=2^k:=⟨_,rfl⟩;rw[<-a] at this⊢;unfold Set';omega
theorem ext {a b:Int} (c:Set' a) (d:Set' b) (h:∀p,has a p=has b p):a=b:=by
 obtain⟨n,rfl,f⟩:=nat_of c;obtain⟨m,rfl,e⟩:=nat_of d;have:n=m:=Nat.eq_of_testBit_eq (fun i=>by have:=h i;unfold has at this;simpa using this);rw[this]
theorem has_lt {s:Int} {k:Nat} (c:0<=s) (h:s<2^k) {p:Nat} (b:has s p=true):p<k:=by
 obtain⟨n,rfl⟩:∃n:Nat,s=(n:Int):=⟨s.toNat,by omega⟩;rw[two_nat] at h;unfold has at b;rw[jDm] at b;have d:=Nat.ge_two_pow_of_testBit b;rcases Nat.lt_or_ge p k with a|a
 .exact a
 .have:=Nat.pow_le_pow_right (n:=2) (by decide) a;omega
theorem or_two {n p:Nat} (h:n.testBit p=false):n+2^p=n|||2^p:=by
 have g:n=2^(p+1)*(n/2^(p+1))+n%2^(p+1):=(Nat.div_add_mod _ _).symm;have c:n%2^(p+1)<2^p:=by
  have b:n%2^(p+1)<2^(p+1):=Nat.mod_lt _ (Nat.pow_pos (by decide));rcases Nat.lt_or_ge (n%2^(p+1)) (2^p) with a|a
  .exact a
  .exfalso;have:(n%2^(p+1)).testBit p=true:=Nat.testBit_of_two_pow_le_and_two_pow_add_one_gt a b;rw[Nat.testBit_mod_two_pow,h] at this;simp at this
 apply Nat.eq_of_testBit_eq;intro i;rw[Nat.testBit_or,Nat.testBit_two_pow];have e:n+2^p=2^(p+1)*(n/2^(p+1))+(2^p+n%2^(p+1)):=(by omega);have j:2^p+n%2^(p+1)<2^(p+1):=jD8 (Nat.add_lt_add_left c _) (by rw[Nat.pow_succ];omega);rw[e,Nat.testBit_two_pow_mul_add _ j]
 conv=>rhs;rw[g,Nat.testBit_two_pow_mul_add _ (Nat.mod_lt _ (Nat.pow_pos (by decide)))]
 have f:2^p+n%2^(p+1)=2^p*1+n%2^(p+1):=(by omega);by_cases hi:i<p+1
 .rw[if_pos hi,if_pos hi,f,Nat.testBit_two_pow_mul_add _ c];by_cases d:i<p
  .rw[if_pos d,decide_eq_false (by omega),Bool.or_false]
  .have:i=p:=(by omega);subst this;rw[if_neg d,Nat.sub_self,decide_eq_true rfl,Bool.or_true];simp
 .rw[if_neg hi,if_neg hi,decide_eq_false (by omega),Bool.or_false]
theorem add_two {s:Int} (b:Set' s) {p:Nat} (c:p<=61) (h:has s p=false):s+2^p=bor s (2^p):=by
 obtain⟨n,rfl,a⟩:=nat_of b;rw[two_nat,bor_nat (lt63 a) (pow63 (by omega))];unfold has at h;rw[jDm] at h;rw[<-or_two h];omega
def size (s:Int):Int:=(((List.range 62).countP (fun p=>has s p):Nat):Int)
theorem size_zero:size 0=0:=by
 unfold size;have:(List.range 62).countP (fun p=>has 0 p)=0:=jEt.2 (fun p _=>by rw[has_zero];simp);rw[this];rfl
theorem size_le (s:Int):0<=size s/\size s<=62:=by
 have:=List.countP_le_length (l:=List.range 62) (p:=fun p=>has s p);rw[List.length_range] at this;unfold size;omega
theorem has_half {s:Int} (a:Set' s) (p:Nat):has (s/2) p=has s (p+1):=by
 obtain⟨n,rfl,b⟩:=nat_of a;unfold has;have:((n:Int)/2).toNat=n/2:=(by omega);rw[this,jDm,Nat.testBit_succ]
theorem size_half {s:Int} (d:Set' s):size s=s%2+size (s/2):=by
 obtain⟨n,e,i⟩:=nat_of d;have b:has (s/2) 61=false:=by
  rw[has_half d];subst e;unfold has;rw[jDm];exact Nat.testBit_lt_two_pow i
 have j:(List.range 62)=0::(List.range 61).map (·+1):=by
  rw[show(62:Nat)=61+1 from rfl,List.range_succ_eq_map]
 have c:(List.range 62)=List.range 61++[61]:=(by rw[show(62:Nat)=61+1 from rfl,jDW]);have f:(has s 0=true)↔s%2=1:=by
  subst e;unfold has;rw[jDm,Nat.testBit_zero];simp only[decide_eq_true_eq];omega
 have g:(List.range 62).countP (fun p=>has (s/2) p)=(List.range 61).countP (fun p=>has s (p+1)):=by
  rw[c,jEB];simp only[jEy,List.countP_nil,b];simp only[has_half d];simp
 unfold size;rw[g]
 conv=>lhs;rw[j]
 rw[jEy,List.countP_map];have h:((fun p=>has s p)∘fun(x:Nat)=>x+1)=fun p=>has s (p+1):=rfl
 rw[h];by_cases a:has s 0=true
 .rw[if_pos a];have:=f.1 a;omega
 .rw[if_neg a];have:¬s%2=1:=fun e=>a (f.2 e);omega
end BT
end Go.X
namespace Go.X
namespace BT
theorem uor_nat {a b:Nat} (c:a<2^63) (d:b<2^63):uor (a:Int) (b:Int)=((a|||b:Nat):Int):=by
 unfold uor;rw[BitVec.toNat_or,ofInt_nat c,ofInt_nat d,wrapU_nat (Nat.or_lt_two_pow c d)]
theorem has_uor {a b:Int} (c:Set' a) (d:Set' b) (p:Nat):has (uor a b) p=(has a p||has b p):=by
 obtain⟨n,rfl,f⟩:=nat_of c;obtain⟨m,rfl,e⟩:=nat_of d;unfold has;rw[uor_nat (lt63 f) (lt63 e)];simp only[jDm,Nat.testBit_or]
theorem uor_set {a b:Int} (e:Set' a) (f:Set' b):Set' (uor a b):=by
 obtain⟨n,rfl,d⟩:=nat_of e;obtain⟨m,rfl,c⟩:=nat_of f;rw[uor_nat (lt63 d) (lt63 c)];have:n|||m<2^62:=Nat.or_lt_two_pow d c;unfold Set';omega
theorem pred_odd (k:Nat):(2*k+1)&&&(2*k+1-1)=2*k:=by
 apply Nat.eq_of_testBit_eq;intro i;rw[Nat.testBit_and,Nat.add_sub_cancel];cases i with
 |zero=>simp
 |succ i=>
  rw[Nat.testBit_succ,Nat.testBit_succ];have:(2*k+1)/2=k:=(by omega);have a:(2*k)/2=k:=(by omega);rw[this,a,Bool.and_self]
theorem pred_even (k:Nat) (h:k≠0):(2*k)&&&(2*k-1)=2*(k&&&(k-1)):=by
 apply Nat.eq_of_testBit_eq;intro i;rw[Nat.testBit_and];cases i with
 |zero=>simp
 |succ i=>
  rw[Nat.testBit_succ,Nat.testBit_succ,Nat.testBit_succ];have:(2*k)/2=k:=(by omega);have a:(2*k-1)/2=k-1:=(by omega);have b:(2*(k&&&(k-1)))/2=k&&&(k-1):=(by omega);rw[this,a,b,Nat.testBit_and]
theorem size_dbl {k:Nat} (h:k<2^61):size ((2*k:Nat):Int)=size (k:Int):=by
 rw[size_half (s:=((2*k:Nat):Int)) (by unfold Set';omega)];have a:((2*k:Nat):Int)%2=0:=(by omega);have b:((2*k:Nat):Int)/2=(k:Int):=(by omega);rw[a,b];omega
theorem size_odd {k:Nat} (h:k<2^61):size ((2*k+1:Nat):Int)=1+size (k:Int):=by
 rw[size_half (s:=((2*k+1:Nat):Int)) (by unfold Set';omega)];have a:((2*k+1:Nat):Int)%2=1:=(by omega);have b:((2*k+1:Nat):Int)/2=(k:Int):=(by omega);rw[a,b]
theorem pred_nat:∀(n:Nat),n≠0->n<2^62->(n&&&(n-1))<n/\size ((n&&&(n-1):Nat):Int)+1=size (n:Int)
 |n,b,d=>by
  rcases Nat.mod_two_eq_zero_or_one n with e|e
  .obtain⟨k,rfl⟩:∃k,n=2*k:=⟨n/2,by omega⟩
   have hk:k≠0:=by omega
   obtain⟨c,a⟩:=pred_nat k hk (by omega)
   rw[pred_even k hk]
   exact⟨by omega,by rw[size_dbl (by omega),size_dbl (by omega)];exact a⟩
  .obtain⟨k,rfl⟩:∃k,n=2*k+1:=⟨n/2,by omega⟩
   rw[pred_odd]
   exact⟨by omega,by rw[size_dbl (by omega),size_odd (by omega)];omega⟩
termination_by n=>n
theorem pred {s:Int} (d:Set' s) (h:s≠0):Set' (wn s (s-1))/\wn s (s-1)<s/\size (wn s (s-1))+1=size s:=by
 obtain⟨n,rfl,a⟩:=nat_of d;have b:n≠0:=(by omega);have e:(n:Int)-1=((n-1:Nat):Int):=(by omega);rw[e,uand_nat (lt63 a) (by omega)];obtain⟨f,c⟩:=pred_nat n b a;exact⟨by unfold Set';omega,by omega,c⟩
end BT
end Go.X
namespace Go.X
namespace U
def gu {α:Type} (eq:α->α->Bool) (p:α):List α->List α
 |[]=>[]
 |y::r=>if eq y p=true then gu eq y r else y::gu eq y r
def qS {α:Type} (eq:α->α->Bool):List α->List α
 |[]=>[]
 |x::r=>x::gu eq x r
def jAB {α:Type} (eq:α->α->Bool) (l:List α) (i:Nat):Prop:=1<=i/\i<=l.length/\qS eq (l.take i)=l.take i
def jcF {α:Type} (eq:α->α->Bool) (l:List α) (n:Nat):Int:=((qS eq (l.take n)).length:Int)
def jqZ {α:Type} (eq:α->α->Bool) (l:List α) (i k:Nat) (r:List α):Prop:=1<=k/\i+k<=l.length/\r.length=l.length/\qS eq (l.take (i+k))=r.take (qS eq (l.take (i+k))).length/\r.drop (i+k-1)=l.drop (i+k-1)/\(qS eq (l.take (i+k))).length<i+k
end U
namespace L
theorem nodup_len {α:Type}:∀(a b:List α),a.Nodup->(∀x∈a,x∈b)->a.length<=b.length
 |[],_,_,_=>by simp
 |x::a,b,hn,h=>by
  obtain⟨e,f,rfl⟩:=List.append_of_mem (h x (by simp))
  rw[jD0] at hn
  have:=nodup_len a (e++f) hn.2 (fun y d=>by
   have:=h y (by simp[d])
   rw[jDk,jDd] at this
   rw[jDk]
   rcases this with c|c|c
   .exact .inl c
   .subst c;exact absurd d hn.1
   .exact .inr c)
  simp at this⊢
  omega
theorem perm_of_nodup {α:Type} [DecidableEq α]:∀{a b:List α},a.Nodup->b.Nodup->(∀n,n∈a↔n∈b)->a.Perm b
 |[],b,_,_,h=>by
  have:b=[]:=by
   cases b with
   |nil=>rfl
   |cons x r=>exact absurd ((h x).2 (by simp)) (by simp)
  rw[this]
 |x::r,b,ha,hb,h=>by
  have i:x∈b:=(h x).1 (by simp);have f:=List.perm_cons_erase i;refine(List.Perm.cons x (perm_of_nodup (jD0.1 ha).2 (hb.erase x) (fun n=> ?_))).trans f.symm;rw[hb.mem_erase_iff];constructor
  .intro c;exact⟨fun e=>by subst e;exact(jD0.1 ha).1 c,(h n).1 (jDj _ c)⟩
  .rintro⟨d,c⟩;rcases jDd.1 ((h n).2 c) with e|g
   .exact absurd e d
   .exact g
theorem nodup_inj {α d:Type} {f:α->d}:∀{l:List α},(l.map f).Nodup->∀{x y:α},x∈l->y∈l->f x=f y->x=y
 |[],_,_,_,h,_,_=>by simp at h
 |a::r,hn,x,y,hx,hy,e=>by
  simp only[jEb,jD0] at hn
  rcases jDd.1 hx with rfl|c
  .rcases jDd.1 hy with rfl|b
   .rfl
   .exact absurd (jDP.2 ⟨y,b,e.symm⟩) hn.1
  .rcases jDd.1 hy with rfl|b
   .exact absurd (jDP.2 ⟨x,c,e⟩) hn.1
   .exact nodup_inj hn.2 c b e
theorem nth_take {α:Type} [Inhabited α] {l:List α} {i n:Nat} (h:i<n):nth (l.take n) i=nth l i:=by
 unfold nth;rw[jDJ,jDJ,jDw h]
theorem nth_drop {α:Type} [Inhabited α] {l r:List α} {a n:Nat} (h:l.drop a=r.drop a) (b:a<=n):nth l n=nth r n:=by
 have e:=congrArg (fun x=>x[n-a]?) h;simp only[jDN] at e;rw[show a+(n-a)=n by omega] at e;unfold nth;rw[jDJ,jDJ,e]
theorem nth_map {α a:Type} [Inhabited α] [Inhabited a] {f:α->a} {l:List α} {i:Nat} (h:i<l.length):nth (l.map f) i=f (nth l i):=by
 rw[nth_lt (by simpa using h),nth_lt h];simp
theorem nth_set {α:Type} [Inhabited α] {l:List α} {i j:Nat} {x:α} (h:i<l.length):nth (l.set i x) j=if i=j then x else nth l j:=by
 unfold nth;rw[jDJ,jDJ,List.getElem?_set]
 split
 .rename_i e;subst e;simp[h]
 .rfl
theorem nth_rep {α:Type} [Inhabited α] {n i:Nat} {x:α} (h:i<n):nth (List.replicate n x) i=x:=by
 unfold nth;rw[jDJ,List.getElem?_replicate,if_pos h];rfl
theorem ext_nth {α:Type} [Inhabited α] {a b:List α} (h:a.length=b.length) (d:∀i,i<a.length->nth a i=nth b i):a=b:=by
 apply List.ext_getElem h;intro i c e;rw[<-nth_lt c,<-nth_lt e];exact d i c
theorem range_map_nth {α:Type} [Inhabited α] (l:List α):(List.range l.length).map (nth l)=l:=by
 apply ext_nth
 .simp
 .intro i hi;rw[nth_map (by simpa using hi)];congr 1;rw[nth_lt (by simpa using hi)];simp
section
variable {α:Type} [Inhabited α] {eq:α->α->Bool}
theorem compT_snoc (y:α):∀(r:List α) (p:α),U.gu eq p (r++[y])=U.gu eq p r++(if eq y (nth (p::r) r.length)=true then[] else[y])
 |[],p=>rfl
 |z::r,p=>by
  have e:nth (p::z::r) (z::r).length=nth (z::r) r.length:=rfl
  rw[e]
  simp only[jDz,U.gu]
  split
  .exact compT_snoc y r z
  .rw[compT_snoc y r z];rfl
theorem comp_snoc (y:α) {l:List α} (h:l≠[]):U.qS eq (l++[y])=U.qS eq l++(if eq y (nth l (l.length-1))=true then[] else[y]):=by
 cases l with
 |nil=>exact absurd rfl h
 |cons x r=>
  show x::U.gu eq x (r++[y])=_;rw[compT_snoc];have:(x::r).length-1=r.length:=(by simp);rw[this];rfl
theorem comp_take {l:List α} {n:Nat} (b:1<=n) (a:n<l.length):U.qS eq (l.take (n+1))=U.qS eq (l.take n)++(if eq (nth l n) (nth l (n-1))=true then[] else[nth l n]):=by
 rw[L.take_succ a,comp_snoc]
 .have e:(l.take n).length-1=n-1:=(by rw[jDG];omega);rw[e,nth_take (by omega)]
 .intro e;have:=congrArg List.length e;rw[jDG,jDZ] at this;omega
end
theorem comp_short {α:Type} {eq:α->α->Bool} {l:List α} (h:l.length<2):U.qS eq l=l:=by
 match l,h with
 |[],_=>rfl
 |[x],_=>rfl
theorem comp_len {α:Type} {eq:α->α->Bool} (l:List α):(U.qS eq l).length<=l.length:=by
 have:∀(r:List α) (p:α),(U.gu eq p r).length<=r.length:=by
  intro r
  induction r with
  |nil=>intro p;simp[U.gu]
  |cons y r a=>
   intro p;unfold U.gu
   split
   .have:=a y;simp;omega
   .have:=a y;simp;omega
 cases l with
 |nil=>simp[U.qS]
 |cons x r=>have:=this r x;simp[U.qS];omega
theorem inv9_next {α:Type} [Inhabited α] {eq:α->α->Bool} {l r:List α} {i k:Nat} (hi:1<=i) (h:U.jqZ eq l i k r) (g:i+k<l.length):
 (eq (nth r (i+k)) (nth r (i+k-1))=false->U.jcF eq l (i+(k+1))=U.jcF eq l (i+k)+1/\U.jqZ eq l i (k+1) (r.set (U.jcF eq l (i+k)).toNat (nth r (i+k))))/\
 (eq (nth r (i+k)) (nth r (i+k-1))=true->U.jcF eq l (i+(k+1))=U.jcF eq l (i+k)/\U.jqZ eq l i (k+1) r):=by
 obtain⟨t,u,j,d,e,q⟩:=h;have o:nth r (i+k)=nth l (i+k):=nth_drop e (by omega);have p:nth r (i+k-1)=nth l (i+k-1):=nth_drop e (by omega);have a:=comp_take (eq:=eq) (l:=l) (n:=i+k) (by omega) g;rw[show i+k+1=i+(k+1) by omega] at a;have m:r.drop (i+k)=l.drop (i+k):=by
  have:=congrArg (List.drop 1) e;rw[List.drop_drop,List.drop_drop,show i+k-1+1=i+k by omega] at this;exact this
 rw[o,p];obtain⟨c,b⟩:∃c,c=U.qS eq (l.take (i+k)):=⟨_,rfl⟩;rw[<-b] at a d q;have s:(U.jcF eq l (i+k))=(c.length:Int):=(by unfold U.jcF;rw[<-b]);rw[s];refine⟨fun f=> ?_,fun f=> ?_⟩
 .rw[if_neg (by rw[f];simp)] at a;refine⟨by unfold U.jcF;rw[a];simp,by omega,by omega,by simpa using j,?_,?_,?_⟩
  .rw[a];simp only[jDm,jDA,jDL,jDZ];rw[List.take_add_one,List.getElem?_set_self (by omega)];rw[List.take_set_of_le (by omega),<-d];rfl
  .rw[show i+(k+1)-1=i+k by omega];simp only[jDm];rw[List.drop_set_of_lt (by omega)];exact m
  .rw[a];simp;omega
 .rw[if_pos f,jDF] at a;refine⟨by unfold U.jcF;rw[a],by omega,by omega,j,?_,?_,?_⟩
  .rw[a];exact d
  .rw[show i+(k+1)-1=i+k by omega];exact m
  .rw[a];omega
theorem compT_sub {α:Type} {eq:α->α->Bool}:∀(r:List α) (p x:α),x∈U.gu eq p r->x∈r
 |[],_,_,h=>by simp[U.gu] at h
 |y::r,p,x,h=>by
  unfold U.gu at h
  split at h
  .exact jDj _ (compT_sub r y x h)
  .rcases jDd.1 h with rfl|h
   .simp
   .exact jDj _ (compT_sub r y x h)
theorem comp_sub {α:Type} {eq:α->α->Bool} {l:List α} {x:α} (h:x∈U.qS eq l):x∈l:=by
 cases l with
 |nil=>simp[U.qS] at h
 |cons y r=>
  unfold U.qS at h;rcases jDd.1 h with rfl|h
  .simp
  .exact jDj _ (compT_sub r y x h)
theorem compT_mem {α:Type} [DecidableEq α]:∀(r:List α) (p x:α),x∈r->x=p\/x∈U.gu (fun a b=>decide (a=b)) p r
 |y::r,p,x,h=>by
  unfold U.gu
  rcases jDd.1 h with rfl|h
  .by_cases e:x=p
   .exact .inl e
   .rw[if_neg (by simpa using e)];right;simp
  .rcases compT_mem r y x h with rfl|c
   .by_cases e:x=p
    .exact .inl e
    .rw[if_neg (by simpa using e)];right;simp
   .right
    split
    .exact c
    .exact jDj _ c
theorem comp_mem {α:Type} [DecidableEq α] {l:List α} {x:α}:x∈U.qS (fun a b=>decide (a=b)) l↔x∈l:=by
 refine⟨comp_sub,fun h=> ?_⟩;cases l with
 |nil=>simp at h
 |cons y r=>
  unfold U.qS;rcases jDd.1 h with rfl|h
  .simp
  .rcases compT_mem r y x h with rfl|c
   .simp
   .exact jDj _ c
theorem comp_asc {α:Type} [DecidableEq α] {lt:α->α->Bool}:∀{l:List α},kx lt l->juD lt l->(U.qS (fun a b=>decide (a=b)) l).Pairwise (fun a b=>lt a b=true):=by
 have i:∀(r:List α) (p:α),kx lt (p::r)->juD lt (p::r)->(p::U.gu (fun a b=>decide (a=b)) p r).Pairwise (fun a b=>lt a b=true):=by
  intro r
  induction r with
  |nil=>intro p _ _;exact List.pairwise_singleton _ _
  |cons y r n=>
   intro p f j;have d:=jDX.1 j;have k:kx lt (y::r):=f.sub (fun z c=>jDj _ c);have hi:=n y k d.2;unfold U.gu;by_cases e:y=p
   .rw[if_pos (by simpa using e)];subst e;exact hi
   .rw[if_neg (by simpa using e)];refine jDX.2 ⟨fun z c=> ?_,hi⟩;have g:lt p y=true:=by
     cases h:lt p y with
     |true=>rfl
     |false=>exact absurd (f.total p y (by simp) (by simp) h (d.1 y (by simp))).symm e
    rcases jDd.1 c with rfl|c
    .exact g
    .have m:=compT_sub r y z c;exact f.trans p y z (by simp) (by simp) (by simp[m]) g ((jDX.1 hi).1 z c)
 intro l f j;cases l with
 |nil=>exact List.Pairwise.nil
 |cons p r=>exact i r p f j
theorem asc_nodup {α:Type} {lt:α->α->Bool} {l:List α} (hi:∀x,lt x x=false) (h:l.Pairwise (fun a b=>lt a b=true)):l.Nodup:=
 h.imp (fun{a b} h e=>by subst e;rw[hi] at h;cases h)
theorem filter_take {α:Type} [Inhabited α] {p:α->Bool} {l:List α} {i:Nat} (h:i<l.length):(l.take (i+1)).filter p=(l.take i).filter p++(if p (nth l i)=true then[nth l i] else[]):=by
 rw[take_succ h,List.filter_append];congr 1;by_cases e:p (nth l i)=true<;>simp[e]
theorem range_filter_succ {p:Nat->Bool} {n:Nat}:(List.range (n+1)).filter p=(List.range n).filter p++(if p n=true then[n] else[]):=by
 rw[jDW,List.filter_append];congr 1;by_cases e:p n=true<;>simp[e]
end L
end Go.X
namespace Go.X
abbrev tSp:Ty:= .st [.int,.int]
abbrev tPe:Ty:= .st [.slice .int,.int,.int,.slice .int,.bool,.int]
abbrev tLw:Ty:= .st [.int,.int,.bool]
abbrev tCr:Ty:= .st [.int,.slice tPe,.slice tLw]
abbrev tJb:Ty:= .st [.int,.int,.int,.int,.int,.int]
abbrev tBk:Ty:= .st [tJb,.int,.int,.int]
abbrev tSh:Ty:= .st [.int,.int,.int,.int,.int]
abbrev tDy:Ty:= .st [tCr,.slice (.slice tSp),.slice tBk,.int,.int,.slice tSh]
abbrev SpD:Type:=Int×Int×Unit
abbrev PeD:Type:=List Int×Int×Int×List Int×Bool×Int×Unit
abbrev LwD:Type:=Int×Int×Bool×Unit
abbrev CrD:Type:=Int×List PeD×List LwD×Unit
abbrev JbD:Type:=Int×Int×Int×Int×Int×Int×Unit
abbrev BkD:Type:=JbD×Int×Int×Int×Unit
abbrev ShD:Type:=Int×Int×Int×Int×Int×Unit
abbrev DyD:Type:=CrD×List (List SpD)×List BkD×Int×Int×List ShD×Unit
namespace U
def lo (s:SpD):Int:=s.1
def hi (s:SpD):Int:=s.2.1
def ja (n a b:Int):Bool:=decide (a<=n)&&decide (n<=b)
def lv (p:PeD):List Int:=p.1
def fd (p:PeD):Int:=p.2.1
def cl (p:PeD):Int:=p.2.2.1
def wA (p:PeD):List Int:=p.2.2.2.1
def deaf (p:PeD):Bool:=p.2.2.2.2.1
def fe (p:PeD):Int:=p.2.2.2.2.2.1
def jCU (l:LwD):Int:=l.1
def jCy (l:LwD):Int:=l.2.1
def jC8 (l:LwD):Bool:=l.2.2.1
def la (c:CrD):Int:=c.1
def jl (c:CrD):List PeD:=c.2.1
def kN (c:CrD):List LwD:=c.2.2.1
def jAz (j:JbD):Int:=j.1
def jtP (j:JbD):Int:=j.2.1
def jBm (j:JbD):Int:=j.2.2.1
def jBl (j:JbD):Int:=j.2.2.2.1
def jBk (j:JbD):Int:=j.2.2.2.2.1
def jCz (j:JbD):Int:=j.2.2.2.2.2.1
def jfx (b:BkD):JbD:=b.1
def jhL (b:BkD):Int:=b.2.1
def gF (b:BkD):Int:=b.2.2.1
def jna (b:BkD):Int:=b.2.2.2.1
def wy (s:ShD):Int:=s.1
def jm9 (s:ShD):Int:=s.2.1
def jxZ (s:ShD):Int:=s.2.2.1
def jil (s:ShD):Int:=s.2.2.2.1
def vZ (s:ShD):Int:=s.2.2.2.2.1
def jj (d:DyD):CrD:=d.1
def jE (d:DyD):List (List SpD):=d.2.1
def jq (d:DyD):List BkD:=d.2.2.1
def jg7 (d:DyD):Int:=d.2.2.2.1
def jtM (d:DyD):Int:=d.2.2.2.2.1
def kg (d:DyD):List ShD:=d.2.2.2.2.2.1
def y4 (L:Int) (p:PeD):Bool:=decide (((lv p).length:Int)=L/\0<=fd p/\fd p<=255/\0<=cl p/\cl p<=255/\(wA p).length<=10/\0<=fe p/\fe p<=1000)&&((lv p).all (fun n=>ja n 0 5)&&(wA p).all (fun n=>ja n 0 99))
def y5 (l:LwD):Bool:=ja (jCU l) 1 5&&ja (jCy l) 1 8
def ju (c:CrD):Bool:=decide (2<=la c/\la c<=5/\(jl c).length<=8/\(kN c).length=4)&&((jl c).all (y4 (la c))&&(kN c).all y5)
def zB (c:CrD) (j:JbD):Bool:=decide (0<=jAz j/\jAz j<=la c-1/\0<=jtP j/\jtP j<=la c-1/\jAz j≠jtP j/\0<=jBm j/\jBm j<=99/\0<=jBl j/\jBl j<=7/\0<=jBk j/\jBk j<=3/\1<=jCz j/\jCz j<=8)
def zV (c:CrD) (j:JbD):Int:=if ju c=false then 30 else if zB c j=false then 31 else 0
def jdp (s:SpD):Bool:=decide (0<=lo s/\lo s<=hi s/\hi s<=300)
def qX (n:Nat) (r:List SpD):Bool:=decide (r.length=n)&&r.all jdp
def jcv (n:Nat) (b:BkD):Bool:=decide (0<=jhL b/\jhL b<=(n:Int)-1/\0<=gF b/\gF b<jna b/\jna b<=1440)
def jbu (nb a:Nat) (s:ShD):Bool:=decide (0<=wy s/\wy s<=99/\0<=jm9 s/\jm9 s<=9999/\1<=jxZ s/\jxZ s<=2/\0<=jil s/\jil s<=(nb:Int)-1/\0<=vZ s/\vZ s<=(a:Int)-1)
def zr (d:DyD):Bool:=decide ((jq d).length<=4/\1<=(jE d).length/\(jE d).length<=5/\0<=jg7 d/\jg7 d<=300/\0<=jtM d/\jtM d<=1440/\(kg d).length<=30)&&
 ((jE d).all (qX (jE d).length)&&((jq d).all (jcv (jE d).length)&&(kg d).all (jbu (jq d).length (jl (jj d)).length)))
def jjH (a b:ShD):Bool:=decide (wy a=wy b)&& !decide (a=b)
def jhK (l:List ShD) (i:Nat):Bool:=(l.take i).any (jjH (nth l i))
def wR (l:List ShD) (n:Nat):Bool:=(List.range n).any (jhK l)
def qZ (l:List ShD):Bool:=wR l l.length
def jwo (d:DyD):Bool:=(jq d).all (fun b=>zB (jj d) (jfx b))
def gE (d:DyD):Int:=if ju (jj d)=false then 30 else if jwo d=false then 31 else if zr d=false then 50 else if qZ (kg d)=true then 51 else 0
def jmR (l:List ShD) (i:Nat):Bool:= !((l.take i).any (fun x=>decide (x=nth l i)))
def jy5 (l:List ShD) (n m:Nat):List ShD:=((List.range n).filter (fun i=>decide (wy (nth l i)=(m:Int))&&jmR l i)).map (nth l)
def jw6 (l:List ShD) (n:Nat):List ShD:=(List.range n).flatMap (jy5 l l.length)
def jjC (l:List ShD):List ShD:=jw6 l 100
def juU (p:PeD) (a:Int):Bool:=(wA p).any (fun t=>decide (t=a))
def vH (s n:Int):Bool:=decide (vf (s/2^n.toNat) 1=1)
def jar (c:CrD) (j:JbD) (p:Int):Bool:= !(juU (nth (jl c) p.toNat) (jBm j))&&vH (fd (nth (jl c) p.toNat)) (jBl j)&&vH (cl (nth (jl c) p.toNat)) (jBk j)
def bk (d:DyD) (b:Int):BkD:=nth (jq d) b.toNat
def jAL (d:DyD) (a b:Int):Int:=hi (nth (nth (jE d) (jhL (bk d a)).toNat) (jhL (bk d b)).toNat)
def yk (d:DyD) (a b:Int):Bool:=decide (gF (bk d a)<gF (bk d b)\/(gF (bk d a)=gF (bk d b)/\a<b))
def kP (d:DyD) (a b:Int):Int:=gF (bk d b)-jna (bk d a)-jg7 d-jAL d a b
def ja5 (d:DyD) (a b:Int):Bool:=if yk d b a=true then decide (0<=kP d b a) else decide (0<=kP d a b)
def jmv (d:DyD) (l:List Int):Int:=(l.map (fun b=>jna (bk d b)-gF (bk d b))).foldl (·+·) 0
def jBx (d:DyD) (l:List Int):Bool:=(List.range l.length).all (fun i=>(l.take i).all (fun b=>ja5 d (nth l i) b))
def wT (d:DyD) (p:Int) (l:List Int):Bool:=l.all (fun b=>jar (jj d) (jfx (bk d b)) p)&&(jBx d l&&decide (jmv d l<=jtM d))
def wI (a b:ShD):Bool:=decide (jm9 b<jm9 a\/(jm9 a=jm9 b/\wy b<wy a))
def jhI (l:List ShD) (s:ShD):Bool:=decide (jxZ s=1)&& !(l.any (fun t=>decide (jil t=jil s)&&decide (vZ t=vZ s)&&wI t s))
def jA4 (a b:ShD):Bool:=wI b a
def jdk (t:List Int) (p:Int) (n:Nat):List Int:=((List.range n).filter (fun b=>vH (nth t b) p)).map (fun(b:Nat)=>(b:Int))
def on (t:List Int) (p:Int):List Int:=jdk t p t.length
def jbW (d:DyD) (x:List Int×List Int) (s:ShD):List Int×List Int:=
 if wT d (vZ s) (on x.1 (vZ s)++[jil s])=true then(x.1.set (jil s).toNat (nth x.1 (jil s).toNat+2^(vZ s).toNat),x.2) else(x.1,x.2++[wy s])
def jyu (c:CrD) (j:JbD):LwD:=nth (kN c) (jBk j).toNat
end U
end Go.X
namespace Go.X
inductive Rch (J:Nat->Nat->Bool) (n s:Nat):Nat->Prop where
 |base:Rch J n s s
 |step {a b:Nat}:Rch J n s a->b<n->J a b=true->Rch J n s b
namespace U
def jyP (J:Nat->Nat->Bool) (r a:Nat) (out:List Int) (b:Nat):List Int:=if nth out a=(r:Int)/\nth out b<0/\J a b=true then out.set b ((r:Int)+1) else out
def jCC (J:Nat->Nat->Bool) (r a:Nat) (out:List Int) (k:Nat):List Int:=(List.range k).foldl (jyP J r a) out
def jCD (J:Nat->Nat->Bool) (n r:Nat) (out:List Int) (k:Nat):List Int:=(List.range k).foldl (fun o a=>jCC J r a o n) out
def kS (n s:Nat):List Int:=(List.replicate n (-1:Int)).set s 0
def jBZ (J:Nat->Nat->Bool) (n s k:Nat):List Int:=(List.range k).foldl (fun o r=>jCD J n r o n) (kS n s)
def jfj (J:Nat->Nat->Bool) (q:Nat) (x:List Int×List Int) (b:Nat):List Int×List Int:=if nth x.1 b<0/\J q b=true then(x.1.set b (nth x.1 q+1),x.2++[(b:Int)]) else x
def jfk (J:Nat->Nat->Bool) (q:Nat) (x:List Int×List Int) (k:Nat):List Int×List Int:=(List.range k).foldl (jfj J q) x
def wU (J:Nat->Nat->Bool) (n:Nat) (x:List Int×List Int):List Int×List Int:=match x.2 with
 |[]=>x
 |q::_=>((jfk J q.toNat x n).1,(jfk J q.toNat x n).2.drop 1)
def qK (J:Nat->Nat->Bool) (n s:Nat):Nat->List Int×List Int
 |0=>(kS n s,[(s:Int)])
 |k+1=>wU J n (qK J n s k)
def bfs (J:Nat->Nat->Bool) (n s:Nat):List Int:=(qK J n s (n+1)).1
end U
theorem jju (n s:Nat):(U.kS n s).length=n:=by unfold U.kS;simp
theorem jjt {n s x:Nat} (a:s<n) (b:x<n):nth (U.kS n s) x=if s=x then 0 else-1:=by
 unfold U.kS;rw[L.nth_set (by simpa using a),L.nth_rep b]
structure jxE (J:Nat->Nat->Bool) (n s r a b:Nat) (out:List Int):Prop where
 len:out.length=n
 val:∀x,x<n->nth out x= -1\/(0<=nth out x/\nth out x<=(r:Int)+1)
 top:(a=0/\b=0)->∀x,x<n->nth out x<=(r:Int)
 zero:0<=nth out s
 rch:∀x,x<n->0<=nth out x->Rch J n s x
 lev:∀x,x<n->0<nth out x->∃y,y<n/\nth out y=nth out x-1
 cls:∀x y,x<n->y<n->0<=nth out x->(nth out x<(r:Int)\/(nth out x=(r:Int)/\(x<a\/(x=a/\y<b))))->J x y=true->0<=nth out y
theorem jwS {J:Nat->Nat->Bool} {n s r a b:Nat} {out:List Int} (B:s<n) (t:a<n) (u:b<n) (h:jxE J n s r a b out):jxE J n s r a (b+1) (U.jyP J r a out b):=by
 unfold U.jyP
 split
 .rename_i q;obtain⟨c1,c2,v⟩:=q;have p:b<out.length:=(by rw[h.len];exact u);have c:∀j,nth (out.set b ((r:Int)+1)) j=if b=j then(r:Int)+1 else nth out j:=fun j=>L.nth_set p
  have o:b≠a:=fun e=>by subst e;omega
  refine⟨by simpa using h.len,fun x g=> ?_,fun e=>by omega,?_,fun x g f=> ?_,fun x g f=> ?_,fun x y g k f d l=> ?_⟩
  .rw[c];split
   .right;omega
   .exact h.val x g
  .rw[c];split
   .omega
   .exact h.zero
  .rw[c] at f
   split at f
   .rename_i e;subst e;exact .step (h.rch a t (by omega)) u v
   .exact h.rch x g f
  .rw[c] at f⊢
   split at f
   .rename_i e;subst e;rw[if_pos rfl];exact⟨a,t,by rw[c,if_neg o];omega⟩
   .rename_i e;rw[if_neg e];obtain⟨y,k,w⟩:=h.lev x g f;refine⟨y,k,?_⟩;rw[c,if_neg (fun e=>by subst e;omega)];exact w
  .rw[c] at f d⊢
   split
   .omega
   .rename_i A
    split at f
    .rename_i e;rw[if_pos e] at d;omega
    .rename_i e;rw[if_neg e] at d;refine h.cls x y g k f ?_ l;rcases d with d|⟨d,i|⟨i,z⟩⟩
     .exact .inl d
     .exact .inr ⟨d,.inl i⟩
     .exact .inr ⟨d,.inr ⟨i,by omega⟩⟩
 .rename_i q;refine⟨h.len,h.val,fun e=>by omega,h.zero,h.rch,h.lev,fun x y g k f d l=> ?_⟩;rcases d with d|⟨d,i|⟨i,z⟩⟩
  .exact h.cls x y g k f (.inl d) l
  .exact h.cls x y g k f (.inr ⟨d,.inl i⟩) l
  .by_cases e:y=b
   .subst e;subst i;rcases Int.lt_or_le (nth out y) 0 with m|m
    .exact absurd ⟨d,m,l⟩ q
    .exact m
   .exact h.cls x y g k f (.inr ⟨d,.inr ⟨i,by omega⟩⟩) l
theorem jzD {J:Nat->Nat->Bool} {n s r a:Nat} {out:List Int} (c:s<n) (b:a<n) (h:jxE J n s r a 0 out):∀k,k<=n->jxE J n s r a k (U.jCC J r a out k)
 |0,_=>h
 |k+1,hk=>by
  have:=jwS c b (show k<n by omega) (jzD c b h k (by omega))
  unfold U.jCC at this⊢
  rw[jDW,jDI];exact this
theorem jAK {J:Nat->Nat->Bool} {n s r a:Nat} {out:List Int} (k:0<n) (h:jxE J n s r a n out):jxE J n s r (a+1) 0 out:=by
 refine⟨h.len,h.val,fun e=>by omega,h.zero,h.rch,h.lev,fun x y i c d b g=>h.cls x y i c d ?_ g⟩;rcases b with b|⟨b,f|⟨f,j⟩⟩
 .exact .inl b
 .by_cases e:x=a
  .exact .inr ⟨b,.inr ⟨e,c⟩⟩
  .exact .inr ⟨b,.inl (by omega)⟩
 .omega
theorem jzE {J:Nat->Nat->Bool} {n s r:Nat} {out:List Int} (a:s<n) (h:jxE J n s r 0 0 out):∀k,k<=n->jxE J n s r k 0 (U.jCD J n r out k)
 |0,_=>h
 |k+1,hk=>by
  have:=jAK (by omega) (jzD a (show k<n by omega) (jzE a h k (by omega)) n (jDf _))
  unfold U.jCD at this⊢
  rw[jDW,jDI];exact this
theorem jAJ {J:Nat->Nat->Bool} {n s r:Nat} {out:List Int} (h:jxE J n s r n 0 out):jxE J n s (r+1) 0 0 out:=by
 refine⟨h.len,fun x a=> ?_,fun _ x a=> ?_,h.zero,h.rch,h.lev,fun x y a j f b i=>h.cls x y a j f ?_ i⟩
 .rcases h.val x a with e|⟨c,d⟩
  .exact .inl e
  .exact .inr ⟨c,by omega⟩
 .rcases h.val x a with e|⟨c,d⟩<;>omega
 .rcases b with b|⟨b,g|⟨g,k⟩⟩
  .by_cases e:nth out x=(r:Int)
   .exact .inr ⟨e,.inl a⟩
   .exact .inl (by omega)
  .omega
  .omega
theorem jB0 {J:Nat->Nat->Bool} {n s:Nat} (c:s<n):∀k,jxE J n s k 0 0 (U.jBZ J n s k)
 |0=>by
  have hi:∀x,x<n->nth (U.jBZ J n s 0) x=if s=x then 0 else-1:=fun x a=>jjt c a
  refine⟨jju n s,fun x a=> ?_,fun _ x a=> ?_,by rw[hi s c,if_pos rfl];omega,fun x a b=> ?_,fun x a b=> ?_,fun x y a g b f d=> ?_⟩
  .rw[hi x a];split<;>simp
  .rw[hi x a];split<;>simp
  .rw[hi x a] at b
   split at b
   .rename_i e;subst e;exact .base
   .omega
  .rw[hi x a] at b;split at b<;>omega
  .omega
 |k+1=>by
  have:=jAJ (jzE c (jB0 (J:=J) c k) n (jDf _))
  unfold U.jBZ at this⊢
  rw[jDW,jDI];exact this
def joI (out:List Int):Nat:=out.countP (fun z=>decide (z<0))
theorem jmt:∀{out:List Int} {b:Nat} {v:Int},b<out.length->nth out b<0->0<=v->joI (out.set b v)+1=joI out
 |[],b,v,h,_,_=>by simp at h
 |z::r,0,v,_,a,h2=>by
  have a:z<0:=a
  unfold joI
  rw[List.set_cons_zero,jEy,jEy,if_neg (by simpa using h2),if_pos (by simpa using a)]
 |z::r,b+1,v,h,a,h2=>by
  have:=jmt (out:=r) (b:=b) (v:=v) (by simpa using h) a h2
  unfold joI at this⊢
  rw[List.set_cons_succ,jEy,jEy]
  omega
structure jCP (J:Nat->Nat->Bool) (n s:Nat) (ex:Nat->Nat->Prop) (x:List Int×List Int):Prop where
 len:x.1.length=n
 low:∀y,y<n->-1<=nth x.1 y/\nth x.1 y<=(n:Int)*2
 zero:0<=nth x.1 s
 rch:∀y,y<n->0<=nth x.1 y->Rch J n s y
 que:∀q,q∈x.2->0<=q/\q<(n:Int)/\0<=nth x.1 q.toNat
 cls:∀y z,y<n->z<n->0<=nth x.1 y->(y:Int)∉x.2\/ex y z->J y z=true->0<=nth x.1 z
def jp1 (n:Nat) (x:List Int×List Int):Prop:=∀y,y<n->nth x.1 y+(joI x.1:Int)<=(n:Int)-1
theorem jlv (J:Nat->Nat->Bool) (q:Nat) (x:List Int×List Int) (k:Nat):U.jfk J q x (k+1)=U.jfj J q (U.jfk J q x k) k:=by
 unfold U.jfk;rw[jDW,jDI];rfl
structure InI (J:Nat->Nat->Bool) (n s q k:Nat) (x0 x:List Int×List Int):Prop where
 i:jCP J n s (fun y z=>y=q/\z<k) x
 le:jp1 n x
 mu:joI x.1+x.2.length=joI x0.1+x0.2.length
 pre:∃l,x.2=x0.2++l
 keep:∀y,y<n->0<=nth x0.1 y->nth x.1 y=nth x0.1 y
theorem jAC {J:Nat->Nat->Bool} {n s q k:Nat} {x0 x:List Int×List Int} (M:s<n) (p:q<n) (w:0<=nth x0.1 q) (hk:k<n) (h:InI J n s q k x0 x):InI J n s q (k+1) x0 (U.jfj J q x k):=by
 have G:nth x.1 q=nth x0.1 q:=h.keep q p w;unfold U.jfj
 split
 .rename_i t;obtain⟨c1,c2⟩:=t;have m:k<x.1.length:=(by rw[h.i.len];exact hk);have b:∀j,nth (x.1.set k (nth x.1 q+1)) j=if k=j then nth x.1 q+1 else nth x.1 j:=fun j=>L.nth_set m
  have E:=jmt (v:=nth x.1 q+1) m c1 (by omega);have F:=h.le q p;have u:k≠q:=fun e=>by subst e;omega
  obtain⟨l,C⟩:=h.pre;refine⟨⟨by simpa using h.i.len,fun y d=> ?_,?_,fun y d c=> ?_,fun z f=> ?_,fun y z d f c a g=> ?_⟩,fun y d=> ?_,?_,⟨l++[(k:Int)],by simp only[C,jDu]⟩,fun y d c=> ?_⟩
  .simp only;rw[b];split
   .have:=h.i.low q p;omega
   .exact h.i.low y d
  .simp only;rw[b];split
   .omega
   .exact h.i.zero
  .simp only at c⊢;rw[b] at c
   split at c
   .rename_i e;subst e;exact .step (h.i.rch q p (by omega)) hk c2
   .exact h.i.rch y d c
  .simp only at f⊢;rcases jDk.1 f with f|f
   .obtain⟨H,I,K⟩:=h.i.que z f;refine⟨H,I,?_⟩;rw[b];split
    .omega
    .exact K
   .simp at f;subst f;refine⟨by omega,by omega,?_⟩;rw[jDm,b,if_pos rfl];omega
  .simp only at c a⊢;rw[b] at c⊢
   split
   .omega
   .rename_i B;by_cases e:k=y
    .subst e;rcases a with a|⟨a,_⟩
     .exact absurd (jDb _ (by simp)) a
     .exact absurd a u
    .rw[if_neg e] at c;refine h.i.cls y z d f c ?_ g;rcases a with a|⟨o,A⟩
     .exact .inl (fun D=>a (jDc _ D))
     .exact .inr ⟨o,by omega⟩
  .simp only;rw[b];split
   .omega
   .have:=h.le y d;omega
  .have:=h.mu;simp only[jDA,jDL,jDZ];omega
  .have:=h.keep y d c;simp only;rw[b,if_neg (fun e=>by subst e;omega)];exact this
 .rename_i t;refine⟨⟨h.i.len,h.i.low,h.i.zero,h.i.rch,h.i.que,fun y z d f c a g=> ?_⟩,h.le,h.mu,h.pre,h.keep⟩;rcases a with a|⟨o,A⟩
  .exact h.i.cls y z d f c (.inl a) g
  .by_cases e:z=k
   .subst e;subst o;rcases Int.lt_or_le (nth x.1 z) 0 with r|r
    .exact absurd ⟨r,g⟩ t
    .exact r
   .exact h.i.cls y z d f c (.inr ⟨o,by omega⟩) g
theorem jwx {J:Nat->Nat->Bool} {n s q:Nat} {x:List Int×List Int} (e:s<n) (d:q<n) (b:0<=nth x.1 q) (hi:jCP J n s (fun _ _=>False) x) (a:jp1 n x):∀k,k<=n->InI J n s q k x (U.jfk J q x k)
 |0,_=>⟨⟨hi.len,hi.low,hi.zero,hi.rch,hi.que,fun y z i j f c g=>hi.cls y z i j f (by rcases c with h|⟨_,h⟩;exact .inl h;omega) g⟩,a,rfl,⟨[],by simp[U.jfk]⟩,fun _ _ _=>rfl⟩
 |k+1,hk=>by rw[jlv];exact jAC e d b (by omega) (jwx e d b hi a k (by omega))
structure jBp (J:Nat->Nat->Bool) (n s:Nat) (x:List Int×List Int):Prop where
 i:jCP J n s (fun _ _=>False) x
 le:jp1 n x
theorem jx4 {J:Nat->Nat->Bool} {n s:Nat} {x:List Int×List Int} (m:s<n) (h:jBp J n s x):jBp J n s (U.wU J n x)/\(x.2≠[]->joI (U.wU J n x).1+(U.wU J n x).2.length+1=joI x.1+x.2.length):=by
 obtain⟨st,p⟩:=x;cases p with
 |nil=>exact⟨h,fun h=>absurd rfl h⟩
 |cons q r=>
  obtain⟨t,u,o⟩:=h.i.que q (by simp);have hi:=jwx m (q:=q.toNat) (by omega) o h.i h.le n (jDf _);obtain⟨l,d⟩:=hi.pre;have f:(U.wU J n (st,q::r))=((U.jfk J q.toNat (st,q::r) n).1,r++l):=by
   show((U.jfk J q.toNat (st,q::r) n).1,(U.jfk J q.toNat (st,q::r) n).2.drop 1)=_;rw[d];rfl
  rw[f];have b:=hi.mu;rw[d] at b;refine⟨⟨⟨hi.i.len,hi.i.low,hi.i.zero,hi.i.rch,fun z c=>hi.i.que z (by rw[d];simp only at c⊢;exact jDj _ c),fun y z k c g a j=> ?_⟩,hi.le⟩,fun _=> ?_⟩
  .rcases a with a|a
   .by_cases e:y=q.toNat
    .exact hi.i.cls y z k c g (.inr ⟨e,c⟩) j
    .refine hi.i.cls y z k c g (.inl ?_) j;rw[d];intro b;rcases jDd.1 b with f|b
     .omega
     .exact a b
   .exact a.elim
  .simp only[jDz,jDL] at b⊢;omega
theorem jr8 {J:Nat->Nat->Bool} {n s:Nat} (f:s<n):jBp J n s (U.qK J n s 0)/\joI (U.qK J n s 0).1+(U.qK J n s 0).2.length=n:=by
 have hi:∀x,x<n->nth (U.kS n s) x=if s=x then 0 else-1:=fun x i=>jjt f i
 have h:joI (U.kS n s)+1=n:=by
  have:=jmt (out:=List.replicate n (-1:Int)) (b:=s) (v:=0) (by simpa using f) (by rw[L.nth_rep f];decide) (by decide);unfold U.kS;rw[this];unfold joI;rw[List.countP_replicate];simp
 refine⟨⟨⟨jju n s,fun y d=> ?_,?_,fun y d c=> ?_,fun q g=> ?_,fun y z d k c a j=> ?_⟩,fun y d=> ?_⟩,?_⟩
 .show-1<=nth (U.kS n s) y/\_;rw[show nth (U.qK J n s 0).1 y=_ from hi y d,hi y d];split<;>omega
 .show 0<=nth (U.kS n s) s;rw[hi s f,if_pos rfl];omega
 .have c:0<=nth (U.kS n s) y:=c;rw[hi y d] at c
  split at c
  .rename_i e;subst e;exact .base
  .omega
 .have g:q∈[(s:Int)]:=g;simp at g;subst g;refine⟨by omega,by omega,?_⟩;show 0<=nth (U.kS n s) (s:Int).toNat;rw[jDm,hi s f,if_pos rfl];omega
 .have c:0<=nth (U.kS n s) y:=c;rw[hi y d] at c
  split at c
  .rename_i e;subst e;rcases a with a|a
   .exact absurd (show(s:Int)∈[(s:Int)] by simp) a
   .exact a.elim
  .omega
 .show nth (U.kS n s) y+(joI (U.kS n s):Int)<=(n:Int)-1;rw[hi y d];split<;>omega
 .show joI (U.kS n s)+1=n;exact h
theorem jqs {J:Nat->Nat->Bool} {n s:Nat} (b:s<n):∀k,jBp J n s (U.qK J n s k)/\((U.qK J n s k).2=[]\/joI (U.qK J n s k).1+(U.qK J n s k).2.length+k=n)
 |0=>⟨(jr8 b).1,.inr (jr8 b).2⟩
 |k+1=>by
  obtain⟨d,a⟩:=jqs b k
  obtain⟨f,g⟩:=jx4 b d
  refine⟨f,?_⟩
  by_cases e:(U.qK J n s k).2=[]
  .left
   show(U.wU J n (U.qK J n s k)).2=[]
   unfold U.wU
   split
   .exact e
   .rename_i c;rw[e] at c;cases c
  .right
   have:=g e
   rcases a with a|a
   .exact absurd a e
   .show joI (U.wU J n (U.qK J n s k)).1+(U.wU J n (U.qK J n s k)).2.length+(k+1)=n
    omega
theorem jy4 {J:Nat->Nat->Bool} {n s k:Nat} (h:(U.qK J n s k).2=[]):∀m,k<=m->U.qK J n s m=U.qK J n s k:=by
 intro m d
 induction m with
 |zero=>have:k=0:=by omega
        subst this;rfl
 |succ m c=>
  by_cases e:k=m+1
  .rw[e]
  .have b:=c (by omega);show U.wU J n (U.qK J n s m)=_;rw[b];unfold U.wU
   split
   .rfl
   .rename_i a;rw[h] at a;cases a
end Go.X
namespace Go.X
namespace U
def gD {α:Type} (p:α->Bool) (l:List α):Int:=match l.findIdx? p with|some i=>(i:Int)|none=> -1
def jb {α:Type} (F:α×Unit->Bool×Unit) (g:α):Bool:=(F (g,())).1
end U
def gfb (t:Ty) (σ:St) (s:Nat):(Ty.st [t]).Data->(Ty.st [.bool]).Data:=gfn [t] [.bool] σ s
theorem wq:∀(l:List Prop) {k:Prop},U.jw l->k->asks l k
 |[],_,_,hk=>hk
 |_::r,_,h,hk=>⟨h.1,wq r h.2 hk⟩
theorem wJ {α:Type} [Inhabited α] {l:List α} {p:α->Bool} {i:Nat} (h:i<l.length) (a:∀b:Nat,b<i->p (nth l b)=false) (c:p (nth l i)=true):U.gD p l=i:=by
 have:l.findIdx? p=some i:=by
  rw[List.findIdx?_eq_some_iff_getElem];refine⟨h,by rw[<-L.nth_lt h];exact c,fun j d=> ?_⟩;have:=a j d;rw[L.nth_lt (by omega)] at this;simp[this]
 unfold U.gD;rw[this]
theorem kz {α:Type} [Inhabited α] {l:List α} {p:α->Bool} {i:Nat} (h:l.length<=i) (a:∀b:Nat,b<i->p (nth l b)=false):U.gD p l= -1:=by
 have:l.findIdx? p=none:=by
  rw[List.findIdx?_eq_none_iff];intro x c;obtain⟨k,hk,rfl⟩:=L.mem_iff.1 c;exact a k (by omega)
 unfold U.gD;rw[this]
theorem jbF {α:Type} (p:α->Bool) (l:List α):decide (0<=U.gD p l)=l.any p:=by
 rw[jDQ];unfold U.gD;simp only[decide_eq_true_eq]
 split
 .rename_i i e;rw[List.findIdx?_eq_some_iff_getElem] at e;obtain⟨h,a,_⟩:=e;exact⟨fun _=>jEc.2 ⟨_,List.getElem_mem h,a⟩,fun _=>by omega⟩
 .rename_i e;rw[List.findIdx?_eq_none_iff] at e;refine⟨fun h=>by omega,fun h=> ?_⟩;obtain⟨x,b,a⟩:=jEc.1 h;have:=e x b;exact absurd (a.symm.trans this) (by simp)
theorem jiQ {α:Type} (F:α×Unit->Bool×Unit) (l:List α):(!l.any (U.jb fun(x:α×Unit)=>(!U.jb F x.fst,())))=l.all (U.jb F):=by
 induction l with
 |nil=>rfl
 |cons a r b=>
  simp only[List.any_cons,List.all_cons,Bool.not_or,b];have:(!U.jb (fun(x:α×Unit)=>(!U.jb F x.fst,())) a)=U.jb F a:=by
   show(!(!U.jb F a))=_;rw[Bool.not_not]
  rw[this]
end Go.X
namespace Go.X
open Go.Proofs
namespace U
def jkk (s n:Int):Bool:=decide (wn (s/2^n.toNat) 1=1)
def jBj (b:Bool):Int:=if b=true then 1 else 0
def joD (c:CrD) (f g:Int->Bool) (p:PeD):Bool:=((((((decide (((lv p).length:Int)=la c)&&(lv p).all f)&&ja (fd p) 0 255)&&ja (cl p) 0 255)&&decide (((wA p).length:Int)<=10))&&(wA p).all g)&&ja (fe p) 0 1000)
end U
def jp8:jX:=⟨[.val .int,.val .int,.val .int],[.bool],false,fun _=>[],fun d=>(U.ja d.1 d.2.1 d.2.2.1,())⟩
def jpN:Prop:=∀(d:Int×Int×Int×Unit),(decide (d.2.1<=d.1)&&decide (d.1<=d.2.2.1),())=(U.ja d.1 d.2.1 d.2.2.1,())
def ja9:jX:=⟨[.val (.uint .u64),.val .int],[.bool],false,fun d=>[0<=d.2.1,d.2.1<=64],fun d=>(U.jkk d.1 d.2.1,())⟩
def jnd:Prop:=∀(d:Int×Int×Unit),0<=d.2.1->d.2.1<=64->0<=d.2.1/\d.2.1<=64/\(decide (wn (d.1/(2:Int)^d.2.1.toNat) (1:Int)=1),())=(U.jkk d.1 d.2.1,())
def we:jX:=⟨[.val (.uint .u64)],[.int],false,fun d=>[BT.Set' d.1],fun d=>(BT.size d.1,())⟩
def jm2:Ann:=fun r=>match r with
 |1=>some fun σ=>{X:=Int×Int,sl:=fun x=>[(0,.dat (.uint .u64) x.1),(2,.dat .int x.2)],ob:=fun _=>[],inv:=fun x=>BT.Set' x.1/\x.2+BT.size x.1=BT.size (gd (.uint .u64) σ 0),mu:=fun x=>x.1.toNat}
 |_=>none
def jlH:Prop:=∀(d:Int×Unit),BT.Set' d.1->(∃(x:Int×Int),((d.1=x.1/\0=x.2/\True)/\True)/\BT.Set' x.1/\x.2+BT.size x.1=BT.size d.1)/\∀(x:Int×Int),BT.Set' x.1/\x.2+BT.size x.1=BT.size d.1->(decide (x.1≠0)=true->jA (x.2+1)/\0<=x.1-1/\x.1-1<=18446744073709551615/\∃(a:Int×Int),((wn x.1 (x.1-1)=a.1/\x.2+1=a.2/\True)/\True)/\(BT.Set' a.1/\a.2+BT.size a.1=BT.size d.1)/\a.1.toNat<x.1.toNat)/\(decide (x.1≠0)=false->(x.2,())=(BT.size d.1,()))
def jti:jX:=⟨[.val .bool],[.int],false,fun _=>[],fun d=>(U.jBj d.1,())⟩
def js1:Prop:=∀(d:Bool×Unit),(d.1=true->((1:Int),())=(U.jBj d.1,()))/\(d.1=false->((0:Int),())=(U.jBj d.1,()))
def jc7:jX:=⟨[.val (.slice .int),.fn [.int] [.bool]],[.int],false,fun d=>[∀g∈d.1,U.jw (d.2.1.pre (g,()))],fun d=>(U.gD (U.jb (α:=Int) d.2.1.F) d.1,())⟩
def jdT:Ann:=fun r=>match r with
 |2=>some fun σ=>{X:=Nat,sl:=fun i=>[(8,.dat .int (i:Int))],ob:=fun _=>[],inv:=fun i=>i<=(gd (.slice .int) σ 0).length/\∀b:Nat,b<i->U.jb (gfb .int σ 1) (nth (gd (.slice .int) σ 0) b)=false,mu:=fun i=>(gd (.slice .int) σ 0).length-i}
 |_=>none
def jcX:Prop:=∀(d:List Int×FnD [Ty.int] [Ty.bool]×Unit),(∀(g:Int),g∈d.1->U.jw (d.2.1.1 (g,())))->d.1.length<4611686018427387904->(∃(x:Nat),((0=(x:Int)/\True)/\True)/\x<=d.1.length/\∀(b:Nat),b<x->U.jb d.2.1.2 (nth d.1 b)=false)/\∀(x:Nat),(x<=d.1.length/\∀(b:Nat),b<x->U.jb d.2.1.2 (nth d.1 b)=false)->(decide ((x:Int)<(d.1.length:Int))=true->0<=(x:Int)/\(x:Int)<(d.1.length:Int)/\asks (d.2.1.1 (nth d.1 (x:Int).toNat,())) (((d.2.1.2 (nth d.1 (x:Int).toNat,())).1=true->((x:Int),())=(U.gD (U.jb d.2.1.2) d.1,()))/\((d.2.1.2 (nth d.1 (x:Int).toNat,())).1=false->jA ((x:Int)+1)/\∃(a:Nat),(((x:Int)+1=(a:Int)/\True)/\True)/\(a<=d.1.length/\∀(b:Nat),b<a->U.jb d.2.1.2 (nth d.1 b)=false)/\d.1.length-a<d.1.length-x)))/\(decide ((x:Int)<(d.1.length:Int))=false->((-1:Int),())=(U.gD (U.jb d.2.1.2) d.1,()))
def jaO:jX:=⟨[.val (.slice .int),.fn [.int] [.bool]],[.bool],false,fun d=>[∀g∈d.1,U.jw (d.2.1.pre (g,()))],fun d=>(d.1.any (U.jb (α:=Int) d.2.1.F),())⟩
def jaJ:Prop:=∀(d:List Int×FnD [Ty.int] [Ty.bool]×Unit),(∀(g:Int),g∈d.1->U.jw (d.2.1.1 (g,())))->(∀(g:Int),g∈d.1->U.jw (d.2.1.1 (g,())))/\(decide (0<=U.gD (U.jb d.2.1.2) d.1),())=(d.1.any (U.jb d.2.1.2),())
def jc8:jX:=⟨[.val (.slice tLw),.fn [tLw] [.bool]],[.int],false,fun d=>[∀g∈d.1,U.jw (d.2.1.pre (g,()))],fun d=>(U.gD (U.jb (α:=LwD) d.2.1.F) d.1,())⟩
def jdU:Ann:=fun r=>match r with
 |2=>some fun σ=>{X:=Nat,sl:=fun i=>[(8,.dat .int (i:Int))],ob:=fun _=>[],inv:=fun i=>i<=(gd (.slice tLw) σ 0).length/\∀b:Nat,b<i->U.jb (gfb tLw σ 1) (nth (gd (.slice tLw) σ 0) b)=false,mu:=fun i=>(gd (.slice tLw) σ 0).length-i}
 |_=>none
def jcY:Prop:=∀(d:List LwD×FnD [tLw] [Ty.bool]×Unit),(∀(g:LwD),g∈d.1->U.jw (d.2.1.1 (g,())))->d.1.length<4611686018427387904->(∃(x:Nat),((0=(x:Int)/\True)/\True)/\x<=d.1.length/\∀(b:Nat),b<x->U.jb d.2.1.2 (nth d.1 b)=false)/\∀(x:Nat),(x<=d.1.length/\∀(b:Nat),b<x->U.jb d.2.1.2 (nth d.1 b)=false)->(decide ((x:Int)<(d.1.length:Int))=true->0<=(x:Int)/\(x:Int)<(d.1.length:Int)/\asks (d.2.1.1 (nth d.1 (x:Int).toNat,())) (((d.2.1.2 (nth d.1 (x:Int).toNat,())).1=true->((x:Int),())=(U.gD (U.jb d.2.1.2) d.1,()))/\((d.2.1.2 (nth d.1 (x:Int).toNat,())).1=false->jA ((x:Int)+1)/\∃(a:Nat),(((x:Int)+1=(a:Int)/\True)/\True)/\(a<=d.1.length/\∀(b:Nat),b<a->U.jb d.2.1.2 (nth d.1 b)=false)/\d.1.length-a<d.1.length-x)))/\(decide ((x:Int)<(d.1.length:Int))=false->((-1:Int),())=(U.gD (U.jb d.2.1.2) d.1,()))
def jaP:jX:=⟨[.val (.slice tLw),.fn [tLw] [.bool]],[.bool],false,fun d=>[∀g∈d.1,U.jw (d.2.1.pre (g,()))],fun d=>(d.1.any (U.jb (α:=LwD) d.2.1.F),())⟩
def jaK:Prop:=∀(d:List LwD×FnD [tLw] [Ty.bool]×Unit),(∀(g:LwD),g∈d.1->U.jw (d.2.1.1 (g,())))->(∀(g:LwD),g∈d.1->U.jw (d.2.1.1 (g,())))/\(decide (0<=U.gD (U.jb d.2.1.2) d.1),())=(d.1.any (U.jb d.2.1.2),())
def jaN:jX:=⟨[.val (.slice tPe),.fn [tPe] [.bool]],[.int],false,fun d=>[∀g∈d.1,U.jw (d.2.1.pre (g,()))],fun d=>(U.gD (U.jb (α:=PeD) d.2.1.F) d.1,())⟩
def jaW:Ann:=fun r=>match r with
 |2=>some fun σ=>{X:=Nat,sl:=fun i=>[(8,.dat .int (i:Int))],ob:=fun _=>[],inv:=fun i=>i<=(gd (.slice tPe) σ 0).length/\∀b:Nat,b<i->U.jb (gfb tPe σ 1) (nth (gd (.slice tPe) σ 0) b)=false,mu:=fun i=>(gd (.slice tPe) σ 0).length-i}
 |_=>none
def jaI:Prop:=∀(d:List PeD×FnD [tPe] [Ty.bool]×Unit),(∀(g:PeD),g∈d.1->U.jw (d.2.1.1 (g,())))->d.1.length<4611686018427387904->(∃(x:Nat),((0=(x:Int)/\True)/\True)/\x<=d.1.length/\∀(b:Nat),b<x->U.jb d.2.1.2 (nth d.1 b)=false)/\∀(x:Nat),(x<=d.1.length/\∀(b:Nat),b<x->U.jb d.2.1.2 (nth d.1 b)=false)->(decide ((x:Int)<(d.1.length:Int))=true->0<=(x:Int)/\(x:Int)<(d.1.length:Int)/\asks (d.2.1.1 (nth d.1 (x:Int).toNat,())) (((d.2.1.2 (nth d.1 (x:Int).toNat,())).1=true->((x:Int),())=(U.gD (U.jb d.2.1.2) d.1,()))/\((d.2.1.2 (nth d.1 (x:Int).toNat,())).1=false->jA ((x:Int)+1)/\∃(a:Nat),(((x:Int)+1=(a:Int)/\True)/\True)/\(a<=d.1.length/\∀(b:Nat),b<a->U.jb d.2.1.2 (nth d.1 b)=false)/\d.1.length-a<d.1.length-x)))/\(decide ((x:Int)<(d.1.length:Int))=false->((-1:Int),())=(U.gD (U.jb d.2.1.2) d.1,()))
def yq:jX:=⟨[.val (.slice tPe),.fn [tPe] [.bool]],[.bool],false,fun d=>[∀g∈d.1,U.jw (d.2.1.pre (g,()))],fun d=>(d.1.any (U.jb (α:=PeD) d.2.1.F),())⟩
def yn:Prop:=∀(d:List PeD×FnD [tPe] [Ty.bool]×Unit),(∀(g:PeD),g∈d.1->U.jw (d.2.1.1 (g,())))->(∀(g:PeD),g∈d.1->U.jw (d.2.1.1 (g,())))/\(decide (0<=U.gD (U.jb d.2.1.2) d.1),())=(d.1.any (U.jb d.2.1.2),())
def jgY:jX:=⟨[.val .int,.rfn [.int] [.bool]],[.bool],false,fun d=>[U.jw (d.2.1.pre (d.1,()))],fun d=>(!(U.jb (α:=Int) d.2.1.F d.1),())⟩
def jgP:Prop:=∀(d:Int×FnD [Ty.int] [Ty.bool]×Unit),U.jw (d.2.1.1 (d.1,()))->asks (d.2.1.1 (d.1,())) ((!(d.2.1.2 (d.1,())).1,())=(!U.jb d.2.1.2 d.1,()))
def jj3:jX:=⟨[.val (.slice .int),.fn [.int] [.bool]],[.bool],false,fun d=>[∀g∈d.1,U.jw (d.2.1.pre (g,()))],fun d=>(d.1.all (U.jb (α:=Int) d.2.1.F),())⟩
def jjX:Prop:=∀(d:List Int×FnD [Ty.int] [Ty.bool]×Unit),(∀(g:Int),g∈d.1->U.jw (d.2.1.1 (g,())))->(∀(g:Int),g∈d.1->U.jw [U.jw (d.2.1.1 (g,()))])/\(!d.1.any (U.jb fun(a:Int×Unit)=>(!U.jb d.2.1.2 a.1,())),())=(d.1.all (U.jb d.2.1.2),())
def jgZ:jX:=⟨[.val tLw,.rfn [tLw] [.bool]],[.bool],false,fun d=>[U.jw (d.2.1.pre (d.1,()))],fun d=>(!(U.jb (α:=LwD) d.2.1.F d.1),())⟩
def jgQ:Prop:=∀(d:LwD×FnD [tLw] [Ty.bool]×Unit),U.jw (d.2.1.1 (d.1,()))->asks (d.2.1.1 (d.1,())) ((!(d.2.1.2 (d.1,())).1,())=(!U.jb d.2.1.2 d.1,()))
def jj4:jX:=⟨[.val (.slice tLw),.fn [tLw] [.bool]],[.bool],false,fun d=>[∀g∈d.1,U.jw (d.2.1.pre (g,()))],fun d=>(d.1.all (U.jb (α:=LwD) d.2.1.F),())⟩
def jjY:Prop:=∀(d:List LwD×FnD [tLw] [Ty.bool]×Unit),(∀(g:LwD),g∈d.1->U.jw (d.2.1.1 (g,())))->(∀(g:LwD),g∈d.1->U.jw [U.jw (d.2.1.1 (g,()))])/\(!d.1.any (U.jb fun(a:LwD×Unit)=>(!U.jb d.2.1.2 a.1,())),())=(d.1.all (U.jb d.2.1.2),())
def jc6:jX:=⟨[.val tPe,.rfn [tPe] [.bool]],[.bool],false,fun d=>[U.jw (d.2.1.pre (d.1,()))],fun d=>(!(U.jb (α:=PeD) d.2.1.F d.1),())⟩
def jcV:Prop:=∀(d:PeD×FnD [tPe] [Ty.bool]×Unit),U.jw (d.2.1.1 (d.1,()))->asks (d.2.1.1 (d.1,())) ((!(d.2.1.2 (d.1,())).1,())=(!U.jb d.2.1.2 d.1,()))
def jfG:jX:=⟨[.val (.slice tPe),.fn [tPe] [.bool]],[.bool],false,fun d=>[∀g∈d.1,U.jw (d.2.1.pre (g,()))],fun d=>(d.1.all (U.jb (α:=PeD) d.2.1.F),())⟩
def jfz:Prop:=∀(d:List PeD×FnD [tPe] [Ty.bool]×Unit),(∀(g:PeD),g∈d.1->U.jw (d.2.1.1 (g,())))->(∀(g:PeD),g∈d.1->U.jw [U.jw (d.2.1.1 (g,()))])/\(!d.1.any (U.jb fun(a:PeD×Unit)=>(!U.jb d.2.1.2 a.1,())),())=(d.1.all (U.jb d.2.1.2),())
def jnK:jX:=⟨[.val .int],[.bool],false,fun _=>[],fun d=>(U.ja d.1 0 5,())⟩
def jni:Prop:=∀(d:Int×Unit),(U.ja d.1 (0:Int) (5:Int),())=(U.ja d.1 (0:Int) (5:Int),())
def jnJ:jX:=⟨[.val .int],[.bool],false,fun _=>[],fun d=>(U.ja d.1 0 99,())⟩
def jnh:Prop:=∀(d:Int×Unit),(U.ja d.1 (0:Int) (99:Int),())=(U.ja d.1 (0:Int) (99:Int),())
def jnH:jX:=⟨[.val tPe,.ref tCr,.rfn [.int] [.bool],.rfn [.int] [.bool]],[.bool],false,fun d=>[∀g∈U.lv d.1,U.jw (d.2.2.1.pre (g,())),∀g∈U.wA d.1,U.jw (d.2.2.2.1.pre (g,()))],fun d=>(U.joD d.2.1 (U.jb d.2.2.1.F) (U.jb d.2.2.2.1.F) d.1,())⟩
def jng:Prop:=∀(d:PeD×CrD×FnD [Ty.int] [Ty.bool]×FnD [Ty.int] [Ty.bool]×Unit),(∀(g:Int),g∈U.lv d.1->U.jw (d.2.2.1.1 (g,())))->(∀(g:Int),g∈U.wA d.1->U.jw (d.2.2.2.1.1 (g,())))->d.1.1.length<4611686018427387904->(decide ((d.1.1.length:Int)=d.2.1.1)=true->∀(g:Int),g∈d.1.1->U.jw (d.2.2.1.1 (g,())))/\(((decide ((d.1.1.length:Int)=d.2.1.1)&&d.1.1.all (U.jb d.2.2.1.2)&&U.ja d.1.2.1 (0:Int) (255:Int)&&U.ja d.1.2.2.1 (0:Int) (255:Int))=true->d.1.2.2.2.1.length<4611686018427387904)->((decide ((d.1.1.length:Int)=d.2.1.1)&&d.1.1.all (U.jb d.2.2.1.2)&&U.ja d.1.2.1 (0:Int) (255:Int)&&U.ja d.1.2.2.1 (0:Int) (255:Int)&&decide ((d.1.2.2.2.1.length:Int)<=10))=true->∀(g:Int),g∈d.1.2.2.2.1->U.jw (d.2.2.2.1.1 (g,())))/\(decide ((d.1.1.length:Int)=d.2.1.1)&&d.1.1.all (U.jb d.2.2.1.2)&&U.ja d.1.2.1 (0:Int) (255:Int)&&U.ja d.1.2.2.1 (0:Int) (255:Int)&&decide ((d.1.2.2.2.1.length:Int)<=10)&&d.1.2.2.2.1.all (U.jb d.2.2.2.1.2)&&U.ja d.1.2.2.2.2.2.1 (0:Int) (1000:Int),())=(U.joD d.2.1 (U.jb d.2.2.1.2) (U.jb d.2.2.2.1.2) d.1,()))
def jnG:jX:=⟨[.val tLw],[.bool],false,fun _=>[],fun d=>(U.y5 d.1,())⟩
def jnf:Prop:=∀(d:LwD×Unit),(U.ja d.1.1 (1:Int) (5:Int)&&U.ja d.1.2.1 (1:Int) (8:Int),())=(U.y5 d.1,())
def jnF:jX:=⟨[.val .int,.ref tCr],[.bool],false,fun d=>[jA (U.la d.2.1-1)],fun d=>(U.ja d.1 0 (U.la d.2.1-1),())⟩
def jne:Prop:=∀(d:Int×CrD×Unit),jA (U.la d.2.1-1)->jA (d.2.1.1-1)/\(U.ja d.1 (0:Int) (d.2.1.1-1),())=(U.ja d.1 (0:Int) (U.la d.2.1-1),())
def jtj:jX:=⟨[.val tCr,.val tJb],[.int],false,fun _=>[],fun d=>(U.zV d.1 d.2.1,())⟩
abbrev q22_0 (d:CrD×JbD×Unit):=(!U.ja d.2.1.1 (0:Int) (U.la d.1-1)|| !U.ja d.2.1.2.1 (0:Int) (U.la d.1-1)||decide (d.2.1.1=d.2.1.2.1)|| !U.ja d.2.1.2.2.1 (0:Int) (99:Int)|| !U.ja d.2.1.2.2.2.1 (0:Int) (7:Int)|| !U.ja d.2.1.2.2.2.2.1 (0:Int) (3:Int)|| !U.ja d.2.1.2.2.2.2.2.1 (1:Int) (8:Int))
abbrev q22_1 (d:CrD×JbD×Unit):=(8<(d.1.2.1.length:Int))
def js2:Prop:=∀(d:CrD×JbD×Unit),((!!U.ja d.1.1 (2:Int) (5:Int))=true->d.1.2.1.length<4611686018427387904)->((!(!U.ja d.1.1 (2:Int) (5:Int)||decide (q22_1 d)))=true->∀(g:PeD),g∈d.1.2.1->U.jw [∀(b:Int),b∈U.lv g->U.jw [],∀(b:Int),b∈U.wA g->U.jw []])/\(((!(!U.ja d.1.1 (2:Int) (5:Int)||decide (q22_1 d)|| !d.1.2.1.all (U.jb fun(a:PeD×Unit)=>(U.joD d.1 (U.jb fun(a:Int×Unit)=>(U.ja a.1 (0:Int) (5:Int),())) (U.jb fun(a:Int×Unit)=>(U.ja a.1 (0:Int) (99:Int),())) a.1,()))))=true->d.1.2.2.1.length<4611686018427387904)->((!(!U.ja d.1.1 (2:Int) (5:Int)||decide (q22_1 d)|| !d.1.2.1.all (U.jb fun(c:PeD×Unit)=>(U.joD d.1 (U.jb fun(c:Int×Unit)=>(U.ja c.1 (0:Int) (5:Int),())) (U.jb fun(c:Int×Unit)=>(U.ja c.1 (0:Int) (99:Int),())) c.1,()))||decide ((d.1.2.2.1.length:Int)≠4)))=true->∀(g:LwD),g∈d.1.2.2.1->U.jw [])/\((!U.ja d.1.1 (2:Int) (5:Int)||decide (q22_1 d)|| !d.1.2.1.all (U.jb fun(e:PeD×Unit)=>(U.joD d.1 (U.jb fun(e:Int×Unit)=>(U.ja e.1 (0:Int) (5:Int),())) (U.jb fun(e:Int×Unit)=>(U.ja e.1 (0:Int) (99:Int),())) e.1,()))||decide ((d.1.2.2.1.length:Int)≠4)|| !d.1.2.2.1.all (U.jb fun(h:LwD×Unit)=>(U.y5 h.1,())))=true->((30:Int),())=(U.zV d.1 d.2.1,()))/\((!U.ja d.1.1 (2:Int) (5:Int)||decide (q22_1 d)|| !d.1.2.1.all (U.jb fun(f:PeD×Unit)=>(U.joD d.1 (U.jb fun(f:Int×Unit)=>(U.ja f.1 (0:Int) (5:Int),())) (U.jb fun(f:Int×Unit)=>(U.ja f.1 (0:Int) (99:Int),())) f.1,()))||decide ((d.1.2.2.1.length:Int)≠4)|| !d.1.2.2.1.all (U.jb fun(i:LwD×Unit)=>(U.y5 i.1,())))=false->jA (U.la d.1-1)/\((!!U.ja d.2.1.1 (0:Int) (U.la d.1-1))=true->jA (U.la d.1-1))/\((q22_0 d)=true->((31:Int),())=(U.zV d.1 d.2.1,()))/\((q22_0 d)=false->((0:Int),())=(U.zV d.1 d.2.1,()))))
end Go.X
namespace Go.X
open Go.Proofs
theorem jtS:jpN:=by
 intro d;rfl
theorem wE:zn PR 124 jp8:=jT jtS Tryz.func124 kcN koN
theorem jq0:jnd:=by
 intro d a b;exact⟨a,b,rfl⟩
theorem jom:zn PR 172 ja9:=jT jq0 Tryz.func172 kcN koN
theorem joW:jlH:=by
 rintro⟨s,⟨⟩⟩ e;refine⟨⟨(s,0),⟨⟨rfl,rfl,trivial⟩,trivial⟩,e,by simp⟩,?_⟩;rintro⟨x,n⟩ ⟨a,b⟩;have a:BT.Set' x:=a;have g:=BT.size_le s;have f:=BT.size_le x;refine⟨fun h=> ?_,fun h=> ?_⟩
 .have h:x≠0:=of_decide_eq_true h;obtain⟨d,i,j⟩:=BT.pred a h;have c:=a;unfold BT.Set' at c;simp only at b⊢;exact⟨L.in64 (by omega) (by omega),by omega,by omega,(wn x (x-1),n+1),⟨⟨rfl,rfl,trivial⟩,trivial⟩,⟨d,(by omega:n+1+BT.size (wn x (x-1))=BT.size s)⟩,(by unfold BT.Set' at d;omega:(wn x (x-1)).toNat<x.toNat)⟩
 .have h:x=0:=(by simpa using h);subst h;simp only[BT.size_zero] at b;simp only at b⊢;rw[show n=BT.size s by omega]
theorem jml:zn PR 126 we:=wO jm2 joW Tryz.func126 kcN koN
theorem jwB:js1:=by
 rintro⟨b,⟨⟩⟩;exact⟨fun h=>by simp only at h;subst h;rfl,fun h=>by simp only at h;subst h;rfl⟩
theorem jtA:zn PR 120 jti:=jT jwB Tryz.func120 kcN koN
theorem jeY:jcX:=by
 rintro⟨l,f,⟨⟩⟩ a g;refine⟨⟨0,⟨⟨rfl,trivial⟩,trivial⟩,jDq _,fun b c=>by omega⟩,fun i hi=>⟨fun h=> ?_,fun h=> ?_⟩⟩
 .have h:i<l.length:=(by simpa using h);simp only[jDm] at*;refine⟨by omega,by omega,wq _ (a _ (L.mem_nth h)) ⟨fun c=> ?_,fun c=>⟨L.in64 (by omega) (by omega),i+1,⟨⟨by simp,trivial⟩,trivial⟩,⟨by omega,fun b d=> ?_⟩,by omega⟩⟩⟩
  .rw[wJ (p:=U.jb (α:=Int) f.F) h hi.2 c]
  .by_cases e:b=i
   .subst e;exact c
   .exact hi.2 b (by omega)
 .have h:l.length<=i:=(by simpa using h);rw[kz (p:=U.jb (α:=Int) f.F) h hi.2]
theorem jdm:zn PR 128 jc7:=wO jdT jeY Tryz.func128 kcN koN
theorem jbH:jaJ:=by
 rintro⟨l,f,⟨⟩⟩ a;refine⟨a,?_⟩;exact congrArg (·,()) (jbF (U.jb (α:=Int) f.F) l)
theorem qb:zn PR 106 jaO:=jT jbH Tryz.func106 (kcC jdm kcN) koN
theorem jeZ:jcY:=by
 rintro⟨l,f,⟨⟩⟩ a g;refine⟨⟨0,⟨⟨rfl,trivial⟩,trivial⟩,jDq _,fun b c=>by omega⟩,fun i hi=>⟨fun h=> ?_,fun h=> ?_⟩⟩
 .have h:i<l.length:=(by simpa using h);simp only[jDm] at*;refine⟨by omega,by omega,wq _ (a _ (L.mem_nth h)) ⟨fun c=> ?_,fun c=>⟨L.in64 (by omega) (by omega),i+1,⟨⟨by simp,trivial⟩,trivial⟩,⟨by omega,fun b d=> ?_⟩,by omega⟩⟩⟩
  .rw[wJ (p:=U.jb (α:=LwD) f.F) h hi.2 c]
  .by_cases e:b=i
   .subst e;exact c
   .exact hi.2 b (by omega)
 .have h:l.length<=i:=(by simpa using h);rw[kz (p:=U.jb (α:=LwD) f.F) h hi.2]
theorem jdn:zn PR 196 jc8:=wO jdU jeZ Tryz.func196 kcN koN
theorem jbI:jaK:=by
 rintro⟨l,f,⟨⟩⟩ a;refine⟨a,?_⟩;exact congrArg (·,()) (jbF (U.jb (α:=LwD) f.F) l)
theorem jaR:zn PR 178 jaP:=jT jbI Tryz.func178 (kcC jdn kcN) koN
theorem jbG:jaI:=by
 rintro⟨l,f,⟨⟩⟩ a g;refine⟨⟨0,⟨⟨rfl,trivial⟩,trivial⟩,jDq _,fun b c=>by omega⟩,fun i hi=>⟨fun h=> ?_,fun h=> ?_⟩⟩
 .have h:i<l.length:=(by simpa using h);simp only[jDm] at*;refine⟨by omega,by omega,wq _ (a _ (L.mem_nth h)) ⟨fun c=> ?_,fun c=>⟨L.in64 (by omega) (by omega),i+1,⟨⟨by simp,trivial⟩,trivial⟩,⟨by omega,fun b d=> ?_⟩,by omega⟩⟩⟩
  .rw[wJ (p:=U.jb (α:=PeD) f.F) h hi.2 c]
  .by_cases e:b=i
   .subst e;exact c
   .exact hi.2 b (by omega)
 .have h:l.length<=i:=(by simpa using h);rw[kz (p:=U.jb (α:=PeD) f.F) h hi.2]
theorem jaQ:zn PR 195 jaN:=wO jaW jbG Tryz.func195 kcN koN
theorem gj:yn:=by
 rintro⟨l,f,⟨⟩⟩ a;refine⟨a,?_⟩;exact congrArg (·,()) (jbF (U.jb (α:=PeD) f.F) l)
theorem yw:zn PR 176 yq:=jT gj Tryz.func176 (kcC jaQ kcN) koN
theorem jjb:jgP:=by
 intro d h;exact wq _ h rfl
theorem jhc:zn PR 175 jgY:=jT jjb Tryz.func175 kcN koN
theorem jmF:jjX:=by
 intro d h;exact⟨fun g a=>⟨h g a,trivial⟩,congrArg (·,()) (jiQ d.snd.fst.2 d.fst)⟩
theorem jkc:zn PR 132 jj3:=jT jmF Tryz.func132 (kcC qb (kcC jhc kcN)) koN
theorem jjc:jgQ:=by
 intro d h;exact wq _ h rfl
theorem jhd:zn PR 179 jgZ:=jT jjc Tryz.func179 kcN koN
theorem jmG:jjY:=by
 intro d h;exact⟨fun g a=>⟨h g a,trivial⟩,congrArg (·,()) (jiQ d.snd.fst.2 d.fst)⟩
theorem jke:zn PR 136 jj4:=jT jmG Tryz.func136 (kcC jaR (kcC jhd kcN)) koN
theorem jeX:jcV:=by
 intro d h;exact wq _ h rfl
theorem jdl:zn PR 177 jc6:=jT jeX Tryz.func177 kcN koN
theorem jhm:jfz:=by
 intro d h;exact⟨fun g a=>⟨h g a,trivial⟩,congrArg (·,()) (jiQ d.snd.fst.2 d.fst)⟩
theorem jfT:zn PR 135 jfG:=jT jhm Tryz.func135 (kcC yw (kcC jdl kcN)) koN
theorem jq5:jni:=fun _=>rfl
theorem jos:zn PR 129 jnK:=jT jq5 Tryz.func129 (kcC wE kcN) koN
theorem jq4:jnh:=fun _=>rfl
theorem jor:zn PR 130 jnJ:=jT jq4 Tryz.func130 (kcC wE kcN) koN
theorem jq3:jng:=by
 rintro⟨p,c,f,g,⟨⟩⟩ a b _;exact⟨fun _=>a,fun _=>⟨fun _=>b,rfl⟩⟩
theorem joq:zn PR 131 jnH:=jT jq3 Tryz.func131 (kcC wE (kcC jkc kcN)) koN
theorem jq2:jnf:=fun _=>rfl
theorem jop:zn PR 133 jnG:=jT jq2 Tryz.func133 (kcC wE kcN) koN
theorem jq1:jne:=fun _ h=>⟨h,rfl⟩
theorem joo:zn PR 134 jnF:=jT jq1 Tryz.func134 (kcC wE kcN) koN
theorem jAp (c:CrD) (p:PeD):U.joD c (fun x=>U.ja x 0 5) (fun x=>U.ja x 0 99) p=U.y4 (U.la c) p:=by
 rw[jDQ];simp only[U.joD,U.y4,U.ja,jDg,decide_eq_true_eq];constructor
 .rintro⟨⟨⟨⟨⟨⟨e,f⟩,a⟩,b⟩,k⟩,i⟩,d⟩;exact⟨⟨e,a.1,a.2,b.1,b.2,by omega,d.1,d.2⟩,f,i⟩
 .rintro⟨⟨e,a,g,b,h,k,d,j⟩,f,i⟩;exact⟨⟨⟨⟨⟨⟨e,f⟩,a,g⟩,b,h⟩,by omega⟩,i⟩,d,j⟩
theorem jAR (c:CrD):(((((!U.ja c.1 2 5||decide (8<((c.2.1.length:Nat):Int)))|| !c.2.1.all (U.y4 (U.la c)))||decide (((c.2.2.1.length:Nat):Int)≠4))|| !c.2.2.1.all U.y5))= !U.ju c:=by
 unfold U.ju;show _= !(decide (2<=c.1/\c.1<=5/\c.2.1.length<=8/\c.2.2.1.length=4)&&(c.2.1.all (U.y4 (U.la c))&&c.2.2.1.all U.y5));cases c.2.1.all (U.y4 (U.la c))<;>cases c.2.2.1.all U.y5<;>simp only[U.ja,Bool.not_true,Bool.not_false,Bool.or_true,Bool.or_false,Bool.and_true,Bool.and_false,Bool.true_or]
 rw[jDQ];simp only[jEp,jDH,Bool.and_eq_false_iff,decide_eq_true_eq,decide_eq_false_iff_not];omega
theorem jBN (c:CrD) (j:JbD):((((((!U.ja j.1 0 (U.la c-1)|| !U.ja j.2.1 0 (U.la c-1))||decide (j.1=j.2.1))|| !U.ja j.2.2.1 0 99)|| !U.ja j.2.2.2.1 0 7)|| !U.ja j.2.2.2.2.1 0 3)|| !U.ja j.2.2.2.2.2.1 1 8)= !U.zB c j:=by
 have key:(U.zB c j=false)↔¬(0<=j.1/\j.1<=U.la c-1/\0<=j.2.1/\j.2.1<=U.la c-1/\j.1≠j.2.1/\0<=j.2.2.1/\j.2.2.1<=99/\0<=j.2.2.2.1/\j.2.2.2.1<=7/\0<=j.2.2.2.2.1/\j.2.2.2.2.1<=3/\1<=j.2.2.2.2.2.1/\j.2.2.2.2.2.1<=8):=by
  unfold U.zB;exact decide_eq_false_iff_not
 rw[jDQ,jDH,key];simp only[U.ja,jEp,jDH,Bool.and_eq_false_iff,decide_eq_true_eq,decide_eq_false_iff_not];omega
theorem jwC:js2:=by
 unfold js2 q22_1 q22_0;rintro⟨c,j,⟨⟩⟩;have f:∀p,U.jb (fun(x:PeD×Unit)=>(U.joD c (U.jb fun(x:Int×Unit)=>(U.ja x.fst 0 5,())) (U.jb fun(x:Int×Unit)=>(U.ja x.fst 0 99,())) x.fst,())) p=U.y4 (U.la c) p:=fun p=>jAp c p
 have i:(U.jb fun(x:LwD×Unit)=>(U.y5 x.fst,()))=U.y5:=rfl;have d:=jAR c;have e:=jBN c j;intro _;refine⟨fun _ g _=>⟨fun _ _=>trivial,fun _ _=>trivial,trivial⟩,fun _=> ?_⟩;simp only at d e⊢;rw[funext f,i,d,e];refine⟨fun _ _ _=>trivial,fun h=> ?_,fun h=> ?_⟩
 .have h:U.ju c=false:=(by simpa using h);unfold U.zV;rw[if_pos h]
 .have h:U.ju c=true:=(by simpa using h);have k:2<=U.la c/\U.la c<=5:=by
   unfold U.ju at h;simp only[jDg,decide_eq_true_eq] at h;exact⟨h.1.1,h.1.2.1⟩
  have b:jA (U.la c-1):=L.in64 (by omega) (by omega);refine⟨b,fun _=>b,fun a=> ?_,fun a=> ?_⟩
  .have a:U.zB c j=false:=(by simpa using a);unfold U.zV;rw[if_neg (by rw[h];simp),if_pos a]
  .have a:U.zB c j=true:=(by simpa using a);unfold U.zV;rw[if_neg (by rw[h];simp),if_neg (by rw[a];simp)]
theorem jkU:zn PR 108 jtj:=jT jwC Tryz.func108 (kcC wE (kcC jfT (kcC jke (kcC jos (kcC jor (kcC joq (kcC jop (kcC joo kcN)))))))) koN
end Go.X
namespace Go.X
open Go.Proofs
abbrev tTk:Ty:= .st [tCr,tJb,tLw]
abbrev TkD:Type:=CrD×JbD×LwD×Unit
namespace U
def tk (o:Option TkD):TkD:=jH (Ty.dflt tTk) o
def tc (t:TkD):CrD:=t.1
def tj (t:TkD):JbD:=t.2.1
def tl (t:TkD):LwD:=t.2.2.1
def jkT (c:CrD) (j:JbD):Option TkD:=if zV c j=0 then some (c,j,jyu c j,()) else none
def vA (t:TkD):Prop:=ju (tc t)=true/\zB (tc t) (tj t)=true/\tl t=jyu (tc t) (tj t)
def jte (a b c:Bool):Int:=jBj a+2*jBj b+4*jBj c
def wt (t:TkD) (p:PeD):Int:=jte (juU p (jBm (tj t))) (!vH (fd p) (jBl (tj t))) (!vH (cl p) (jBk (tj t)))
def jeP (t:TkD) (p:PeD):List (Int×Int):=[(0,jBj (!juU p (jBm (tj t)))),(1,vf (fd p/2^(jBl (tj t)).toNat) 1),(2,vf (cl p/2^(jBk (tj t)).toNat) 1)]
def qM (all left:List (Int×Int)) (out:Int):Prop:=BT.Set' out/\left.Nodup/\(∀e∈left,e∈all)/\∀p:Nat,BT.has out p=true↔∃e∈all,e∉left/\e.2=0/\e.1.toNat=p
def wm (t:TkD) (s:Int) (n:Nat):List (Int×PeD×Unit):=((List.range n).filter (fun(i:Nat)=>jkk s (i:Int))).map (fun(i:Nat)=>((i:Int),nth (jl (tc t)) i,()))
def joL (t:TkD) (s:Int):List (Int×PeD×Unit):=wm t s (jl (tc t)).length
def jn (t:TkD) (a b:Int) (x:Int×PeD×Unit):Bool:=decide (jCU (tl t)<=min (nth (lv x.2.1) a.toNat) (nth (lv x.2.1) b.toNat))
def jdv (t:TkD) (s a b:Int):Bool:=(joL t s).any (jn t a b)
def wP (t:TkD) (a b:Int) (q:List (Int×PeD×Unit)):Bool:=match q.getLast? with|some x=>jn t a b x|none=>false
end U
def jic:jX:=⟨[.val (.slice .int),.val .int],[.int],false,fun _=>[],fun d=>(U.gD (fun x=>decide (x=d.2.1)) d.1,())⟩
def jjP:Ann:=fun r=>match r with
 |2=>some fun σ=>{X:=Nat,sl:=fun i=>[(8,.dat .int (i:Int))],ob:=fun _=>[],inv:=fun i=>i<=(gd (.slice .int) σ 0).length/\∀b:Nat,b<i->decide (nth (gd (.slice .int) σ 0) b=gd .int σ 1)=false,mu:=fun i=>(gd (.slice .int) σ 0).length-i}
 |_=>none
def jhW:Prop:=∀(d:List Int×Int×Unit),d.1.length<4611686018427387904->(∃(x:Nat),((0=(x:Int)/\True)/\True)/\x<=d.1.length/\∀(b:Nat),b<x->decide (nth d.1 b=d.2.1)=false)/\∀(x:Nat),(x<=d.1.length/\∀(b:Nat),b<x->decide (nth d.1 b=d.2.1)=false)->(decide ((x:Int)<(d.1.length:Int))=true->0<=(x:Int)/\(x:Int)<(d.1.length:Int)/\(decide (d.2.1=nth d.1 (x:Int).toNat)=true->((x:Int),())=(U.gD (fun(c:Int)=>decide (c=d.2.1)) d.1,()))/\(decide (d.2.1=nth d.1 (x:Int).toNat)=false->jA ((x:Int)+1)/\∃(a:Nat),(((x:Int)+1=(a:Int)/\True)/\True)/\(a<=d.1.length/\∀(b:Nat),b<a->decide (nth d.1 b=d.2.1)=false)/\d.1.length-a<d.1.length-x))/\(decide ((x:Int)<(d.1.length:Int))=false->((-1:Int),())=(U.gD (fun(e:Int)=>decide (e=d.2.1)) d.1,()))
def jei:jX:=⟨[.val (.slice .int),.val .int],[.bool],false,fun _=>[],fun d=>(d.1.any (fun x=>decide (x=d.2.1)),())⟩
def jd6:Prop:=∀(d:List Int×Int×Unit),(decide (0<=U.gD (fun(a:Int)=>decide (a=d.2.1)) d.1),())=(d.1.any fun(b:Int)=>decide (b=d.2.1),())
def ju9:jX:=⟨[.val tCr,.val tJb],[.ptr tTk,.int],false,fun _=>[],fun d=>(U.jkT d.1 d.2.1,U.zV d.1 d.2.1,())⟩
def juO:Prop:=∀(d:CrD×JbD×Unit),(decide (U.zV d.1 d.2.1≠0)=true->(none,U.zV d.1 d.2.1,())=(U.jkT d.1 d.2.1,U.zV d.1 d.2.1,()))/\(decide (U.zV d.1 d.2.1≠0)=false->0<=d.2.1.2.2.2.2.1/\d.2.1.2.2.2.2.1<(d.1.2.2.1.length:Int)/\(some (d.1,d.2.1,nth d.1.2.2.1 d.2.1.2.2.2.2.1.toNat,()),(0:Int),())=(U.jkT d.1 d.2.1,U.zV d.1 d.2.1,()))
def LM (d:PD [.ref (.ptr tTk),.ref (.uint .u64)]) (xs:List (Ty.st [.int,tPe]).Data):Prop:=xs=U.joL (U.tk d.1) d.2.1
def juy (d:PD [.ref (.ptr tTk),.ref (.uint .u64)]):jhP (YS [.int,tPe]):=fun r=>match r with
 |1=>some fun σ ys=>{X:=Nat,sl:=fun i=>[(12,.dat .int (i:Int))],ob:=fun _=>[],ys:=fun i=>(U.wm (U.tk d.1) d.2.1 i,true),inv:=fun i=>i<=(U.jl (U.tc (U.tk d.1))).length,mu:=fun i=>(U.jl (U.tc (U.tk d.1))).length-i}
 |_=>none
abbrev q26_0 (d:Option (CrD×JbD×LwD×Unit)×Int×Unit):=(jH (((0:Int),[],[],()),((0:Int),(0:Int),(0:Int),(0:Int),(0:Int),(0:Int),()),((0:Int),(0:Int),false,()),()) d.1)
abbrev q26_1 (d:Option (CrD×JbD×LwD×Unit)×Int×Unit):=(U.jl (U.tc (U.tk d.1)))
abbrev q26_2 (x:Nat)(d:Option (CrD×JbD×LwD×Unit)×Int×Unit):=((x:Int),nth (q26_0 d).1.2.1 (x:Int).toNat,())
abbrev q26_3 (x:Nat)(a:Nat):=(((x:Int)+1=(a:Int)/\True)/\True)
def vg:Prop:=∀(d:Option (CrD×JbD×LwD×Unit)×Int×Unit) (l:Nat),d.1.isSome=true->(q26_1 d).length<=60->d.1.isSome=true/\((q26_0 d).1.2.1.length<4611686018427387904->(∃(x:Nat),((0=(x:Int)/\True)/\True)/\([],true)=(U.wm (U.tk d.1) d.2.1 x,true)/\x<=(q26_1 d).length)/\∀(x:Nat),x<=(q26_1 d).length->(decide ((x:Int)<(↑(q26_0 d).1.2.1.length:Int))=true->0<=(x:Int)/\(x:Int)<(↑(q26_0 d).1.2.1.length:Int)/\0<=(x:Int)/\(x:Int)<=64/\(U.jkk d.2.1 (x:Int)=true->l=l/\(∃(rest:List (Int×PeD×Unit)),U.wm (U.tk d.1) d.2.1 x++[(q26_2 x d)]++rest=U.joL (U.tk d.1) d.2.1)/\(((U.jkk d.2.1 (x:Int)&& !true)=true->true=true->U.wm (U.tk d.1) d.2.1 x++[(q26_2 x d)]=U.joL (U.tk d.1) d.2.1)/\((U.jkk d.2.1 (x:Int)&& !true)=false->jA ((x:Int)+1)/\∃(a:Nat),(q26_3 x a)/\(U.wm (U.tk d.1) d.2.1 x++[(q26_2 x d)],true)=(U.wm (U.tk d.1) d.2.1 a,true)/\a<=(q26_1 d).length/\(q26_1 d).length-a<(q26_1 d).length-x))/\((U.jkk d.2.1 (x:Int)&& !false)=true->false=true->U.wm (U.tk d.1) d.2.1 x++[(q26_2 x d)]=U.joL (U.tk d.1) d.2.1)/\((U.jkk d.2.1 (x:Int)&& !false)=false->jA ((x:Int)+1)/\∃(a:Nat),(q26_3 x a)/\(U.wm (U.tk d.1) d.2.1 x++[(q26_2 x d)],false)=(U.wm (U.tk d.1) d.2.1 a,true)/\a<=(q26_1 d).length/\(q26_1 d).length-a<(q26_1 d).length-x))/\(U.jkk d.2.1 (x:Int)=false->((U.jkk d.2.1 (x:Int)&& !false)=true->true=true->U.wm (U.tk d.1) d.2.1 x=U.joL (U.tk d.1) d.2.1)/\((U.jkk d.2.1 (x:Int)&& !false)=false->jA ((x:Int)+1)/\∃(a:Nat),(q26_3 x a)/\(U.wm (U.tk d.1) d.2.1 x,true)=(U.wm (U.tk d.1) d.2.1 a,true)/\a<=(q26_1 d).length/\(q26_1 d).length-a<(q26_1 d).length-x)))/\(decide ((x:Int)<(↑(q26_0 d).1.2.1.length:Int))=false->true=true->U.wm (U.tk d.1) d.2.1 x=U.joL (U.tk d.1) d.2.1))
theorem jaH:(jx0 (ctx 28 [(172,ja9)] []) (zD Tryz.f171) [.int,tPe] [.ref (.ptr tTk),.ref (.uint .u64)] LM (fun d=>[d.1.isSome=true,(U.jl (U.tc (U.tk d.1))).length<=60]) (fun d _=>juy d) (fun d l=>hkY [.int,tPe] l [24] (fun q=>∃rest,LM d (q++rest)) (fun _=>none)))=vg:=by kernel_rfl
def jD:jd0:=⟨[.val (.ptr tTk),.val (.uint .u64)],fun _=>[],171,[.ptr tTk,.uint .u64],fun d=>(d.1,d.2.1,())⟩
def yB:Prop:=∀(d:Option (CrD×JbD×LwD×Unit)×Int×Unit),d=d
theorem jcf:(jxk (ctx 6 [] []) (fun _=>none) Tryz.f125 (zD Tryz.f125) jD)=yB:=by kernel_rfl
def jsn (sv:SV):Option (Prop×(List (Ty.st [.int,tPe]).Data->Prop)):=match sv with
 | .clo 171 [.ep b t,.ep c s]=>(match zc b (.ptr tTk) t,zc c (.uint .u64) s with
  |some a,some d=>some ((a.isSome=true/\(U.jl (U.tc (U.tk a))).length<=60),fun xs=>xs=U.joL (U.tk a) d)
  |_,_=>none)
 |_=>none
def jvu:jpB [.int,tPe]:={ps:=[.ref (.ptr tTk),.ref .int,.ref .int,.own (.box 4 [.dat .bool]) true],slots:=[4,6,7,8],dst:=34,pre:=fun _=>[],G:=fun d q=>((d.2.2.2.1.1||U.wP (U.tk d.1) d.2.1 d.2.2.1 q,()),()),stop:=fun d q=>U.wP (U.tk d.1) d.2.1 d.2.2.1 q,seq:=jsn}
def jh4:Nat->Option ((ts:List Ty)×jpB ts):=fun r=>match r with
 |3=>some ⟨[.int,tPe],jvu⟩
 |_=>none
def jax:jX:=⟨[.val (.ptr tTk),.val (.uint .u64),.val .int,.val .int],[.bool],false,
 fun d=>[d.1.isSome=true,U.vA (U.tk d.1),0<=d.2.2.1,d.2.2.1<U.la (U.tc (U.tk d.1)),0<=d.2.2.2.1,d.2.2.2.1<U.la (U.tc (U.tk d.1))],fun d=>(U.jdv (U.tk d.1) d.2.1 d.2.2.1 d.2.2.2.1,())⟩
abbrev q28_0 (d:Option (CrD×JbD×LwD×Unit)×Int×Int×Int×Unit)(x:Int×PeD×Unit):=((jH (((0:Int),[],[],()),((0:Int),(0:Int),(0:Int),(0:Int),(0:Int),(0:Int),()),((0:Int),(0:Int),false,()),()) d.1).2.2.1.1<=min (nth x.2.1.1 d.2.2.1.toNat) (nth x.2.1.1 d.2.2.2.1.toNat))
def jat:Prop:=∀(d:Option (CrD×JbD×LwD×Unit)×Int×Int×Int×Unit),d.1.isSome=true->U.vA (U.tk d.1)->0<=d.2.2.1->d.2.2.1<U.la (U.tc (U.tk d.1))->0<=d.2.2.2.1->d.2.2.2.1<U.la (U.tc (U.tk d.1))->(d.1.isSome=true/\(U.jl (U.tc (U.tk d.1))).length<=60)/\True/\(d.1,d.2.2.1,d.2.2.2.1,(false||U.wP (U.tk d.1) d.2.2.1 d.2.2.2.1 [],()),())=(d.1,d.2.2.1,d.2.2.2.1,(false,()),())/\(∀(q:List (Int×PeD×Unit)) (x:Int×PeD×Unit) (rest:List (Int×PeD×Unit)),q++x::rest=U.joL (U.tk d.1) d.2.1->kO (fun(a:List (Int×PeD×Unit))=>U.wP (U.tk d.1) d.2.2.1 d.2.2.2.1 a) q->0<=d.2.2.1/\d.2.2.1<(x.2.1.1.length:Int)/\0<=d.2.2.2.1/\d.2.2.2.1<(x.2.1.1.length:Int)/\d.1.isSome=true/\(decide (q28_0 d x)=true->U.wP (U.tk d.1) d.2.2.1 d.2.2.2.1 (q++[x])=true/\((true,()),())=((false||U.wP (U.tk d.1) d.2.2.1 d.2.2.2.1 (q++[x]),()),()))/\(decide (q28_0 d x)=false->U.wP (U.tk d.1) d.2.2.1 d.2.2.2.1 (q++[x])=false/\((false||U.wP (U.tk d.1) d.2.2.1 d.2.2.2.1 q,()),())=((false||U.wP (U.tk d.1) d.2.2.1 d.2.2.2.1 (q++[x]),()),())))/\(∀(xs:List (Int×PeD×Unit)),xs=U.joL (U.tk d.1) d.2.1->kO (fun(b:List (Int×PeD×Unit))=>U.wP (U.tk d.1) d.2.2.1 d.2.2.2.1 b) xs->(false,())=(U.jdv (U.tk d.1) d.2.1 d.2.2.1 d.2.2.2.1,()))/\∀(q:List (Int×PeD×Unit)) (x:Int×PeD×Unit) (rest:List (Int×PeD×Unit)),q++x::rest=U.joL (U.tk d.1) d.2.1->kO (fun(c:List (Int×PeD×Unit))=>U.wP (U.tk d.1) d.2.2.1 d.2.2.2.1 c) q->U.wP (U.tk d.1) d.2.2.1 d.2.2.2.1 (q++[x])=true->(false||U.wP (U.tk d.1) d.2.2.1 d.2.2.2.1 (q++[x]),())=(U.jdv (U.tk d.1) d.2.1 d.2.2.1 d.2.2.2.1,())
theorem jcT:(jsa (jpH 33 [] [] [(125,jD)] []) jax (fun _ _=>none) (hkC (jpH 33 [] [] [(125,jD)] []) (fun _=>none) jh4 [] []) Tryz.f174 (zD Tryz.f174))=jat:=by kernel_rfl
end Go.X
namespace Go.X
open Go.Proofs
theorem jkm:jhW:=by
 rintro⟨l,x,⟨⟩⟩ d;refine⟨⟨0,⟨⟨rfl,trivial⟩,trivial⟩,jDq _,fun b a=>by omega⟩,fun i hi=>⟨fun h=> ?_,fun h=> ?_⟩⟩
 .have h:i<l.length:=(by simpa using h);simp only[jDm] at*;refine⟨by omega,by omega,fun a=> ?_,fun a=>⟨L.in64 (by omega) (by omega),i+1,⟨⟨by simp,trivial⟩,trivial⟩,⟨by omega,fun b c=> ?_⟩,by omega⟩⟩
  .rw[wJ (p:=fun y=>decide (y=x)) h hi.2 (by have:=of_decide_eq_true a;rw[<-this];exact decide_eq_true rfl)]
  .by_cases e:b=i
   .subst e;exact decide_eq_false (fun e=>of_decide_eq_false a e.symm)
   .exact hi.2 b (by omega)
 .have h:l.length<=i:=(by simpa using h);rw[kz (p:=fun y=>decide (y=x)) h hi.2]
theorem jiG:zn PR 98 jic:=wO jjP jkm Tryz.func98 kcN koN
theorem jf6:jd6:=by
 rintro⟨l,x,⟨⟩⟩;exact congrArg (·,()) (jbF (fun y=>decide (y=x)) l)
theorem v8:zn PR 67 jei:=jT jf6 Tryz.func67 (kcC jiG kcN) koN
theorem jdK {c:CrD} {j:JbD} (h:U.zV c j=0):U.ju c=true/\U.zB c j=true:=by
 unfold U.zV at h
 split at h
 .omega
 .split at h
  .omega
  .rename_i a b;exact⟨by simpa using a,by simpa using b⟩
theorem jK {c:CrD} (h:U.ju c=true):2<=U.la c/\U.la c<=5/\(U.jl c).length<=8/\(U.kN c).length=4/\(∀p∈U.jl c,U.y4 (U.la c) p=true)/\∀l∈U.kN c,U.y5 l=true:=by
 unfold U.ju at h;simp only[jDg,decide_eq_true_eq,jDO] at h;exact⟨h.1.1,h.1.2.1,h.1.2.2.1,h.1.2.2.2,h.2.1,h.2.2⟩
theorem jeR {c:CrD} {j:JbD} (h:U.zB c j=true):(0<=U.jAz j/\U.jAz j<U.la c)/\(0<=U.jtP j/\U.jtP j<U.la c)/\U.jAz j≠U.jtP j/\(0<=U.jBl j/\U.jBl j<=7)/\(0<=U.jBk j/\U.jBk j<=3)/\(1<=U.jCz j/\U.jCz j<=8):=by
 unfold U.zB at h;have h:=of_decide_eq_true h;obtain⟨d,m,e,n,f,_,_,g,i,k,l,a,b⟩:=h;exact⟨⟨d,by omega⟩,⟨e,by omega⟩,f,⟨g,i⟩,⟨k,l⟩,a,b⟩
theorem jvL {c:CrD} {j:JbD} (h:U.zV c j=0):U.jkT c j=some (c,j,U.jyu c j,())/\U.vA (c,j,U.jyu c j,()):=by
 obtain⟨a,b⟩:=jdK h;exact⟨by unfold U.jkT;rw[if_pos h],a,b,rfl⟩
theorem jyE:juO:=by
 rintro⟨c,j,⟨⟩⟩;refine⟨fun h=> ?_,fun h=> ?_⟩
 .have h:U.zV c j≠0:=of_decide_eq_true h;simp only;unfold U.jkT;rw[if_neg h]
 .have h:U.zV c j=0:=(by simpa using h);obtain⟨b,d⟩:=jdK h;obtain⟨_,_,_,a,_⟩:=jK b;obtain⟨_,_,_,_,hk,_⟩:=jeR d;have hk:0<=j.2.2.2.2.1/\j.2.2.2.2.1<=3:=hk;have a:c.2.2.1.length=4:=a;refine⟨hk.1,by simp only;omega,?_⟩;simp only;rw[(jvL h).1,h];rfl
theorem jon:zn PR 94 ju9:=jT jyE Tryz.func94 (kcC jkU kcN) koN
theorem jfX (t:TkD) (s:Int) (n:Nat):U.wm t s (n+1)=U.wm t s n++(if U.jkk s (n:Int)=true then[((n:Int),nth (U.jl (U.tc t)) n,())] else[]):=by
 unfold U.wm;rw[L.range_filter_succ,jD9]
 split<;>simp
theorem jwe (t:TkD) (s:Int) {n m:Nat} (h:n<=m):∃rest,U.wm t s n++rest=U.wm t s m:=by
 induction m with
 |zero=>
  have:n=0:=(by omega);subst this;exact⟨[],by simp⟩
 |succ m b=>
  by_cases e:n=m+1
  .subst e;exact⟨[],by simp⟩
  .obtain⟨r,a⟩:=b (by omega);rw[jfX,<-a];exact⟨r++_,by rw[jDu]⟩
theorem jeW:vg:=by
 unfold vg q26_3 q26_2 q26_1 q26_0;rintro⟨(_|t),s,⟨⟩⟩ l i e
 .cases i
 have e:(U.jl (U.tc t)).length<=60:=e;refine⟨rfl,fun _=>⟨⟨0,⟨⟨rfl,trivial⟩,trivial⟩,rfl,jDq _⟩,fun x g=> ?_⟩⟩;have g:x<=(U.jl (U.tc t)).length:=g;have c:U.tk (some t)=t:=rfl;refine⟨fun h=> ?_,fun h=> ?_⟩
 .have h:x<(U.jl (U.tc t)).length:=by
   have:=of_decide_eq_true h;have this:(x:Int)<((U.jl (U.tc t)).length:Int):=this;omega
  have j:(x:Int)<((U.jl (U.tc t)).length:Int):=(by omega);refine⟨by omega,j,by omega,by omega,fun b=> ?_,fun b=> ?_⟩
  .have d:U.wm t s (x+1)=U.wm t s x++[((x:Int),nth (U.jl (U.tc t)) x,())]:=(by rw[jfX,if_pos b]);obtain⟨r,f⟩:=jwe t s (show x+1<=(U.jl (U.tc t)).length by omega);refine⟨rfl,⟨r,by rw[d] at f;exact f⟩,⟨fun a=>absurd a (by rw[Bool.not_true,Bool.and_false];simp),fun _=>⟨L.in64 (by omega) (by omega),x+1,⟨⟨by omega,trivial⟩,trivial⟩,?_,(show x+1<=(U.jl (U.tc t)).length by omega),(show(U.jl (U.tc t)).length-(x+1)<(U.jl (U.tc t)).length-x by omega)⟩⟩,
    fun _ a=>(by cases a),fun a=> ?_⟩
   .rw[c,d];rfl
   .rw[Bool.not_false,Bool.and_true] at a;exact absurd b (by simp only at a⊢;rw[a];simp)
  .have d:U.wm t s (x+1)=U.wm t s x:=by
    rw[jfX,if_neg (by simp only at b⊢;rw[b];simp),jDF]
   refine⟨fun a=> ?_,fun _=>⟨L.in64 (by omega) (by omega),x+1,⟨⟨by omega,trivial⟩,trivial⟩,?_,(show x+1<=(U.jl (U.tc t)).length by omega),(show(U.jl (U.tc t)).length-(x+1)<(U.jl (U.tc t)).length-x by omega)⟩⟩
   .rw[Bool.not_false,Bool.and_true] at a;exact absurd a (by simp only at b⊢;rw[b];simp)
   .rw[c,d]
 .have h:(U.jl (U.tc t)).length<=x:=by
   have:=of_decide_eq_false h;have this:¬(x:Int)<((U.jl (U.tc t)).length:Int):=this;omega
  intro _;rw[show x=(U.jl (U.tc t)).length by omega];rfl
theorem jqp {H:Imm} {lb:Array Value} {d:PD [.ref (.ptr tTk),.ref (.uint .u64)]} (g:pvs PR H [.ref (.ptr tTk),.ref (.uint .u64)] lb.toList d) (a:d.1.isSome=true) (b:(U.jl (U.tc (U.tk d.1))).length<=60):jzd PR H [.int,tPe] (LM d) (.func (.func 171) #[] lb):=
 jzt (C:=ctx 28 [(172,ja9)] []) (jjE ⟨fun _=>jom,trivial⟩ trivial) mixed Tryz.func171 (by kernel_rfl) (by kernel_rfl) (by kernel_rfl) (by kernel_rfl) (by decide) (jaH.mpr jeW) (fun d l B0 R h c e f=>jBD c f) g ⟨a,b,trivial⟩
theorem jhl:yB:=by intro d;rfl
theorem yT:jpE PR 125 jD:=jBF (jcf.mpr jhl) Tryz.func125 (by kernel_rfl) (by kernel_rfl) (by kernel_rfl) (by kernel_rfl) trivial trivial
theorem jAr:∀(f:Nat) (p:Nat×jdX),jt ([]:List (Nat×Nat×jdX)) f=some p->ROK PR f p.2:=fun _ _ h=>by cases h
theorem joK {sv:SV} {h:Prop} {L:List (Ty.st [.int,tPe]).Data->Prop} {v:Value} {ρ:Env} (a:jsn sv=some (h,L)) (b:h) (g:SV.den PR ρ sv v):jzd PR ρ.H [.int,tPe] L v:=by
 unfold jsn at a
 split at a
 case h_2=>cases a
 rename_i o t p s
 split at a
 case h_2=>cases a
 rename_i w u n f;simp only[Option.some.injEq,Prod.mk.injEq] at a;obtain⟨rfl,rfl⟩:=a;obtain⟨e,rfl⟩:=ji n;subst e;obtain⟨i,rfl⟩:=ji f;subst i;simp only[SV.den,SV.denL] at g;obtain⟨lb,rfl,x,r,m,j,y,q,c,k,l⟩:=g;exact jqp (d:=(t,s,())) (by rw[m,c,l];exact⟨j,k,rfl⟩) b.1 b.2
theorem jeN (t:TkD) (a b:Int) (q:List (Int×PeD×Unit)) (x:Int×PeD×Unit):U.wP t a b (q++[x])=U.jn t a b x:=by
 unfold U.wP;rw[List.getLast?_append];simp
theorem jpZ {t:TkD} {a b:Int} {q:List (Int×PeD×Unit)} (h:kO (fun q=>U.wP t a b q) q):q.any (U.jn t a b)=false:=by
 rw[jD1];intro x c;obtain⟨u,v,rfl⟩:=List.append_of_mem c;have:=h u x v rfl;simp only[jeN] at this;rw[this];simp
theorem jtK {t:TkD} {s:Int} {x:Int×PeD×Unit} (h:x∈U.joL t s):x.2.1∈U.jl (U.tc t):=by
 unfold U.joL U.wm at h;obtain⟨i,hi,rfl⟩:=jDP.1 h;have:=jDy.1 (jDC.1 hi).1;exact L.mem_nth this
theorem jAo {n:Int} {p:PeD} (h:U.y4 n p=true):((U.lv p).length:Int)=n:=by
 unfold U.y4 at h;simp only[jDg,decide_eq_true_eq] at h;exact h.1.1
theorem ji9:jat:=by
 unfold jat q28_0;rintro⟨(_|t),s,a,b,⟨⟩⟩ r l v f w g
 .cases r
 obtain⟨c1,c2,A⟩:=l;have c1:U.ju (U.tc t)=true:=c1;obtain⟨B,C,D,E,p,F⟩:=jK c1;have k:(U.jl (U.tc t)).length<=60:=(by omega);have c:U.tk (some t)=t:=rfl;refine⟨⟨rfl,k⟩,trivial,rfl,fun q x rest i e=> ?_,fun xs j e=> ?_,fun q x rest i e d=> ?_⟩
 .have z:x∈U.joL t s:=(by rw[c] at i;rw[<-i];simp);have o:=jAo (p _ (jtK z));have o:((x.2.1.1.length:Nat):Int)=U.la (U.tc t):=o;have f:a<U.la (U.tc t):=f;have g:b<U.la (U.tc t):=g;have m:U.wP t a b q=false:=by
   cases n:q.getLast? with
   |none=>unfold U.wP;rw[n]
   |some y=>
    obtain⟨u,rfl⟩:=List.getLast?_eq_some_iff.1 n;have:=e u y [] rfl;exact this
  refine⟨v,by simp only;omega,w,by simp only;omega,rfl,fun h=> ?_,fun h=> ?_⟩
  .have h:U.jn t a b x=true:=h;have:U.wP t a b (q++[x])=true:=(by rw[jeN];exact h);rw[c];simp only;exact⟨this,by rw[this];rfl⟩
  .have h:U.jn t a b x=false:=h;have:U.wP t a b (q++[x])=false:=(by rw[jeN];exact h);rw[c];simp only;exact⟨this,by rw[this,m]⟩
 .rw[c] at j e;subst j;have:=jpZ e;simp only;rw[c];unfold U.jdv;rw[this]
 .rw[c] at i d⊢;simp only at d⊢;rw[d];unfold U.jdv;rw[<-i];rw[jeN] at d;simp[d]
theorem jpl:(jpH 33 [] [] [(125,jD)] []).ok PR:=jry trivial trivial ⟨yT,trivial⟩ trivial
theorem jha:zn PR 174 jax:=
 jvw (body:=zD Tryz.f174) (C:=jpH 33 [] [] [(125,jD)] []) (hk:=hkC (jpH 33 [] [] [(125,jD)] []) (fun _=>none) jh4 [] []) jpl mixed Tryz.func174 (by kernel_rfl) (by kernel_rfl) (by kernel_rfl) (by decide)
  (fun B=>jlg jpl mixed (fun k ts rs sv d L v ρ hk c a b=>by
   unfold jh4 at hk
   split at hk
   case h_2=>cases hk
   simp only[Option.some.injEq] at hk
   cases hk
   exact joK c a b) jAr B) (jcT.mpr ji9)
end Go.X
namespace Go.X
open Go.Proofs
namespace U
def w6 (x:Int) (N n:Nat):List Int:=List.replicate n x++List.replicate (N-n) 0
def juG (t:TkD) (c:Int) (a b:Nat):Bool:=jdv t c (a:Int) (b:Int)
def jbL (t:TkD) (a:Int):List Int:=bfs (juG t a) (la (tc t)).toNat (jtP (tj t)).toNat
def jM (t:TkD) (a:Int) (k:Nat):List Int×List Int:=qK (juG t a) (la (tc t)).toNat (jtP (tj t)).toNat k
def wz (t:TkD) (a:Int) (x:List Int×List Int) (i:Nat):List Int×List Int:=jfk (juG t a) (nth x.2 0).toNat x i
def jBn (t:TkD) (a:Int) (x:List Int×List Int) (lo:Nat):Prop:=jBp (juG t a) (la (tc t)).toNat (jtP (tj t)).toNat x/\x.2≠[]/\x.2.length<=10/\lo<=10
end U
def glo (σ:St) (s:Nat):Nat:=match σ.get s with
 | .osl _ _ lo _=>lo
 |_=>0
def jlX:jX:=⟨[.val (.uint .u64),.val (.uint .u64)],[.uint .u64,.uint .u64],false,fun d=>[0<=d.1,d.1<=1000,0<=d.2.1,d.2.1<=1000],fun d=>((0:Int),d.1*d.2.1,())⟩
abbrev q29_0 (d:Int×Int×Unit):=(d.1/(2:Int)^Int.toNat 32*wn d.2.1 (4294967295:Int)+wn d.1 (4294967295:Int)*wn d.2.1 (4294967295:Int)/(2:Int)^Int.toNat 32)
abbrev q29_1 (d:Int×Int×Unit):=(d.2.1/(2:Int)^Int.toNat 32)
abbrev q29_2 (d:Int×Int×Unit):=(wn (q29_0 d) (4294967295:Int)+wn d.1 (4294967295:Int)*(q29_1 d))
def jlK:Prop:=∀(d:Int×Int×Unit),0<=d.1->d.1<=1000->0<=d.2.1->d.2.1<=1000->(0:Int)<=32/\(32:Int)<=64/\(0:Int)<=32/\(32:Int)<=64/\0<=wn d.1 (4294967295:Int)*wn d.2.1 (4294967295:Int)/\wn d.1 (4294967295:Int)*wn d.2.1 (4294967295:Int)<=18446744073709551615/\0<=d.1/(2:Int)^Int.toNat 32*wn d.2.1 (4294967295:Int)/\d.1/(2:Int)^Int.toNat 32*wn d.2.1 (4294967295:Int)<=18446744073709551615/\(0:Int)<=32/\(32:Int)<=64/\0<=d.1/(2:Int)^Int.toNat 32*wn d.2.1 (4294967295:Int)+wn d.1 (4294967295:Int)*wn d.2.1 (4294967295:Int)/(2:Int)^Int.toNat 32/\d.1/(2:Int)^Int.toNat 32*wn d.2.1 (4294967295:Int)+wn d.1 (4294967295:Int)*wn d.2.1 (4294967295:Int)/(2:Int)^Int.toNat 32<=18446744073709551615/\(0:Int)<=32/\(32:Int)<=64/\0<=wn d.1 (4294967295:Int)*(q29_1 d)/\wn d.1 (4294967295:Int)*(q29_1 d)<=18446744073709551615/\0<=wn (q29_0 d) (4294967295:Int)+wn d.1 (4294967295:Int)*(q29_1 d)/\wn (q29_0 d) (4294967295:Int)+wn d.1 (4294967295:Int)*(q29_1 d)<=18446744073709551615/\0<=d.1/(2:Int)^Int.toNat 32*(q29_1 d)/\d.1/(2:Int)^Int.toNat 32*(q29_1 d)<=18446744073709551615/\0<=d.1/(2:Int)^Int.toNat 32*(q29_1 d)+(q29_0 d)/(2:Int)^Int.toNat 32/\d.1/(2:Int)^Int.toNat 32*(q29_1 d)+(q29_0 d)/(2:Int)^Int.toNat 32<=18446744073709551615/\(0:Int)<=32/\(32:Int)<=64/\0<=d.1/(2:Int)^Int.toNat 32*(q29_1 d)+(q29_0 d)/(2:Int)^Int.toNat 32+(q29_2 d)/(2:Int)^Int.toNat 32/\d.1/(2:Int)^Int.toNat 32*(q29_1 d)+(q29_0 d)/(2:Int)^Int.toNat 32+(q29_2 d)/(2:Int)^Int.toNat 32<=18446744073709551615/\0<=d.1*d.2.1/\d.1*d.2.1<=18446744073709551615/\(d.1/(2:Int)^Int.toNat 32*(q29_1 d)+(q29_0 d)/(2:Int)^Int.toNat 32+(q29_2 d)/(2:Int)^Int.toNat 32,d.1*d.2.1,())=((0:Int),d.1*d.2.1,())
def jqg:jX:=⟨[.val (.uint .u64),.val (.uint .u64)],[.uint .u64,.uint .u64],false,fun d=>[0<=d.1,d.1<=1000,0<=d.2.1,d.2.1<=1000],fun d=>((0:Int),d.1*d.2.1,())⟩
def jpV:Prop:=∀(d:Int×Int×Unit),0<=d.1->d.1<=1000->0<=d.2.1->d.2.1<=1000->(false=true->False)/\(false=false->0<=d.1/\d.1<=1000/\0<=d.2.1/\d.2.1<=1000/\((0:Int),d.1*d.2.1,())=((0:Int),d.1*d.2.1,()))
def jg5:zH:=⟨[.val (.slice .int),.val .int],[.cl (.row 3 .int .no)],fun d=>[d.1.length=1,0<=d.2.1,d.2.1<=1000],fun d=>((List.replicate d.2.1.toNat (nth d.1 0),()),())⟩
def jht:Ann:=fun r=>match r with
 |8=>some fun σ=>{X:=Nat,sl:=fun n=>[(8,.dat .int (n:Int))],ob:=fun n=>[(7,some (.row 3 .int false .no (U.w6 (nth (gd (.slice .int) σ 0) 0) (gd .int σ 1).toNat n)))],inv:=fun n=>n<=(gd .int σ 1).toNat/\(1<=n\/(gd .int σ 1).toNat=0),mu:=fun n=>(gd .int σ 1).toNat-n}
 |_=>none
abbrev q31_3 (d:List Int×Int×Unit):=(d.1.length:Int)
abbrev q31_1 (d:List Int×Int×Unit):=(List.replicate ((q31_3 d)*d.2.1).toNat (0:Int))
abbrev q31_4 (d:List Int×Int×Unit)(x:Nat):=(U.w6 (nth d.1 0) d.2.1.toNat x)
abbrev q31_0 (d:List Int×Int×Unit)(x:Nat):=(↑(q31_4 d x).length:Int)
abbrev q31_2 (x:Nat)(d:List Int×Int×Unit):=(List.take ((x:Int).toNat-Int.toNat 0) (List.drop (Int.toNat 0) (q31_4 d x)))
abbrev q31_5 (d:List Int×Int×Unit)(x:Nat):=((q31_0 d x).toNat-(x:Int).toNat)
abbrev q31_6 (d:List Int×Int×Unit):=(decide ((0:Int)<0)||decide (9223372036854775807<(q31_3 d)*d.2.1))
def jgR:Prop:=∀(d:List Int×Int×Unit),d.1.length=1->0<=d.2.1->d.2.1<=1000->(decide (d.2.1<0)=true->False)/\(decide (d.2.1<0)=false->d.1.length<4611686018427387904->0<=(q31_3 d)/\(q31_3 d)<=18446744073709551615/\0<=d.2.1/\d.2.1<=18446744073709551615/\0<=(q31_3 d)/\(q31_3 d)<=1000/\0<=d.2.1/\d.2.1<=1000/\((q31_6 d)=true->False)/\((q31_6 d)=false->jA ((q31_3 d)*d.2.1)/\0<=(q31_3 d)*d.2.1/\(q31_3 d)*d.2.1=(q31_3 d)*d.2.1/\((q31_3 d)*d.2.1).toNat*8<=140737488355328/\0+(q31_1 d).length<=(q31_1 d).length/\(∃(x:Nat),(((↑(List.take (q31_1 d).length d.1).length:Int)=(x:Int)/\True)/\juI (q31_1 d) 0 (q31_1 d).length d.1=U.w6 (nth d.1 0) d.2.1.toNat x/\True)/\x<=d.2.1.toNat/\(1<=x\/d.2.1.toNat=0))/\∀(x:Nat),x<=d.2.1.toNat/\(1<=x\/d.2.1.toNat=0)->(q31_4 d x).length<4611686018427387904->(decide ((x:Int)<(q31_0 d x))=true->0<=(x:Int)/\(x:Int)<=(q31_0 d x)/\(q31_0 d x)<=(q31_0 d x)/\(0:Int)<=0/\0<=(x:Int)/\(x:Int)<=(q31_0 d x)/\(x:Int).toNat+(q31_5 d x)<=(q31_4 d x).length/\jA ((x:Int)+(↑(List.take (q31_5 d x) (q31_2 x d)).length:Int))/\∃(a:Nat),(((x:Int)+(↑(List.take (q31_5 d x) (q31_2 x d)).length:Int)=(a:Int)/\True)/\juI (q31_4 d x) (x:Int).toNat (q31_5 d x) (q31_2 x d)=U.w6 (nth d.1 0) d.2.1.toNat a/\True)/\(a<=d.2.1.toNat/\(1<=a\/d.2.1.toNat=0))/\d.2.1.toNat-a<d.2.1.toNat-x)/\(decide ((x:Int)<(q31_0 d x))=false->(U.w6 (nth d.1 0) d.2.1.toNat x,())=(List.replicate d.2.1.toNat (nth d.1 0),())/\()=())))
def wd:jX:=⟨[.val (.ptr tTk),.val (.uint .u64)],[.slice .int],false,fun d=>[d.1.isSome=true,U.vA (U.tk d.1)],fun d=>(U.jbL (U.tk d.1) d.2.1,())⟩
def jm1:Ann:=fun r=>match r with
 |4=>some fun σ=>{X:=Nat×List Int,sl:=fun x=>[(6,.osl 6 .int x.2.length (U.jM (U.tk (gd (.ptr tTk) σ 0)) (gd (.uint .u64) σ 1) x.1).2.length)],ob:=fun x=>[(5,some (.row 3 .int false .no (U.jM (U.tk (gd (.ptr tTk) σ 0)) (gd (.uint .u64) σ 1) x.1).1)),(6,some (.row 3 .int false .no (x.2++(U.jM (U.tk (gd (.ptr tTk) σ 0)) (gd (.uint .u64) σ 1) x.1).2)))],inv:=fun x=>x.2.length<=x.1/\x.1<=(U.la (U.tc (U.tk (gd (.ptr tTk) σ 0)))).toNat,mu:=fun x=>(U.la (U.tc (U.tk (gd (.ptr tTk) σ 0)))).toNat+1-x.1}
 |7=>some fun σ=>{X:=Nat×List Int,sl:=fun x=>[(28,.any),(35,.dat .int (x.1:Int)),(6,.osl 6 .int x.2.length (U.wz (U.tk (gd (.ptr tTk) σ 0)) (gd (.uint .u64) σ 1) (gr .int σ 5,(gr .int σ 6).drop (glo σ 6)) x.1).2.length)],ob:=fun x=>[(5,some (.row 3 .int false .no (U.wz (U.tk (gd (.ptr tTk) σ 0)) (gd (.uint .u64) σ 1) (gr .int σ 5,(gr .int σ 6).drop (glo σ 6)) x.1).1)),(6,some (.row 3 .int false .no (x.2++(U.wz (U.tk (gd (.ptr tTk) σ 0)) (gd (.uint .u64) σ 1) (gr .int σ 5,(gr .int σ 6).drop (glo σ 6)) x.1).2)))],inv:=fun x=>x.1<=(gr .int σ 5).length/\x.2.length<=glo σ 6/\U.jBn (U.tk (gd (.ptr tTk) σ 0)) (gd (.uint .u64) σ 1) (gr .int σ 5,(gr .int σ 6).drop (glo σ 6)) (glo σ 6),mu:=fun x=>(gr .int σ 5).length-x.1}
 |2000011=>some fun σ=>{X:=Unit,sl:=fun _=>[],ob:=fun _=>[],inv:=fun _=>True,mu:=fun _=>0}
 |_=>none
abbrev q32_1 (d:Option (CrD×JbD×LwD×Unit)×Int×Unit):=(jH (((0:Int),[],[],()),((0:Int),(0:Int),(0:Int),(0:Int),(0:Int),(0:Int),()),((0:Int),(0:Int),false,()),()) d.1)
abbrev q32_3 (d:Option (CrD×JbD×LwD×Unit)×Int×Unit)(x:Nat×List Int):=(U.jM (U.tk d.1) d.2.1 x.1)
abbrev q32_2 (d:Option (CrD×JbD×LwD×Unit)×Int×Unit)(x:Nat×List Int):=((q32_3 d x).1,List.drop x.2.length (x.2++(q32_3 d x).2))
abbrev q32_0 (d:Option (CrD×JbD×LwD×Unit)×Int×Unit)(x:Nat×List Int)(a:Nat×List Int):=(U.wz (U.tk d.1) d.2.1 (q32_2 d x) a.1)
abbrev q32_4 (d:Option (CrD×JbD×LwD×Unit)×Int×Unit)(x:Nat×List Int)(a:Nat×List Int):=(nth (q32_0 d x a).1 (a.1:Int).toNat<0)
abbrev q32_5 (a:Nat×List Int):=(a.2.length+Int.toNat 0)
abbrev q32_6 (d:Option (CrD×JbD×LwD×Unit)×Int×Unit)(x:Nat×List Int)(a:Nat×List Int):=(U.wz (U.tk d.1) d.2.1 (q32_2 d x) a.1)
def jlG:Prop:=∀(d:Option (CrD×JbD×LwD×Unit)×Int×Unit),d.1.isSome=true->U.vA (U.tk d.1)->d.1.isSome=true/\[(-1:Int)].length=1/\(0:Int)<=(q32_1 d).1.1/\(q32_1 d).1.1<=1000/\d.1.isSome=true/\(0:Int)<=(q32_1 d).2.1.2.1/\(q32_1 d).2.1.2.1<(↑(List.replicate (q32_1 d).1.1.toNat (nth [(-1:Int)] 0)).length:Int)/\d.1.isSome=true/\(∃(x:Nat×List Int),(((x.2.length=0/\(q32_3 d x).2.length=[(q32_1 d).2.1.2.1].length)/\True)/\(List.replicate (q32_1 d).1.1.toNat (nth [(-1:Int)] 0)).set (q32_1 d).2.1.2.1.toNat 0=(q32_3 d x).1/\[(q32_1 d).2.1.2.1]=x.2++(q32_3 d x).2/\True)/\x.2.length<=x.1/\x.1<=(U.la (U.tc (U.tk d.1))).toNat)/\∀(x:Nat×List Int),x.2.length<=x.1/\x.1<=(U.la (U.tc (U.tk d.1))).toNat->(q32_3 d x).2.length<4611686018427387904->(decide ((0:Int)<(↑(q32_3 d x).2.length:Int))=true->(q32_3 d x).1.length<4611686018427387904->(∃(a:Nat×List Int),((0=(a.1:Int)/\(x.2.length=a.2.length/\(q32_3 d x).2.length=(q32_0 d x a).2.length)/\True)/\(q32_3 d x).1=(q32_0 d x a).1/\x.2++(q32_3 d x).2=a.2++(q32_0 d x a).2/\True)/\a.1<=(q32_3 d x).1.length/\a.2.length<=x.2.length/\U.jBn (U.tk d.1) d.2.1 (q32_2 d x) x.2.length)/\∀(a:Nat×List Int),a.1<=(q32_3 d x).1.length/\a.2.length<=x.2.length/\U.jBn (U.tk d.1) d.2.1 (q32_2 d x) x.2.length->(decide ((a.1:Int)<(↑(q32_3 d x).1.length:Int))=true->0<=(a.1:Int)/\(a.1:Int)<(↑(q32_0 d x a).1.length:Int)/\(decide (q32_4 d x a)=true->(0:Int)<=0)/\(decide (q32_4 d x a)=true->(0:Int)<(↑(q32_0 d x a).2.length:Int))/\(decide (q32_4 d x a)=true->d.1.isSome=true)/\(decide (q32_4 d x a)=true->U.vA (U.tk d.1))/\(decide (q32_4 d x a)=true->0<=nth (a.2++(q32_0 d x a).2) (q32_5 a))/\(decide (q32_4 d x a)=true->nth (a.2++(q32_0 d x a).2) (q32_5 a)<U.la (U.tc (U.tk d.1)))/\(decide (q32_4 d x a)=true->0<=(a.1:Int))/\(decide (q32_4 d x a)=true->(a.1:Int)<U.la (U.tc (U.tk d.1)))/\((decide (q32_4 d x a)&&U.jdv (U.tk d.1) d.2.1 (nth (a.2++(q32_0 d x a).2) (q32_5 a)) (a.1:Int))=true->(0:Int)<=0/\(0:Int)<(↑(q32_0 d x a).2.length:Int)/\0<=nth (a.2++(q32_0 d x a).2) (q32_5 a)/\nth (a.2++(q32_0 d x a).2) (q32_5 a)<(↑(q32_0 d x a).1.length:Int)/\jA (nth (q32_0 d x a).1 (nth (a.2++(q32_0 d x a).2) (q32_5 a)).toNat+1)/\0<=(a.1:Int)/\(a.1:Int)<(↑(q32_0 d x a).1.length:Int)/\a.2.length+(q32_0 d x a).2.length=(a.2++(q32_0 d x a).2).length/\0<(q32_0 d x a).2.length/\a.2.length+(q32_0 d x a).2.length+[(a.1:Int)].length<4611686018427387904/\((q32_0 d x a).2.length+[(a.1:Int)].length)*8<=140737488355328/\∀(pre:List Int),pre.length<=a.2.length->jA ((a.1:Int)+1)/\∃(b:Nat×List Int),(((a.1:Int)+1=(b.1:Int)/\(pre.length=b.2.length/\(q32_0 d x a).2.length+[(a.1:Int)].length=(q32_6 d x b).2.length)/\True)/\pre++List.drop a.2.length (a.2++(q32_0 d x a).2)++[(a.1:Int)]=b.2++(q32_6 d x b).2/\(q32_0 d x a).1.set (a.1:Int).toNat (nth (q32_0 d x a).1 (nth (a.2++(q32_0 d x a).2) (q32_5 a)).toNat+1)=(q32_6 d x b).1/\True)/\(b.1<=(q32_3 d x).1.length/\b.2.length<=x.2.length/\U.jBn (U.tk d.1) d.2.1 (q32_2 d x) x.2.length)/\(q32_3 d x).1.length-b.1<(q32_3 d x).1.length-a.1)/\((decide (q32_4 d x a)&&U.jdv (U.tk d.1) d.2.1 (nth (a.2++(q32_0 d x a).2) (q32_5 a)) (a.1:Int))=false->jA ((a.1:Int)+1)/\∃(b:Nat×List Int),(((a.2.length=b.2.length/\(q32_0 d x a).2.length=(q32_6 d x b).2.length)/\(a.1:Int)+1=(b.1:Int)/\True)/\a.2++(q32_0 d x a).2=b.2++(q32_6 d x b).2/\(q32_0 d x a).1=(q32_6 d x b).1/\True)/\(b.1<=(q32_3 d x).1.length/\b.2.length<=x.2.length/\U.jBn (U.tk d.1) d.2.1 (q32_2 d x) x.2.length)/\(q32_3 d x).1.length-b.1<(q32_3 d x).1.length-a.1))/\(decide ((a.1:Int)<(↑(q32_3 d x).1.length:Int))=false->(0:Int)<=1/\(1:Int)<=(↑(q32_0 d x a).2.length:Int)/\(↑(q32_0 d x a).2.length:Int)<=(↑(q32_0 d x a).2.length:Int)/\∃(b:Nat×List Int),(((a.2.length+Int.toNat 1=b.2.length/\(↑(q32_0 d x a).2.length:Int).toNat-Int.toNat 1=(U.jM (U.tk d.1) d.2.1 b.1).2.length)/\True)/\(q32_0 d x a).1=(U.jM (U.tk d.1) d.2.1 b.1).1/\a.2++(q32_0 d x a).2=b.2++(U.jM (U.tk d.1) d.2.1 b.1).2/\True)/\(b.2.length<=b.1/\b.1<=(U.la (U.tc (U.tk d.1))).toNat)/\(U.la (U.tc (U.tk d.1))).toNat+1-b.1<(U.la (U.tc (U.tk d.1))).toNat+1-x.1))/\(decide ((0:Int)<(↑(q32_3 d x).2.length:Int))=false->((q32_3 d x).1,())=(U.jbL (U.tk d.1) d.2.1,()))
end Go.X
namespace Go.X
open Go.Proofs
theorem jlM {x:Int} (a:0<=x) (b:x<=4294967295):wn x 4294967295=x:=by
 obtain⟨n,rfl⟩:∃n:Nat,x=(n:Int):=⟨x.toNat,by omega⟩;rw[show(4294967295:Int)=((4294967295:Nat):Int) from rfl,BT.uand_nat (by omega) (by omega),show(4294967295:Nat)=2^32-1 from rfl,Nat.and_two_pow_sub_one_eq_mod,Nat.mod_eq_of_lt (by omega)]
theorem joZ:jlK:=by
 unfold jlK q29_2 q29_1 q29_0;rintro⟨x,y,⟨⟩⟩ b c a d;simp only at b c a d;have f:=jlM b (by omega);have g:=jlM a (by omega);have e:=jlM (x:=0) (by omega) (by omega);have h:x/2^Int.toNat 32=0:=Int.ediv_eq_zero_of_lt b (by show x<2^32;omega);have i:y/2^Int.toNat 32=0:=Int.ediv_eq_zero_of_lt a (by show y<2^32;omega);have k:0<=x*y:=Int.mul_nonneg b a;have l:x*y<=1000*1000:=Int.mul_le_mul c d a (by omega);have c1:x*y/2^Int.toNat 32=0:=Int.ediv_eq_zero_of_lt k (by show x*y<2^32;omega);have j:(0:Int)/2^Int.toNat 32=0:=Int.zero_ediv _;simp only[f,g,h,i,Int.zero_mul,Int.mul_zero,Int.zero_add,Int.add_zero,c1,e,j]
 and_intros<;>first|omega|rfl|trivial
theorem jmm:zn PR 201 jlX:=jT joZ Tryz.func201 kcN koN
theorem jt0:jpV:=by
 rintro⟨x,y,⟨⟩⟩ a b c d;exact⟨fun h=>(by cases h),fun _=>⟨a,b,c,d,rfl⟩⟩
theorem jqQ:zn PR 194 jqg:=jT jt0 Tryz.func194 (kcC jmm kcN) koN
theorem jmD {x:Int} {N n:Nat} (h:n<=N):(U.w6 x N n).length=N:=by
 unfold U.w6;simp;omega
theorem joS {x:Int} {N n:Nat} (h:n<=N):(U.w6 x N n).take n=List.replicate n x:=by
 unfold U.w6;rw[List.take_append_of_le_length (by simp),jD7 (by simp)]
theorem jwy {x:Int} {N n:Nat} (h:n<=N):juI (U.w6 x N n) n (N-n) (List.replicate n x)=U.w6 x N (n+min (N-n) n):=by
 unfold juI;rw[joS h,List.take_replicate,jEf];unfold U.w6;rw[List.drop_append,jEf,List.drop_of_length_le (by simp),jDB,List.drop_replicate,<-List.replicate_append_replicate];congr 2;omega
theorem jje:jgR:=by
 unfold jgR q31_6 q31_5 q31_2 q31_0 q31_4 q31_1 q31_3;rintro⟨l,n,⟨⟩⟩ b g e;simp only at b g e;obtain⟨N,rfl⟩:∃N:Nat,n=(N:Int):=⟨n.toNat,by omega⟩;obtain⟨y,rfl⟩:∃y,l=[y]:=by
  cases l with
  |nil=>simp at b
  |cons y r=>cases r with
   |nil=>exact⟨y,rfl⟩
   |cons z r=>simp at b
 have c:(([y].length:Nat):Int)*(N:Int)=(N:Int):=(by simp);have f:nth [y] 0=y:=rfl
 dsimp only
 refine⟨fun h=> ?_,fun _ _=>⟨by simp,by simp,by omega,by omega,by simp,by simp,by omega,e,fun h=> ?_,fun _=> ?_⟩⟩
 .have:=of_decide_eq_true h;omega
 .rw[c] at h;have h:(9223372036854775807:Int)<(N:Int):=(by simpa using h);omega
 rw[c,f];simp only[jDm,jEf];refine⟨L.in64 (by omega) (by omega),by omega,trivial,by omega,by omega,⟨min 1 N,⟨⟨?_,trivial⟩,?_,trivial⟩,by omega,by omega⟩,fun x a i=>⟨fun h=> ?_,fun h=> ?_⟩⟩
 .rw[jDG];simp only[jDL,jDZ];omega
 .rcases jEk N with d|d
  .subst d;rfl
  .obtain⟨M,rfl⟩:∃M,N=M+1:=⟨N-1,by omega⟩;have:min 1 (M+1)=1:=(by omega);rw[this];simp[juI,U.w6,List.replicate_succ]
 .have h:=of_decide_eq_true h;rw[jmD a.1] at h;simp only[jmD a.1,jDm,Int.toNat_zero,List.drop_zero,Nat.sub_zero,joS a.1,List.take_replicate,jEf];refine⟨by omega,by omega,by omega,by omega,by omega,by omega,by omega,L.in64 (by omega) (by omega),x+min (N-x) x,⟨⟨by omega,trivial⟩,jwy a.1,trivial⟩,⟨by omega,by omega⟩,by omega⟩
 .have h:=of_decide_eq_false h;rw[jmD a.1] at h;have h:x=N:=(by have:=a.1;omega);subst h;refine⟨?_,trivial⟩;unfold U.w6;rw[Nat.sub_self];simp
theorem jhf:wY PR 173 jg5:=jgA jht jje Tryz.func173 (kcC jqQ kcN) koN
theorem jAq {a b:List Int}:nth (a++b) (a.length+Int.toNat 0)=nth b 0:=by
 unfold nth;simp only[jDJ,Int.toNat_zero,jEm];rw[jDn (jDf _),Nat.sub_self]
theorem jo8 {t:TkD} {s:Int} (a:U.vA t):2<=U.la (U.tc t)/\U.la (U.tc t)<=5/\0<=U.jtP (U.tj t)/\U.jtP (U.tj t)<U.la (U.tc t):=by
 obtain⟨c1,c2,_⟩:=a;obtain⟨b,c,_⟩:=jK c1;obtain⟨_,⟨d,e⟩,_⟩:=jeR c2;exact⟨b,c,d,e⟩
theorem joV:jlG:=by
 unfold jlG q32_6 q32_5 q32_4 q32_0 q32_2 q32_3 q32_1;rintro⟨(_|t),s,⟨⟩⟩ h0 m
 .cases h0
 have m:U.vA t:=m;obtain⟨l1,l2,j1,j2⟩:=jo8 (s:=s) m;have w:U.tk (some t)=t:=rfl;obtain⟨n,A⟩:∃n,n=(U.la (U.tc t)).toNat:=⟨_,rfl⟩;obtain⟨v,hv⟩:∃v,v=(U.jtP (U.tj t)).toNat:=⟨_,rfl⟩;have hs:v<n:=(by omega);have Y:∀k,jBp (U.juG t s) n v (U.jM t s k)/\((U.jM t s k).2=[]\/joI (U.jM t s k).1+(U.jM t s k).2.length+k=n):=by
  intro k;rw[A,hv] at*;exact jqs hs k
 refine⟨rfl,rfl,(by omega:0<=U.la (U.tc t)),(by omega:U.la (U.tc t)<=1000),rfl,j1,?_,rfl,⟨(0,[]),⟨⟨⟨rfl,rfl⟩,trivial⟩,rfl,?_,trivial⟩,jDf _,jDq _⟩,fun x hx T=>⟨fun j V=> ?_,fun h=> ?_⟩⟩
 .show U.jtP (U.tj t)<(((List.replicate (U.la (U.tc t)).toNat (nth [(-1:Int)] 0)).length:Nat):Int);rw[jEf];omega
 .show[U.jtP (U.tj t)]=[]++[(((U.jtP (U.tj t)).toNat:Nat):Int)];rw[jDB,Int.toNat_of_nonneg j1]
 .obtain⟨k,pre⟩:=x;obtain⟨X,H⟩:=hx;simp only[w,List.drop_left] at X H j V T⊢;rw[<-A] at H⊢;obtain⟨B,o⟩:=Y k;have j:0<(U.jM t s k).2.length:=(by have:=of_decide_eq_true j;omega);have d:(U.jM t s k).2≠[]:=fun e=>by rw[e] at j;simp at j
  have F:=B.i.len;rcases o with o|o
  .exact absurd o d
  have p:U.jM t s (k+1)=U.wU (U.juG t s) n (U.jM t s k):=(by rw[A];rfl);generalize W:U.jM t s k=x0 at*;obtain⟨g,r0,a⟩:∃q r,x0.2=q::r:=by
   cases I:x0.2 with
   |nil=>exact absurd I d
   |cons q r=>exact⟨q,r,rfl⟩
  obtain⟨M,g2,g3⟩:=B.i.que g (by rw[a];simp);have y:nth x0.2 0=g:=(by rw[a];rfl);have hla:((n:Nat):Int)=U.la (U.tc t):=(by omega);have f:U.jBn t s (x0.1,x0.2) pre.length:=by
   unfold U.jBn;rw[<-A,<-hv];exact⟨B,d,by simp only;omega,by omega⟩
  refine⟨⟨(0,pre),⟨⟨rfl,⟨rfl,rfl⟩,trivial⟩,rfl,rfl,trivial⟩,jDq _,jDf _,f⟩,?_⟩;rintro⟨i,p5⟩ ⟨hi,R,_⟩;simp only at hi R;have C:InI (U.juG t s) n v g.toNat i x0 (U.wz t s (x0.1,x0.2) i):=by
   have:=jwx (J:=U.juG t s) hs (q:=g.toNat) (by omega) g3 B.i B.le i (by omega);unfold U.wz;simp only[y];exact this
  have c:U.wz t s (x0.1,x0.2) (i+1)=U.jfj (U.juG t s) g.toNat (U.wz t s (x0.1,x0.2) i) i:=by
   unfold U.wz;simp only[y];exact jlv _ _ _ _
  have D:i=n->U.jM t s (k+1)=((U.wz t s (x0.1,x0.2) i).1,(U.wz t s (x0.1,x0.2) i).2.drop 1):=by
   intro e;subst e;rw[p];have:U.wU (U.juG t s) i x0=((U.jfk (U.juG t s) g.toNat x0 i).1,(U.jfk (U.juG t s) g.toNat x0 i).2.drop 1):=by
    clear p c C f F d B Y W;obtain⟨st,qu⟩:=x0;simp only at a;subst a;rfl
   rw[this];unfold U.wz;simp only[y]
  generalize hFI:U.wz t s (x0.1,x0.2) i=u at*;obtain⟨l,Q⟩:=C.pre;have hQ:nth u.2 0=g:=(by rw[Q,a];rfl);have G:0<u.2.length:=(by rw[Q,a];simp);have hmu:=C.mu;have hFl:=C.i.len;have E:∀i:Nat,U.juG t s g.toNat i=U.jdv t s g (i:Int):=by
   intro i;unfold U.juG;rw[Int.toNat_of_nonneg M]
  simp only[jAq,hQ];simp only[jDm];refine⟨fun h=> ?_,fun h=> ?_⟩
  .have h:i<n:=(by have:=of_decide_eq_true h;omega);refine⟨by omega,by omega,fun _=>by omega,fun _=>by omega,fun _=>rfl,fun _=>m,fun _=>M,fun _=>by omega,fun _=>by omega,fun _=>by omega,fun z=> ?_,fun z=> ?_⟩
   .rw[jDg] at z;have h3:=of_decide_eq_true z.1;have Z:=C.i.low g.toNat (by omega);have b:U.wz t s (x0.1,x0.2) (i+1)=(u.1.set i (nth u.1 g.toNat+1),u.2++[(i:Int)]):=by
     rw[c];unfold U.jfj;rw[if_pos ⟨h3,by rw[E];exact z.2⟩]
    refine⟨by omega,by omega,M,by omega,L.in64 (by omega) (by omega),by omega,by omega,by simp,G,by simp only[jDL,jDZ];omega,by simp only[jDL,jDZ];omega,fun K S=>⟨L.in64 (by omega) (by omega),(i+1,K),⟨⟨by simp,⟨rfl,?_⟩,trivial⟩,?_,?_,trivial⟩,⟨by simp only;omega,by simp only;omega,f⟩,by simp only;omega⟩⟩
    .rw[b];simp
    .rw[b,jDu]
    .rw[b]
   .have b:U.wz t s (x0.1,x0.2) (i+1)=u:=by
     rw[c];unfold U.jfj;rw[if_neg (fun O=>by
      rw[E] at O;rw[O.2,decide_eq_true O.1] at z;cases z)]
    refine⟨L.in64 (by omega) (by omega),(i+1,p5),⟨⟨⟨rfl,?_⟩,by simp,trivial⟩,?_,?_,trivial⟩,⟨by simp only;omega,by simp only;omega,f⟩,by simp only;omega⟩
    .rw[b]
    .rw[b]
    .rw[b]
  .have h:i=n:=(by have:=of_decide_eq_false h;omega);have P:=D h;have N:u.2=g::(r0++l):=(by rw[Q,a];rfl);refine⟨by omega,by omega,by omega,(k+1,p5++[g]),⟨⟨⟨?_,?_⟩,trivial⟩,?_,?_,trivial⟩,⟨by simp only[jDA,jDL,jDZ];omega,by simp only;omega⟩,by simp only;omega⟩
   .simp only[jDA,jDL,jDZ];rfl
   .rw[P];simp only[jEu];rfl
   .rw[P]
   .rw[P,N];simp
 .simp only[w] at h⊢;have h:(U.jM t s x.1).2=[]:=by
   have:=of_decide_eq_false h;exact jDR (by omega)
  have hk:x.1<=n:=(by have:=hx.2;rw[w,<-A] at this;exact this);have h1:U.qK (U.juG t s) (U.la (U.tc t)).toNat (U.jtP (U.tj t)).toNat ((U.la (U.tc t)).toNat+1)=U.jM t s x.1:=jy4 (k:=x.1) h _ (by rw[<-A];omega);show((U.jM t s x.1).1,())=((U.qK (U.juG t s) (U.la (U.tc t)).toNat (U.jtP (U.tj t)).toNat ((U.la (U.tc t)).toNat+1)).1,());rw[h1]
theorem jmk:zn PR 127 wd:=wO jm1 joV Tryz.func127 (kcC jha kcN) (koC jhf koN)
end Go.X
namespace Go.X
open Go.Proofs
namespace U
def jaM (t:TkD) (o:Int) (q:List (Int×PeD×Unit)):Int:=q.foldl (fun o x=>uor o (wt t x.2.1)) o
def jff (q:List (Int×PeD×Unit)):Bool:=q.any (fun x=>deaf x.2.1)
def jvJ (b:Bool) (o k:Int):Int:=if b=true then uor o k else o
def ki (t:TkD) (s:Int):Int:=jvJ (decide (nth (jbL t s) (jAz (tj t)).toNat<0)) (jvJ (jC8 (tl t)&& !jff (joL t s)) (jvJ (decide (BT.size s≠max (jCz (tj t)) (jCy (tl t)))) (jaM t 0 (joL t s)) 8) 16) 32
def jwp (c:CrD) (n:Int):Bool:=ja n 0 (2^(jl c).length-1)
def vl (c:CrD) (j:JbD) (n:Int):Int:=if zV c j≠0 then zV c j else if jwp c n=true then 0 else 1
def jB9 (c:CrD) (j:JbD) (n:Int):Int:=if vl c j n=0 then ki (c,j,jyu c j,()) n else 0
def vE (c:CrD) (j:JbD) (n:Nat):List Int:=((List.range n).filter (fun i=>decide (wt (c,j,jyu c j,()) (nth (jl c) i)=0))).map (fun(i:Nat)=>(i:Int))
def zZ (c:CrD) (j:JbD):List Int:=if zV c j=0 then vE c j (jl c).length else[]
end U
def kl:jX:=⟨[.val (.ptr tTk),.val tPe],[.uint .u64],false,fun d=>[d.1.isSome=true,U.vA (U.tk d.1)],fun d=>(U.wt (U.tk d.1) d.2.1,())⟩
def jvv:jpB [.int,tPe]:={ps:=[.ref (.ptr tTk),.own (.box 132 [.dat (.uint .u64)]) true,.own (.box 4 [.dat .bool]) true],slots:=[2,4,5],dst:=65,pre:=fun d=>[d.1.isSome=true,U.vA (U.tk d.1)],G:=fun d q=>((U.jaM (U.tk d.1) d.2.1.1 q,()),(d.2.2.1.1||U.jff q,()),()),seq:=jsn}
def jh5:Nat->Option ((ts:List Ty)×jpB ts):=fun r=>match r with
 |4=>some ⟨[.int,tPe],jvv⟩
 |_=>none
def jay:jX:=⟨[.val (.ptr tTk),.val (.uint .u64)],[.uint .u64],false,fun d=>[d.1.isSome=true,U.vA (U.tk d.1),BT.Set' d.2.1],fun d=>(U.ki (U.tk d.1) d.2.1,())⟩
abbrev q33_0 (d:Option (CrD×JbD×LwD×Unit)×Int×Unit):=(jH (((0:Int),[],[],()),((0:Int),(0:Int),(0:Int),(0:Int),(0:Int),(0:Int),()),((0:Int),(0:Int),false,()),()) d.1)
abbrev q33_1 (d:Option (CrD×JbD×LwD×Unit)×Int×Unit):=(nth (U.jbL (U.tk d.1) d.2.1) (q33_0 d).2.1.1.toNat<0)
abbrev q33_2 (d:Option (CrD×JbD×LwD×Unit)×Int×Unit):=(U.ki (U.tk d.1) d.2.1,())
abbrev q33_3 (d:Option (CrD×JbD×LwD×Unit)×Int×Unit):=(↑(U.jbL (U.tk d.1) d.2.1).length:Int)
def jau:Prop:=∀(d:Option (CrD×JbD×LwD×Unit)×Int×Unit),d.1.isSome=true->U.vA (U.tk d.1)->BT.Set' d.2.1->(d.1.isSome=true/\(U.jl (U.tc (U.tk d.1))).length<=60)/\(d.1.isSome=true/\U.vA (U.tk d.1)/\True)/\(d.1,(U.jaM (U.tk d.1) (0:Int) [],()),(false||U.jff [],()),())=(d.1,((0:Int),()),(false,()),())/\(∀(q:List (Int×PeD×Unit)) (x:Int×PeD×Unit) (rest:List (Int×PeD×Unit)),q++x::rest=U.joL (U.tk d.1) d.2.1->kO (fun(a:List (Int×PeD×Unit))=>false) q->d.1.isSome=true/\U.vA (U.tk d.1)/\false=false/\((uor (U.jaM (U.tk d.1) (0:Int) q) (U.wt (U.tk d.1) x.2.1),()),(false||U.jff q||x.2.1.2.2.2.2.1,()),())=((U.jaM (U.tk d.1) (0:Int) (q++[x]),()),(false||U.jff (q++[x]),()),()))/\(∀(xs:List (Int×PeD×Unit)),xs=U.joL (U.tk d.1) d.2.1->kO (fun(b:List (Int×PeD×Unit))=>false) xs->BT.Set' d.2.1/\d.1.isSome=true/\d.1.isSome=true/\(decide (BT.size d.2.1≠max (q33_0 d).2.1.2.2.2.2.2.1 (q33_0 d).2.2.1.2.1)=true->d.1.isSome=true/\(((q33_0 d).2.2.1.2.2.1&& !(false||U.jff xs))=true->d.1.isSome=true/\U.vA (U.tk d.1)/\d.1.isSome=true/\(0:Int)<=(q33_0 d).2.1.1/\(q33_0 d).2.1.1<(q33_3 d)/\(decide (q33_1 d)=true->(uor (uor (uor (U.jaM (U.tk d.1) (0:Int) xs) (8:Int)) (16:Int)) (32:Int),())=(q33_2 d))/\(decide (q33_1 d)=false->(uor (uor (U.jaM (U.tk d.1) (0:Int) xs) (8:Int)) (16:Int),())=(q33_2 d)))/\(((q33_0 d).2.2.1.2.2.1&& !(false||U.jff xs))=false->d.1.isSome=true/\U.vA (U.tk d.1)/\d.1.isSome=true/\(0:Int)<=(q33_0 d).2.1.1/\(q33_0 d).2.1.1<(q33_3 d)/\(decide (q33_1 d)=true->(uor (uor (U.jaM (U.tk d.1) (0:Int) xs) (8:Int)) (32:Int),())=(q33_2 d))/\(decide (q33_1 d)=false->(uor (U.jaM (U.tk d.1) (0:Int) xs) (8:Int),())=(q33_2 d))))/\(decide (BT.size d.2.1≠max (q33_0 d).2.1.2.2.2.2.2.1 (q33_0 d).2.2.1.2.1)=false->d.1.isSome=true/\(((q33_0 d).2.2.1.2.2.1&& !(false||U.jff xs))=true->d.1.isSome=true/\U.vA (U.tk d.1)/\d.1.isSome=true/\(0:Int)<=(q33_0 d).2.1.1/\(q33_0 d).2.1.1<(q33_3 d)/\(decide (q33_1 d)=true->(uor (uor (U.jaM (U.tk d.1) (0:Int) xs) (16:Int)) (32:Int),())=(q33_2 d))/\(decide (q33_1 d)=false->(uor (U.jaM (U.tk d.1) (0:Int) xs) (16:Int),())=(q33_2 d)))/\(((q33_0 d).2.2.1.2.2.1&& !(false||U.jff xs))=false->d.1.isSome=true/\U.vA (U.tk d.1)/\d.1.isSome=true/\(0:Int)<=(q33_0 d).2.1.1/\(q33_0 d).2.1.1<(q33_3 d)/\(decide (q33_1 d)=true->(uor (U.jaM (U.tk d.1) (0:Int) xs) (32:Int),())=(q33_2 d))/\(decide (q33_1 d)=false->(U.jaM (U.tk d.1) (0:Int) xs,())=(q33_2 d)))))/\∀(q:List (Int×PeD×Unit)) (x:Int×PeD×Unit) (rest:List (Int×PeD×Unit)),q++x::rest=U.joL (U.tk d.1) d.2.1->kO (fun(c:List (Int×PeD×Unit))=>false) q->false=true->(U.jaM (U.tk d.1) (0:Int) (q++[x]),())=(q33_2 d)
theorem jcU:(jsa (jpH 64 [(95,kl),(126,we),(127,wd)] [] [(125,jD)] []) jay (fun _ _=>none) (hkC (jpH 64 [(95,kl),(126,we),(127,wd)] [] [(125,jD)] []) (fun _=>none) jh5 [] []) Tryz.f104 (zD Tryz.f104))=jau:=by kernel_rfl
def ju8:jX:=⟨[.val tCr,.val tJb,.val .int],[.ptr tTk,.int],false,fun _=>[],fun d=>(U.jkT d.1 d.2.1,U.vl d.1 d.2.1 d.2.2.1,())⟩
abbrev q34_1 (d:CrD×JbD×Int×Unit):=(U.zV d.1 d.2.1=0)
abbrev q34_0 (d:CrD×JbD×Int×Unit):=(decide (q34_1 d)&& !U.ja d.2.2.1 (0:Int) ((1:Int)*2^(d.1.2.1.length:Int).toNat-1))
def juN:Prop:=∀(d:CrD×JbD×Int×Unit),(decide (q34_1 d)=true->d.1.2.1.length<4611686018427387904)->(decide (q34_1 d)=true->0<=(d.1.2.1.length:Int))/\(decide (q34_1 d)=true->(d.1.2.1.length:Int)<=64)/\(decide (q34_1 d)=true->jA ((1:Int)*2^(d.1.2.1.length:Int).toNat))/\(decide (q34_1 d)=true->jA ((1:Int)*2^(d.1.2.1.length:Int).toNat-1))/\((q34_0 d)=true->(U.jkT d.1 d.2.1,(1:Int),())=(U.jkT d.1 d.2.1,U.vl d.1 d.2.1 d.2.2.1,()))/\((q34_0 d)=false->(U.jkT d.1 d.2.1,U.zV d.1 d.2.1,())=(U.jkT d.1 d.2.1,U.vl d.1 d.2.1 d.2.2.1,()))
def jp9:jX:=⟨[.val tCr,.val tJb,.val .int],[.int,.int],false,fun _=>[],fun d=>(U.jB9 d.1 d.2.1 d.2.2.1,U.vl d.1 d.2.1 d.2.2.1,())⟩
def jpO:Prop:=∀(d:CrD×JbD×Int×Unit),(decide (U.vl d.1 d.2.1 d.2.2.1≠0)=true->((0:Int),U.vl d.1 d.2.1 d.2.2.1,())=(U.jB9 d.1 d.2.1 d.2.2.1,U.vl d.1 d.2.1 d.2.2.1,()))/\(decide (U.vl d.1 d.2.1 d.2.2.1≠0)=false->0<=d.2.2.1/\d.2.2.1<=18446744073709551615/\(U.jkT d.1 d.2.1).isSome=true/\U.vA (U.tk (U.jkT d.1 d.2.1))/\BT.Set' d.2.2.1/\jA (U.ki (U.tk (U.jkT d.1 d.2.1)) d.2.2.1)/\(U.ki (U.tk (U.jkT d.1 d.2.1)) d.2.2.1,(0:Int),())=(U.jB9 d.1 d.2.1 d.2.2.1,U.vl d.1 d.2.1 d.2.2.1,()))
def jxV:jX:=⟨[.val tCr,.val tJb],[.slice .int,.int],false,fun _=>[],fun d=>(U.zZ d.1 d.2.1,U.zV d.1 d.2.1,())⟩
def jy8:Ann:=fun r=>match r with
 |6=>some fun σ=>{X:=Nat,sl:=fun i=>[(23,.dat .int (i:Int)),(8,.own 8 .int)],ob:=fun i=>[(8,some (.row 3 .int false .yes (U.vE (gd tCr σ 0) (gd tJb σ 1) i)))],inv:=fun i=>i<=(U.jl (gd tCr σ 0)).length,mu:=fun i=>(U.jl (gd tCr σ 0)).length-i}
 |_=>none
def jxK:Prop:=∀(d:CrD×JbD×Unit),(decide (U.zV d.1 d.2.1≠0)=true->([],U.zV d.1 d.2.1,())=(U.zZ d.1 d.2.1,U.zV d.1 d.2.1,()))/\(decide (U.zV d.1 d.2.1≠0)=false->d.1.2.1.length<4611686018427387904->(∃(x:Nat),((0=(x:Int)/\True/\True)/\U.vE d.1 d.2.1 x=[]/\True)/\x<=(U.jl d.1).length)/\∀(x:Nat),x<=(U.jl d.1).length->(decide ((x:Int)<(d.1.2.1.length:Int))=true->0<=(x:Int)/\(x:Int)<(d.1.2.1.length:Int)/\(U.jkT d.1 d.2.1).isSome=true/\U.vA (U.tk (U.jkT d.1 d.2.1))/\(decide (U.wt (U.tk (U.jkT d.1 d.2.1)) (nth d.1.2.1 (x:Int).toNat)=0)=true->((U.vE d.1 d.2.1 x).length+[(x:Int)].length)*8<=140737488355328/\jA ((x:Int)+1)/\∃(a:Nat),(((x:Int)+1=(a:Int)/\True/\True)/\U.vE d.1 d.2.1 x++[(x:Int)]=U.vE d.1 d.2.1 a/\True)/\a<=(U.jl d.1).length/\(U.jl d.1).length-a<(U.jl d.1).length-x)/\(decide (U.wt (U.tk (U.jkT d.1 d.2.1)) (nth d.1.2.1 (x:Int).toNat)=0)=false->jA ((x:Int)+1)/\∃(a:Nat),((True/\(x:Int)+1=(a:Int)/\True)/\U.vE d.1 d.2.1 x=U.vE d.1 d.2.1 a/\True)/\a<=(U.jl d.1).length/\(U.jl d.1).length-a<(U.jl d.1).length-x))/\(decide ((x:Int)<(d.1.2.1.length:Int))=false->(U.vE d.1 d.2.1 x,(0:Int),())=(U.zZ d.1 d.2.1,U.zV d.1 d.2.1,())))
end Go.X
namespace Go.X
open Go.Proofs
theorem juY (a b c:Bool):0<=U.jte a b c/\U.jte a b c<=7:=by
 unfold U.jte U.jBj;cases a<;>cases b<;>cases c<;>simp
theorem jpx (t:TkD) (p:PeD):0<=U.wt t p/\U.wt t p<=7:=juY _ _ _
theorem jnZ {s:Int} (h:0<=s/\s<=1000):BT.Set' s:=by unfold BT.Set';omega
theorem jzl {a b:Int} (c:0<=a/\a<64) (d:0<=b/\b<64):0<=uor a b/\uor a b<64:=by
 obtain⟨n,rfl⟩:∃n:Nat,a=(n:Int):=⟨a.toNat,by omega⟩;obtain⟨m,rfl⟩:∃m:Nat,b=(m:Int):=⟨b.toNat,by omega⟩;rw[BT.uor_nat (by omega) (by omega)];have:n|||m<2^6:=Nat.or_lt_two_pow (by omega) (by omega);omega
theorem juS (t:TkD):∀(q:List (Int×PeD×Unit)) (o:Int),(0<=o/\o<64)->0<=U.jaM t o q/\U.jaM t o q<64
 |[],o,h=>h
 |x::q,o,h=>by
  have:=jpx t x.2.1
  exact juS t q _ (jzl h ⟨by omega,by omega⟩)
theorem jqG {b:Bool} {o k:Int} (h:0<=o/\o<64) (hk:0<=k/\k<64):0<=U.jvJ b o k/\U.jvJ b o k<64:=by
 unfold U.jvJ
 split
 .exact jzl h hk
 .exact h
theorem jus (t:TkD) (s:Int):0<=U.ki t s/\U.ki t s<64:=by
 unfold U.ki;exact jqG (jqG (jqG (juS t _ _ (by omega)) (by omega)) (by omega)) (by omega)
theorem juR (t:TkD) (o:Int) (q:List (Int×PeD×Unit)) (x:Int×PeD×Unit):U.jaM t o (q++[x])=uor (U.jaM t o q) (U.wt t x.2.1):=by
 unfold U.jaM;rw[jDI];rfl
theorem jyO {t:TkD} {s:Int} (a:U.vA t):((U.jbL t s).length:Int)=U.la (U.tc t):=by
 obtain⟨f,g,c,d⟩:=jo8 (s:=s) a;have b:(U.jtP (U.tj t)).toNat<(U.la (U.tc t)).toNat:=(by omega);have:=(jqs (J:=U.juG t s) b ((U.la (U.tc t)).toNat+1)).1.i.len;have e:(U.jbL t s).length=(U.la (U.tc t)).toNat:=this;omega
theorem jja:jau:=by
 unfold jau q33_3 q33_2 q33_1 q33_0;rintro⟨(_|t),s,⟨⟩⟩ n a c
 .cases n
 have a:U.vA t:=a;have c:BT.Set' s:=c;obtain⟨c1,c2,_⟩:=id a;obtain⟨_,_,p,_⟩:=jK c1;obtain⟨⟨m,r⟩,_⟩:=jeR c2;have o:=jyO (s:=s) a;have f:U.tk (some t)=t:=rfl;have b:0<=U.jAz (U.tj t)/\U.jAz (U.tj t)<(((U.jbL t s).length:Nat):Int):=⟨m,by omega⟩;refine⟨⟨rfl,(by omega:(U.jl (U.tc t)).length<=60)⟩,⟨rfl,a,trivial⟩,rfl,fun q x rest u _=>⟨rfl,a,rfl,?_⟩,fun xs g _=>⟨c,rfl,rfl,?_⟩,fun q x rest _ _ h=>by cases h⟩
 .simp only[f,juR];unfold U.jff;simp only[List.any_append,List.any_cons,List.any_nil,Bool.or_false,Bool.false_or];rfl
 .simp only[f] at g⊢;subst g;have key:∀(j k l:Bool),decide (BT.size s≠max (U.jCz (U.tj t)) (U.jCy (U.tl t)))=j->(U.jC8 (U.tl t)&& !U.jff (U.joL t s))=k->decide (nth (U.jbL t s) (U.jAz (U.tj t)).toNat<0)=l->
   U.jvJ l (U.jvJ k (U.jvJ j (U.jaM t 0 (U.joL t s)) 8) 16) 32=U.ki t s:=by
   intro j k l i e d;unfold U.ki;rw[i,e,d]
  refine⟨fun i=>⟨rfl,fun e=>⟨rfl,a,rfl,b.1,b.2,fun d=> ?_,fun d=> ?_⟩,fun e=>⟨rfl,a,rfl,b.1,b.2,fun d=> ?_,fun d=> ?_⟩⟩,fun i=>⟨rfl,fun e=>⟨rfl,a,rfl,b.1,b.2,fun d=> ?_,fun d=> ?_⟩,fun e=>⟨rfl,a,rfl,b.1,b.2,fun d=> ?_,fun d=> ?_⟩⟩⟩<;>
   (rw[Bool.false_or] at e;have:=key _ _ _ i e d;rw[<-this];rfl)
theorem jqB {c:CrD} (h:U.ju c=true):(0:Int)<2^(U.jl c).length/\(2:Int)^(U.jl c).length<=256:=by
 obtain⟨_,_,a,_⟩:=jK h;rw[BT.two_nat];have b:2^(U.jl c).length<=2^8:=Nat.pow_le_pow_right (by decide) a;have d:0<2^(U.jl c).length:=Nat.pow_pos (by decide);omega
theorem jyD:juN:=by
 unfold juN q34_0 q34_1;rintro⟨c,j,n,⟨⟩⟩ _;have e:∀l:Nat,(1:Int)*2^((l:Int)).toNat=2^l:=fun l=>by rw[Int.one_mul,jDm]
 simp only[e];refine⟨fun _=>by omega,fun h=> ?_,fun h=> ?_,fun h=> ?_,fun h=> ?_,fun h=> ?_⟩
 .have:=(jK (jdK (of_decide_eq_true h)).1).2.2.1;have this:c.2.1.length<=8:=this;omega
 .have:=jqB (jdK (of_decide_eq_true h)).1;have this:(0:Int)<2^c.2.1.length/\(2:Int)^c.2.1.length<=256:=this;exact L.in64 (by omega) (by omega)
 .have:=jqB (jdK (of_decide_eq_true h)).1;have this:(0:Int)<2^c.2.1.length/\(2:Int)^c.2.1.length<=256:=this;exact L.in64 (by omega) (by omega)
 .rw[jDg] at h;have a:=of_decide_eq_true h.1;have b:U.jwp c n=false:=by
   have d:U.ja n 0 (2^c.2.1.length-1)=false:=(by simpa using h.2);exact d
  unfold U.vl;rw[if_neg (by omega),if_neg (by rw[b];simp)]
 .unfold U.vl;by_cases a:U.zV c j=0
  .rw[decide_eq_true a,Bool.true_and] at h;have b:U.jwp c n=true:=by
    have d:U.ja n 0 (2^c.2.1.length-1)=true:=(by simpa using h);exact d
   rw[if_neg (by omega),if_pos b,a]
  .rw[if_pos a]
theorem jvV:zn PR 103 ju8:=jT jyD Tryz.func103 (kcC jon (kcC wE kcN)) koN
theorem jtb {c:CrD} {j:JbD} {n:Int} (h:U.vl c j n=0):U.zV c j=0/\0<=n/\n<2^(U.jl c).length:=by
 unfold U.vl at h
 split at h
 .rename_i b;omega
 .rename_i b
  split at h
  .rename_i a;unfold U.jwp U.ja at a;simp only[jDg,decide_eq_true_eq] at a;exact⟨by omega,a.1,by omega⟩
  .omega
theorem jtT:jpO:=by
 rintro⟨c,j,n,⟨⟩⟩;refine⟨fun h=> ?_,fun h=> ?_⟩
 .have h:U.vl c j n≠0:=of_decide_eq_true h;simp only;unfold U.jB9;rw[if_neg h]
 .have h:U.vl c j n=0:=(by simpa using h);obtain⟨d,e,g⟩:=jtb h;obtain⟨b,f⟩:=jvL d;have k:=jqB (jdK d).1;have a:U.tk (U.jkT c j)=(c,j,U.jyu c j,()):=(by rw[b];rfl);have i:=jus (c,j,U.jyu c j,()) n;simp only[a];refine⟨e,by omega,by rw[b];rfl,f,jnZ ⟨e,by omega⟩,L.in64 (by omega) (by omega),?_⟩;unfold U.jB9;rw[if_pos h,h]
theorem jk5 (c:CrD) (j:JbD) (n:Nat):U.vE c j (n+1)=U.vE c j n++(if U.wt (c,j,U.jyu c j,()) (nth (U.jl c) n)=0 then[(n:Int)] else[]):=by
 unfold U.vE;rw[L.range_filter_succ,jD9];by_cases h:U.wt (c,j,U.jyu c j,()) (nth (U.jl c) n)=0
 .rw[if_pos (decide_eq_true h),if_pos h];rfl
 .rw[if_neg (by simpa using h),if_neg h];rfl
theorem jwg (c:CrD) (j:JbD) (n:Nat):(U.vE c j n).length<=n:=by
 unfold U.vE;rw[jEq];exact jDr (List.length_filter_le _ _) (by simp)
theorem jAD:jxK:=by
 rintro⟨c,j,⟨⟩⟩;refine⟨fun h=> ?_,fun h _=>⟨⟨0,⟨⟨rfl,trivial,trivial⟩,rfl,trivial⟩,jDq _⟩,fun x f=>⟨fun a=> ?_,fun a=> ?_⟩⟩⟩
 .have h:U.zV c j≠0:=of_decide_eq_true h;simp only;unfold U.zZ;rw[if_neg h]
 .have h:U.zV c j=0:=(by simpa using h);obtain⟨e,g⟩:=jvL h;have d:U.tk (U.jkT c j)=(c,j,U.jyu c j,()):=(by rw[e];rfl);have a:x<(U.jl c).length:=by
   have a:=of_decide_eq_true a;have a:(x:Int)<((U.jl c).length:Int):=a;omega
  have i:(x:Int)<((U.jl c).length:Int):=(by omega);have k:=(jK (jdK h).1).2.2.1;have l:=jwg c j x;simp only[d,jDm];refine⟨by omega,i,by rw[e];rfl,g,fun b=>⟨by simp only[jDL,jDZ];omega,L.in64 (by omega) (by omega),x+1,⟨⟨by simp,trivial,trivial⟩,?_,trivial⟩,a,by omega⟩,fun b=>⟨L.in64 (by omega) (by omega),x+1,⟨⟨trivial,by simp,trivial⟩,?_,trivial⟩,a,by omega⟩⟩
  .have b:U.wt (c,j,U.jyu c j,()) (nth (U.jl c) x)=0:=of_decide_eq_true b;rw[jk5,if_pos b]
  .have b:¬U.wt (c,j,U.jyu c j,()) (nth (U.jl c) x)=0:=of_decide_eq_false b;rw[jk5,if_neg b,jDF]
 .have h:U.zV c j=0:=(by simpa using h);have a:(U.jl c).length<=x:=by
   have a:=of_decide_eq_false a;have a:¬(x:Int)<((U.jl c).length:Int):=a;omega
  have f:x<=(U.jl c).length:=f;simp only;unfold U.zZ;rw[if_pos h,h,show x=(U.jl c).length by omega]
end Go.X
namespace Go.X
open Go.Proofs
def jjO:Ann:=fun r=>match r with
 |2=>some fun σ=>{X:=List (Int×Int)×Int,sl:=fun x=>[(4,.dat (.uint .u64) x.2)],ob:=fun x=>[(37,some (.iter .int .int x.1 none))],inv:=fun x=>U.qM (U.jeP (U.tk (gd (.ptr tTk) σ 0)) (gd tPe σ 1)) x.1 x.2,mu:=fun x=>x.1.length}
 |_=>none
abbrev q37_0 (d:Option (CrD×JbD×LwD×Unit)×PeD×Unit):=(jH (((0:Int),[],[],()),((0:Int),(0:Int),(0:Int),(0:Int),(0:Int),(0:Int),()),((0:Int),(0:Int),false,()),()) d.1)
def jhV:Prop:=∀(d:Option (CrD×JbD×LwD×Unit)×PeD×Unit),d.1.isSome=true->U.vA (U.tk d.1)->d.1.isSome=true/\d.1.isSome=true/\(0:Int)<=(q37_0 d).2.1.2.2.2.1/\(q37_0 d).2.1.2.2.2.1<=64/\d.1.isSome=true/\(0:Int)<=(q37_0 d).2.1.2.2.2.2.1/\(q37_0 d).2.1.2.2.2.2.1<=64/\[(0:Int),(1:Int),(2:Int)].Nodup/\∀(l:List (Int×Int)),l.Perm [((0:Int),U.jBj !d.2.1.2.2.2.1.any fun(e:Int)=>decide (e=(q37_0 d).2.1.2.2.1)),((1:Int),vf (d.2.1.2.1/(2:Int)^(q37_0 d).2.1.2.2.2.1.toNat) (1:Int)),((2:Int),vf (d.2.1.2.2.1/(2:Int)^(q37_0 d).2.1.2.2.2.2.1.toNat) (1:Int))]->(((∃(x:List (Int×Int)×Int),((0=x.2/\True)/\l=x.1/\True)/\U.qM (U.jeP (U.tk d.1) d.2.1) x.1 x.2)/\∀(x:List (Int×Int)×Int),U.qM (U.jeP (U.tk d.1) d.2.1) x.1 x.2->(x.1=[]->(false=true->False)/\(false=false->(x.2,())=(U.wt (U.tk d.1) d.2.1,())))/\∀(pre:List (Int×Int)) (a:Int×Int) (b:List (Int×Int)),x.1=pre++a::b->(true=true->(decide (a.2=0)=true->0<=a.1/\a.1<=64/\(0:Int)<=1*2^a.1.toNat/\(1:Int)*2^a.1.toNat<=18446744073709551615/\∃(c:List (Int×Int)×Int),((uor x.2 ((1:Int)*2^a.1.toNat)=c.2/\True)/\pre++b=c.1/\True)/\U.qM (U.jeP (U.tk d.1) d.2.1) c.1 c.2/\c.1.length<x.1.length)/\(decide (a.2=0)=false->∃(c:List (Int×Int)×Int),((x.2=c.2/\True)/\pre++b=c.1/\True)/\U.qM (U.jeP (U.tk d.1) d.2.1) c.1 c.2/\c.1.length<x.1.length))/\(true=false->(x.2,())=(U.wt (U.tk d.1) d.2.1,())))/\True)/\True
end Go.X
namespace Go.X
open Go.Proofs
theorem jsN (z:Int):vf z 1=0\/vf z 1=1:=by
 unfold vf;rw[BitVec.toNat_and];have a:(BitVec.ofInt 64 1).toNat=1:=rfl;rw[a,Nat.and_one_is_mod];rcases Nat.mod_two_eq_zero_or_one (BitVec.ofInt 64 z).toNat with h|h
 .rw[h];exact .inl rfl
 .rw[h];exact .inr rfl
theorem jsM (s n:Int):(vf (s/2^n.toNat) 1=0)↔(!U.vH s n)=true:=by
 unfold U.vH;rcases jsN (s/2^n.toNat) with h|h<;>rw[h]<;>simp
theorem jxS (a b c:Bool) (p:Nat):BT.has (U.jte a b c) p=true↔(a=true/\p=0)\/(b=true/\p=1)\/(c=true/\p=2):=by
 match p with
 |0=>cases a<;>cases b<;>cases c<;>decide
 |1=>cases a<;>cases b<;>cases c<;>decide
 |2=>cases a<;>cases b<;>cases c<;>decide
 |p+3=>
  have h:=juY a b c;have:BT.has (U.jte a b c) (p+3)=false:=by
   cases d:BT.has (U.jte a b c) (p+3) with
   |false=>rfl
   |true=>have:=BT.has_lt (k:=3) h.1 (by omega) d;omega
  rw[this];simp
theorem jyw (t:TkD) (p:PeD) (k:Nat):(∃e∈U.jeP t p,e.2=0/\e.1.toNat=k)↔BT.has (U.wt t p) k=true:=by
 unfold U.wt;rw[jxS];have c:U.jBj (!U.juU p (U.jBm (U.tj t)))=0↔U.juU p (U.jBm (U.tj t))=true:=by
  unfold U.jBj;cases U.juU p (U.jBm (U.tj t))<;>simp
 have d:=jsM (U.fd p) (U.jBl (U.tj t));have f:=jsM (U.cl p) (U.jBk (U.tj t));unfold U.jeP;simp only[jDd,List.not_mem_nil,or_false];rw[<-c,<-d,<-f];constructor
 .rintro⟨e,(rfl|rfl|rfl),a,b⟩
  .exact .inl ⟨a,b.symm⟩
  .exact .inr (.inl ⟨a,b.symm⟩)
  .exact .inr (.inr ⟨a,b.symm⟩)
 .rintro(⟨a,b⟩|⟨a,b⟩|⟨a,b⟩)
  .exact⟨_,.inl rfl,a,b.symm⟩
  .exact⟨_,.inr (.inl rfl),a,b.symm⟩
  .exact⟨_,.inr (.inr rfl),a,b.symm⟩
theorem jyv {t:TkD} {p:PeD} {e:Int×Int} (h:e∈U.jeP t p):0<=e.1/\e.1<=2:=by
 unfold U.jeP at h;simp only[jDd,List.not_mem_nil,or_false] at h;rcases h with rfl|rfl|rfl<;>simp
theorem jtN (t:TkD) (p:PeD):(U.jeP t p).Nodup:=by
 unfold U.jeP;simp
theorem jrM {t:TkD} {p:PeD} {l:List (Int×Int)} (h:l.Perm (U.jeP t p)):U.qM (U.jeP t p) l 0:=by
 refine⟨BT.zero_set,h.symm.nodup (jtN t p),fun e c=>h.mem_iff.1 c,fun k=> ?_⟩;rw[BT.has_zero];constructor
 .intro h;cases h
 .rintro⟨e,a,b,_⟩;exact absurd (h.mem_iff.2 a) b
theorem juz {t:TkD} {p:PeD} {s:Int} (h:U.qM (U.jeP t p) [] s):s=U.wt t p:=by
 obtain⟨a,_,_,c⟩:=h;refine BT.ext a (jnZ (by have:=jpx t p;omega)) (fun k=> ?_);rw[jDQ,c,<-jyw];constructor
 .rintro⟨e,a,_,b⟩;exact⟨e,a,b⟩
 .rintro⟨e,a,b⟩;exact⟨e,a,by simp,b⟩
theorem jlz {all pre a:List (Int×Int)} {e:Int×Int} {s j:Int} (h:U.qM all (pre++e::a) s) (p:BT.Set' j) (hk:∀k,BT.has j k=true↔BT.has s k=true\/(e.2=0/\e.1.toNat=k)):U.qM all (pre++a) j:=by
 obtain⟨q,m,l,n⟩:=h;have i:(e::(pre++a)).Nodup:=List.perm_middle.nodup m;have b:∀x,x∈pre++e::a↔x=e\/x∈pre++a:=fun x=>by rw[List.perm_middle.mem_iff,jDd]
 rw[jD0] at i;refine⟨p,i.2,fun x c=>l x ((b x).2 (.inr c)),fun k=> ?_⟩;rw[hk,n];constructor
 .rintro(⟨x,d,f,g⟩|⟨d,f⟩)
  .exact⟨x,d,fun c=>f ((b x).2 (.inr c)),g⟩
  .exact⟨e,l e ((b e).2 (.inl rfl)),i.1,d,f⟩
 .rintro⟨x,d,f,g⟩;by_cases c:x=e
  .subst c;exact .inr g
  .exact .inl ⟨x,d,fun o=>by rcases(b x).1 o with h|h;exact c h;exact f h,g⟩
theorem jkl:jhV:=by
 unfold jhV q37_0;rintro⟨(_|t),p,⟨⟩⟩ s d
 .cases s
 have d:U.vA t:=d;have r:U.tk (some t)=t:=rfl;obtain⟨c1,c2,_⟩:=id d;obtain⟨_,_,_,⟨m,o⟩,⟨n,q⟩,_⟩:=jeR c2;have m:0<=t.2.1.2.2.2.1:=m;have o:t.2.1.2.2.2.1<=7:=o;have n:0<=t.2.1.2.2.2.2.1:=n;have q:t.2.1.2.2.2.2.1<=3:=q;refine⟨rfl,rfl,m,by simp only[jH];omega,rfl,n,by simp only[jH];omega,by decide,fun l w=>⟨⟨⟨⟨(l,0),⟨⟨rfl,trivial⟩,rfl,trivial⟩,jrM w⟩,fun x b=>⟨fun h=>⟨fun h=>(by cases h),fun _=> ?_⟩,fun pre e a h=>⟨fun _=> ?_,fun h=>(by cases h)⟩⟩⟩,trivial⟩,trivial⟩⟩
 .rw[h] at b;rw[juz b]
 .rw[h] at b;have u:e∈U.jeP t p:=b.2.2.1 e (by simp);have hk:=jyv u;obtain⟨k,g,v⟩:∃k:Nat,e.1=(k:Int)/\k<=2:=⟨e.1.toNat,by omega,by omega⟩;have y:(1:Int)*2^k=2^k:=Int.one_mul _;have c:(pre++a).length<x.1.length:=(by rw[h];simp);have i:BT.Set' ((2:Int)^k):=BT.two_set (by omega);refine⟨fun f=> ?_,fun f=> ?_⟩
  .have f:e.2=0:=of_decide_eq_true f;rw[g,jDm,y];refine⟨by omega,by omega,by unfold BT.Set' at i;omega,by unfold BT.Set' at i;omega,(pre++a,uor x.2 (2^k)),⟨⟨rfl,trivial⟩,rfl,trivial⟩,jlz b (BT.uor_set b.1 i) (fun j=> ?_),c⟩;rw[BT.has_uor b.1 i,BT.has_two,jEp,decide_eq_true_eq,g,jDm];simp[f]
  .have f:¬e.2=0:=of_decide_eq_false f;exact⟨(pre++a,x.2),⟨⟨rfl,trivial⟩,rfl,trivial⟩,jlz b b.1 (fun j=>by simp[f]),c⟩
theorem jbn:zn PR 95 kl:=wO jjO jkl Tryz.func95 (kcC v8 (kcC jtA kcN)) koN
theorem jpm:(jpH 64 [(95,kl),(126,we),(127,wd)] [] [(125,jD)] []).ok PR:=jry ⟨fun _=>jbn,fun _=>jml,fun _=>jmk,trivial⟩ trivial ⟨yT,trivial⟩ trivial
theorem jhb:zn PR 104 jay:=
 jvw (body:=zD Tryz.f104) (C:=jpH 64 [(95,kl),(126,we),(127,wd)] [] [(125,jD)] []) (hk:=hkC (jpH 64 [(95,kl),(126,we),(127,wd)] [] [(125,jD)] []) (fun _=>none) jh5 [] []) jpm mixed Tryz.func104 (by kernel_rfl) (by kernel_rfl) (by kernel_rfl) (by decide)
  (fun B=>jlg jpm mixed (fun k ts rs sv d L v ρ hk c a b=>by
   unfold jh5 at hk
   split at hk
   case h_2=>cases hk
   simp only[Option.some.injEq] at hk
   cases hk
   exact joK c a b) jAr B) (jcU.mpr jja)
theorem jqL:zn PR 74 jp9:=jT jtT Tryz.func74 (kcC jvV (kcC jhb kcN)) koN
theorem jsh:zn PR 65 jxV:=wO jy8 jAD Tryz.func65 (kcC jon (kcC jbn kcN)) koN
end Go.X
namespace Go.X
namespace U
def gy (a b:Int):Int:=if a<b then-1 else if b<a then 1 else 0
def wj (l:List Int):Int:=match l.find? (fun n=>decide (n≠0)) with|some n=>n|none=>0
end U
structure jaX {α:Type} (c:α->α->Int):Prop where
 anti:∀a b,c b a= -(c a b)
 trans:∀a b d,c a b<=0->c b d<=0->c a d<=0
section
variable {α:Type} {c c1 c2:α->α->Int}
theorem jaX.refl (h:jaX c) (a:α):c a a=0:=by have:=h.anti a a;omega
theorem jaX.lt_le (h:jaX c) {a b d:α} (g:c a b<0) (f:c b d<=0):c a d<0:=by
 have i:=h.trans a b d (by omega) f;have j:=h.anti a d;have k:=h.anti a b;by_cases e:c a d=0
 .have:=h.trans b d a f (by omega);omega
 .omega
theorem jaX.le_lt (h:jaX c) {a b d:α} (f:c a b<=0) (g:c b d<0):c a d<0:=by
 have i:=h.trans a b d f (by omega);have j:=h.anti a d;have k:=h.anti b d;by_cases e:c a d=0
 .have:=h.trans d a b (by omega) f;omega
 .omega
theorem jaX.eq_eq (h:jaX c) {a b d:α} (e:c a b=0) (f:c b d=0):c a d=0:=by
 have g:=h.trans a b d (by omega) (by omega);have i:=h.anti a d;have j:=h.anti a b;have k:=h.anti b d;have:=h.trans d b a (by omega) (by omega);omega
def jxG (c1 c2:α->α->Int) (a b:α):Int:=if c1 a b≠0 then c1 a b else c2 a b
theorem jf0 (c:jaX c1) (g:jaX c2):jaX (jxG c1 c2) where
 anti a b:=by
  have i:=c.anti a b;have h:=g.anti a b;unfold jxG;by_cases e:c1 a b=0
  .rw[if_neg (by omega),if_neg (by omega)];exact h
  .rw[if_pos (by omega),if_pos e];exact i
 trans a b d:=by
  unfold jxG;by_cases e:c1 a b=0
  .rw[if_neg (by omega)];by_cases f:c1 b d=0
   .rw[if_neg (by omega),if_neg (by have:=c.eq_eq e f;omega)];exact g.trans a b d
   .rw[if_pos f];intro _ k;have:=c.le_lt (a:=a) (b:=b) (d:=d) (by omega) (by omega);rw[if_pos (by omega)];omega
  .rw[if_pos e];intro k;by_cases f:c1 b d=0
   .rw[if_neg (by omega)];intro _;have:=c.lt_le (a:=a) (b:=b) (d:=d) (by omega) (by omega);rw[if_pos (by omega)];omega
   .rw[if_pos f];intro h;have:=c.lt_le (a:=a) (b:=b) (d:=d) (by omega) (by omega);rw[if_pos (by omega)];omega
theorem jgv {e:Type} (h:jaX c) (f:e->α):jaX (fun a b=>c (f a) (f b)):=⟨fun a b=>h.anti (f a) (f b),fun a b d=>h.trans (f a) (f b) (f d)⟩
end
theorem jfg:jaX U.gy:=by
 constructor
 .intro a b;unfold U.gy;split<;>split<;>(try split)<;>(try split)<;>omega
 .intro a b d;unfold U.gy;split<;>split<;>(try split)<;>(try split)<;>(try split)<;>(try split)<;>omega
theorem jxd {a b:Int}:U.gy a b<0↔a<b:=by
 unfold U.gy
 split
 .simp;omega
 .split<;>simp<;>omega
theorem q8 {a b:Int}:U.gy a b=0↔a=b:=by
 unfold U.gy
 split
 .simp;omega
 .split
  .simp;omega
  .simp;omega
theorem zl (x:Int) (l:List Int):U.wj (x::l)=if x≠0 then x else U.wj l:=by
 unfold U.wj;by_cases e:x=0
 .simp[List.find?,e]
 .simp[List.find?,e]
theorem kY (x:Int):U.wj [x]=x:=by
 rw[zl]
 split
 .rfl
 .rename_i h;have:x=0:=(by omega);rw[this];rfl
theorem jmh {t:Ty} {c:t.Data->t.Data->Int} (d:jaX c) {l:List t.Data} (h:∀x y,x∈l->y∈l->c x y=0->x=y):kx (U.jf t fun x=>(c x.1 x.2.1,())) l where
 irrefl x _:=by
  unfold U.jf;have:=d.refl x;simp only[this];rfl
 trans x y z _ _ _ b a:=by
  unfold U.jf at*;have b:=of_decide_eq_true b;have a:=of_decide_eq_true a;exact decide_eq_true (d.lt_le b (by have a:c y z<0:=a;show c y z<=0;omega))
 total x y hx hy b a:=by
  unfold U.jf at*;have b:¬c x y<0:=of_decide_eq_false b;have a:¬c y x<0:=of_decide_eq_false a;have:=d.anti x y;exact h x y hx hy (by omega)
end Go.X
namespace Go.X
namespace M
theorem mput_cons {kt:Ty} {a:Type} (k:kt.Data) (v:a) (e:kt.Data×a) (r:List (kt.Data×a)):jdr kt k v (e::r)=if @decide (k=e.1) (kt.decEq k e.1)=true then(k,v)::r else e::jdr kt k v r:=rfl
theorem mfind_cons {kt:Ty} {a:Type} (k:kt.Data) (e:kt.Data×a) (r:List (kt.Data×a)):zx kt k (e::r)=if @decide (k=e.1) (kt.decEq k e.1)=true then some e.2 else zx kt k r:=rfl
theorem dec_self {kt:Ty} (k:kt.Data): @decide (k=k) (kt.decEq k k)=true:= @decide_eq_true _ (kt.decEq k k) rfl
theorem mput_fst {kt:Ty} {b:Type} (k:kt.Data) (v:b):∀m:List (kt.Data×b),(jdr kt k v m).map (·.1)=m.map (·.1)\/(k∉m.map (·.1)/\(jdr kt k v m).map (·.1)=m.map (·.1)++[k])
 |[]=> .inr ⟨by simp,rfl⟩
 |e::r=>by
  rw[mput_cons]
  by_cases h: @decide (k=e.1) (kt.decEq k e.1)=true
  .rw[if_pos h]
   have h:k=e.1:= @of_decide_eq_true _ (kt.decEq k e.1) h
   left
   simp[h]
  .rw[if_neg h]
   have h:¬k=e.1:=fun a=>h (@decide_eq_true _ (kt.decEq k e.1) a)
   rcases mput_fst k v r with f|⟨c,d⟩
   .left;simp only[jEb,f]
   .right
    refine⟨?_,by simp only[jEb,d,jDz]⟩
    rw[jEb,jDd]
    rintro(a|a)
    .exact h a
    .exact c a
theorem mfind_mput {kt:Ty} {a:Type} (k:kt.Data) (v:a):∀l:List (kt.Data×a),zx kt k (jdr kt k v l)=some v
 |[]=>by
  rw[show jdr kt k v []=[(k,v)] from rfl,mfind_cons,if_pos (dec_self k)]
 |e::r=>by
  rw[mput_cons]
  by_cases h: @decide (k=e.1) (kt.decEq k e.1)=true
  .rw[if_pos h,mfind_cons,if_pos (dec_self k)]
  .rw[if_neg h,mfind_cons,if_neg h]
   exact mfind_mput k v r
theorem mfind_mput_ne {kt:Ty} {b:Type} {k k':kt.Data} (a:k'≠k) (v:b):∀l:List (kt.Data×b),zx kt k' (jdr kt k v l)=zx kt k' l
 |[]=>by
  rw[show jdr kt k v []=[(k,v)] from rfl,mfind_cons,if_neg (fun e=>a (@of_decide_eq_true _ (kt.decEq k' k) e))]
 |e::r=>by
  rw[mput_cons]
  by_cases h: @decide (k=e.1) (kt.decEq k e.1)=true
  .rw[if_pos h]
   have h:k=e.1:= @of_decide_eq_true _ (kt.decEq k e.1) h
   have d:¬@decide (k'=e.1) (kt.decEq k' e.1)=true:=fun c=>a ((@of_decide_eq_true _ (kt.decEq k' e.1) c).trans h.symm)
   rw[mfind_cons,mfind_cons,if_neg d,if_neg (fun e=>a (@of_decide_eq_true _ (kt.decEq k' k) e))]
  .rw[if_neg h,mfind_cons,mfind_cons,mfind_mput_ne a v r]
end M
end Go.X
namespace Go.Proofs
open Go.Shelf
def Tryz.sortSh_ren:Go.Shelf.Ren:=⟨fun|6=>83|15=>118|14=>117|28=>152|29=>153|20=>144|21=>145|22=>146|23=>147|24=>148|25=>149|26=>150|27=>151|46=>183|47=>184|48=>185|49=>186|50=>187|57=>197|n=>n,fun|22=>28|24=>55|25=>119|3=>3|39=>64|0=>0|53=>179|55=>181|4=>4|46=>172|45=>171|50=>176|5=>5|9=>9|66=>197|70=>201|76=>211|77=>212|n=>n,fun|n=>n⟩
theorem Tryz.sortSh:Go.Proofs.SlLaysF0.n6 Tryz.prog Tryz.sortSh_ren:={
 mixed:=by kernel_rfl
 f6:=⟨Tryz.f83.name,by decide,Tryz.func83.trans (congrArg some (by kernel_rfl))⟩
 f14:=⟨Tryz.f117.name,by decide,Tryz.func117.trans (congrArg some (by kernel_rfl))⟩
 f15:=Tryz.func118.trans (congrArg some (by kernel_rfl))
 f20:=⟨Tryz.f144.name,by decide,Tryz.func144.trans (congrArg some (by kernel_rfl))⟩
 f21:=⟨Tryz.f145.name,by decide,Tryz.func145.trans (congrArg some (by kernel_rfl))⟩
 f22:=⟨Tryz.f146.name,by decide,Tryz.func146.trans (congrArg some (by kernel_rfl))⟩
 f23:=⟨Tryz.f147.name,by decide,Tryz.func147.trans (congrArg some (by kernel_rfl))⟩
 f24:=⟨Tryz.f148.name,by decide,Tryz.func148.trans (congrArg some (by kernel_rfl))⟩
 f25:=⟨Tryz.f149.name,by decide,Tryz.func149.trans (congrArg some (by kernel_rfl))⟩
 f26:=⟨Tryz.f150.name,by decide,Tryz.func150.trans (congrArg some (by kernel_rfl))⟩
 f27:=⟨Tryz.f151.name,by decide,Tryz.func151.trans (congrArg some (by kernel_rfl))⟩
 f28:=Tryz.func152.trans (congrArg some (by kernel_rfl))
 f29:=Tryz.func153.trans (congrArg some (by kernel_rfl))
 f46:=⟨Tryz.f183.name,by decide,Tryz.func183.trans (congrArg some (by kernel_rfl))⟩
 f47:=Tryz.func184.trans (congrArg some (by kernel_rfl))
 f48:=Tryz.func185.trans (congrArg some (by kernel_rfl))
 f49:=⟨Tryz.f186.name,by decide,Tryz.func186.trans (congrArg some (by kernel_rfl))⟩
 f50:=⟨Tryz.f187.name,by decide,Tryz.func187.trans (congrArg some (by kernel_rfl))⟩
 f57:=⟨Tryz.f197.name,by decide,Tryz.func197.trans (congrArg some (by kernel_rfl))⟩
 t0:=Tryz.underlying0
 a0:=Tryz.isAgg0
 z0:=Tryz.sizeOf0
 v0:=Tryz.zeroValue0
 t3:=Tryz.underlying3
 a3:=Tryz.isAgg3
 z3:=Tryz.sizeOf3
 v3:=Tryz.zeroValue3
 t4:=Tryz.underlying4
 a4:=Tryz.isAgg4
 z4:=Tryz.sizeOf4
 v4:=Tryz.zeroValue4
 t5:=Tryz.underlying5
 a5:=Tryz.isAgg5
 z5:=Tryz.sizeOf5
 v5:=Tryz.zeroValue5
 t9:=Tryz.underlying9
 a9:=Tryz.isAgg9
 z9:=Tryz.sizeOf9
 v9:=Tryz.zeroValue9
 t22:=Tryz.underlying28
 a22:=Tryz.isAgg28
 z22:=Tryz.sizeOf28
 v22:=Tryz.zeroValue28
 t25:=Tryz.underlying119
 a25:=Tryz.isAgg119
 z25:=Tryz.sizeOf119
 v25:=Tryz.zeroValue119
 t39:=Tryz.underlying64
 a39:=Tryz.isAgg64
 z39:=Tryz.sizeOf64
 v39:=Tryz.zeroValue64
 t45:=Tryz.underlying171
 a45:=Tryz.isAgg171
 z45:=Tryz.sizeOf171
 v45:=Tryz.zeroValue171
 t46:=Tryz.underlying172
 a46:=Tryz.isAgg172
 z46:=Tryz.sizeOf172
 v46:=Tryz.zeroValue172
 t50:=Tryz.underlying176
 a50:=Tryz.isAgg176
 z50:=Tryz.sizeOf176
 v50:=Tryz.zeroValue176
 t53:=Tryz.underlying179
 a53:=Tryz.isAgg179
 z53:=Tryz.sizeOf179
 v53:=Tryz.zeroValue179
 t55:=Tryz.underlying181
 a55:=Tryz.isAgg181
 z55:=Tryz.sizeOf181
 v55:=Tryz.zeroValue181
 t66:=Tryz.underlying197
 a66:=Tryz.isAgg197
 z66:=Tryz.sizeOf197
 v66:=Tryz.zeroValue197
 t70:=Tryz.underlying201
 a70:=Tryz.isAgg201
 z70:=Tryz.sizeOf201
 v70:=Tryz.zeroValue201
 t76:=Tryz.underlying211
 a76:=Tryz.isAgg211
 z76:=Tryz.sizeOf211
 v76:=Tryz.zeroValue211
 t77:=Tryz.underlying212
 a77:=Tryz.isAgg212
 z77:=Tryz.sizeOf212
 v77:=Tryz.zeroValue212}
def Tryz.sortI_ren:Go.Shelf.Ren:=⟨fun|189=>97|125=>118|257=>121|128=>152|129=>153|294=>154|295=>155|296=>156|297=>157|298=>158|299=>159|216=>160|300=>161|301=>162|328=>188|329=>184|330=>185|331=>189|332=>190|215=>102|343=>198|n=>n,fun|28=>34|3=>3|46=>64|0=>0|51=>179|53=>181|4=>4|183=>172|182=>171|131=>176|5=>5|9=>9|218=>197|222=>201|228=>211|229=>212|n=>n,fun|n=>n⟩
theorem Tryz.sortI:Go.Proofs.Lays.n189 Tryz.prog Tryz.sortI_ren:={
 mixed:=by kernel_rfl
 f125:=Tryz.func118.trans (congrArg some (by kernel_rfl))
 f128:=Tryz.func152.trans (congrArg some (by kernel_rfl))
 f129:=Tryz.func153.trans (congrArg some (by kernel_rfl))
 f189:=Tryz.func97.trans (congrArg some (by kernel_rfl))
 f215:=Tryz.func102.trans (congrArg some (by kernel_rfl))
 f216:=Tryz.func160.trans (congrArg some (by kernel_rfl))
 f257:=Tryz.func121.trans (congrArg some (by kernel_rfl))
 f294:=Tryz.func154.trans (congrArg some (by kernel_rfl))
 f295:=Tryz.func155.trans (congrArg some (by kernel_rfl))
 f296:=Tryz.func156.trans (congrArg some (by kernel_rfl))
 f297:=Tryz.func157.trans (congrArg some (by kernel_rfl))
 f298:=Tryz.func158.trans (congrArg some (by kernel_rfl))
 f299:=Tryz.func159.trans (congrArg some (by kernel_rfl))
 f300:=Tryz.func161.trans (congrArg some (by kernel_rfl))
 f301:=Tryz.func162.trans (congrArg some (by kernel_rfl))
 f328:=Tryz.func188.trans (congrArg some (by kernel_rfl))
 f329:=Tryz.func184.trans (congrArg some (by kernel_rfl))
 f330:=Tryz.func185.trans (congrArg some (by kernel_rfl))
 f331:=Tryz.func189.trans (congrArg some (by kernel_rfl))
 f332:=Tryz.func190.trans (congrArg some (by kernel_rfl))
 f343:=Tryz.func198.trans (congrArg some (by kernel_rfl))
 t0:=Tryz.underlying0
 a0:=Tryz.isAgg0
 z0:=Tryz.sizeOf0
 v0:=Tryz.zeroValue0
 t3:=Tryz.underlying3
 a3:=Tryz.isAgg3
 z3:=Tryz.sizeOf3
 v3:=Tryz.zeroValue3
 t4:=Tryz.underlying4
 a4:=Tryz.isAgg4
 z4:=Tryz.sizeOf4
 v4:=Tryz.zeroValue4
 t5:=Tryz.underlying5
 a5:=Tryz.isAgg5
 z5:=Tryz.sizeOf5
 v5:=Tryz.zeroValue5
 t9:=Tryz.underlying9
 a9:=Tryz.isAgg9
 z9:=Tryz.sizeOf9
 v9:=Tryz.zeroValue9
 t28:=Tryz.underlying34
 a28:=Tryz.isAgg34
 z28:=Tryz.sizeOf34
 v28:=Tryz.zeroValue34
 t46:=Tryz.underlying64
 a46:=Tryz.isAgg64
 z46:=Tryz.sizeOf64
 v46:=Tryz.zeroValue64
 t51:=Tryz.underlying179
 a51:=Tryz.isAgg179
 z51:=Tryz.sizeOf179
 v51:=Tryz.zeroValue179
 t53:=Tryz.underlying181
 a53:=Tryz.isAgg181
 z53:=Tryz.sizeOf181
 v53:=Tryz.zeroValue181
 t131:=Tryz.underlying176
 a131:=Tryz.isAgg176
 z131:=Tryz.sizeOf176
 v131:=Tryz.zeroValue176
 t182:=Tryz.underlying171
 a182:=Tryz.isAgg171
 z182:=Tryz.sizeOf171
 v182:=Tryz.zeroValue171
 t183:=Tryz.underlying172
 a183:=Tryz.isAgg172
 z183:=Tryz.sizeOf172
 v183:=Tryz.zeroValue172
 t218:=Tryz.underlying197
 a218:=Tryz.isAgg197
 z218:=Tryz.sizeOf197
 v218:=Tryz.zeroValue197
 t222:=Tryz.underlying201
 a222:=Tryz.isAgg201
 z222:=Tryz.sizeOf201
 v222:=Tryz.zeroValue201
 t228:=Tryz.underlying211
 a228:=Tryz.isAgg211
 z228:=Tryz.sizeOf211
 v228:=Tryz.zeroValue211
 t229:=Tryz.underlying212
 a229:=Tryz.isAgg212
 z229:=Tryz.sizeOf212
 v229:=Tryz.zeroValue212}
end Go.Proofs
namespace Go.X
open Go.Proofs
abbrev rwS:Sh:= .cl (.row 55 tSh .unk)
namespace U
def jgy (s:SpD):Bool:=(decide (0<=lo s)&&decide (lo s<=hi s))&&decide (hi s<=300)
def jiM (n:Nat) (b:BkD):Bool:=((ja (jhL b) 0 ((n:Int)-1)&&decide (0<=gF b))&&decide (gF b<jna b))&&decide (jna b<=1440)
def joC (nb a:Nat) (s:ShD):Bool:=(((ja (wy s) 0 99&&ja (jm9 s) 0 9999)&&ja (jxZ s) 1 2)&&ja (jil s) 0 ((nb:Int)-1))&&ja (vZ s) 0 ((a:Int)-1)
def yg (a b:ShD):Int:=wj [gy (wy a) (wy b),gy (jm9 a) (jm9 b),gy (jxZ a) (jxZ b),gy (jil a) (jil b),gy (vZ a) (vZ b)]
def jp (a b:ShD):Int:=wj [gy (jm9 a) (jm9 b),gy (wy a) (wy b)]
def kZ (a b:ShD):Bool:=decide (a=b)
def jQ (l:List ShD):List ShD:=qS kZ (jc (jf tSh fun x=>(yg x.1 x.2.1,())) l)
def jcd (m:List (Int×Int)) (s:ShD):List (Int×Int):=jdr .int (wy s) (kE 0 (zx .int (wy s) m)+1) m
def kI (m:List (Int×Int)) (l:List ShD) (n:Nat):List (Int×Int):=(l.take n).foldl jcd m
def jsT (m:List (Int×Int)) (s:ShD):Bool:=decide (1<kE 0 (zx .int (wy s) (jcd m s)))
def jfq (m:List (Int×Int)) (l:List ShD) (i:Nat):Bool:=jsT (kI m l i) (nth l i)
def jbS (m:List (Int×Int)) (l:List ShD):Int:=gD (jfq m l) (List.range l.length)
def jxv (m:List (Int×Int)) (l:List ShD):Nat:=match(List.range l.length).findIdx? (jfq m l) with|some i=>i+1|none=>l.length
def jdL (m:List (Int×Int)) (l:List ShD):List (Int×Int):=kI m l (jxv m l)
def jB3 (m:List (Int×Int)):Prop:=m=[]
def jvf (m:List (Int×Int)):Prop:=∀k,0<=kE 0 (zx .int k m)/\kE 0 (zx .int k m)<=200000
def juH (l:List ShD):Bool:=decide (0<=jbS [] l)
def jjI (d:DyD):Int:=if ju (jj d)=false then 30 else if jwo d=false then 31 else 0
def jB (d:DyD):Int:=if jjI d≠0 then jjI d else if zr d=false then 50 else if juH (jQ (kg d))=true then 51 else 0
end U
def jqa:jX:=⟨[.val .int,.val .int,.val .int],[.bool],false,fun _=>[],fun d=>(U.ja d.1 d.2.1 d.2.2.1,())⟩
def jpP:Prop:=∀(d:Int×Int×Int×Unit),(decide (d.2.1<=d.1)&&decide (d.1<=d.2.2.1),())=(U.ja d.1 d.2.1 d.2.2.1,())
def jck:jX:=⟨[.val (.slice tSp),.fn [tSp] [.bool]],[.int],false,fun d=>[∀g∈d.1,U.jw (d.2.1.pre (g,()))],fun d=>(U.gD (U.jb (α:=SpD) d.2.1.F) d.1,())⟩
def jcz:Ann:=fun r=>match r with
 |2=>some fun σ=>{X:=Nat,sl:=fun i=>[(8,.dat .int (i:Int))],ob:=fun _=>[],inv:=fun i=>i<=(gd (.slice tSp) σ 0).length/\∀b:Nat,b<i->U.jb (gfb tSp σ 1) (nth (gd (.slice tSp) σ 0) b)=false,mu:=fun i=>(gd (.slice tSp) σ 0).length-i}
 |_=>none
def jcg:Prop:=∀(d:List (Int×Int×Unit)×FnD [tSp] [Ty.bool]×Unit),(∀(g:Int×Int×Unit),g∈d.1->U.jw (d.2.1.1 (g,())))->d.1.length<4611686018427387904->(∃(x:Nat),((0=(x:Int)/\True)/\True)/\x<=d.1.length/\∀(b:Nat),b<x->U.jb d.2.1.2 (nth d.1 b)=false)/\∀(x:Nat),(x<=d.1.length/\∀(b:Nat),b<x->U.jb d.2.1.2 (nth d.1 b)=false)->(decide ((x:Int)<(d.1.length:Int))=true->0<=(x:Int)/\(x:Int)<(d.1.length:Int)/\asks (d.2.1.1 (nth d.1 (x:Int).toNat,())) (((d.2.1.2 (nth d.1 (x:Int).toNat,())).1=true->((x:Int),())=(U.gD (U.jb d.2.1.2) d.1,()))/\((d.2.1.2 (nth d.1 (x:Int).toNat,())).1=false->jA ((x:Int)+1)/\∃(a:Nat),(((x:Int)+1=(a:Int)/\True)/\True)/\(a<=d.1.length/\∀(b:Nat),b<a->U.jb d.2.1.2 (nth d.1 b)=false)/\d.1.length-a<d.1.length-x)))/\(decide ((x:Int)<(d.1.length:Int))=false->((-1:Int),())=(U.gD (U.jb d.2.1.2) d.1,()))
def gQ:jX:=⟨[.val (.slice tSp),.fn [tSp] [.bool]],[.bool],false,fun d=>[∀g∈d.1,U.jw (d.2.1.pre (g,()))],fun d=>(d.1.any (U.jb (α:=SpD) d.2.1.F),())⟩
def gN:Prop:=∀(d:List (Int×Int×Unit)×FnD [tSp] [Ty.bool]×Unit),(∀(g:Int×Int×Unit),g∈d.1->U.jw (d.2.1.1 (g,())))->(∀(g:Int×Int×Unit),g∈d.1->U.jw (d.2.1.1 (g,())))/\(decide (0<=U.gD (U.jb d.2.1.2) d.1),())=(d.1.any (U.jb d.2.1.2),())
def jba:jX:=⟨[.val (.slice (.slice tSp)),.fn [(.slice tSp)] [.bool]],[.int],false,fun d=>[∀g∈d.1,U.jw (d.2.1.pre (g,()))],fun d=>(U.gD (U.jb (α:=(List SpD)) d.2.1.F) d.1,())⟩
def jbO:Ann:=fun r=>match r with
 |2=>some fun σ=>{X:=Nat,sl:=fun i=>[(8,.dat .int (i:Int))],ob:=fun _=>[],inv:=fun i=>i<=(gd (.slice (.slice tSp)) σ 0).length/\∀b:Nat,b<i->U.jb (gfb (.slice tSp) σ 1) (nth (gd (.slice (.slice tSp)) σ 0) b)=false,mu:=fun i=>(gd (.slice (.slice tSp)) σ 0).length-i}
 |_=>none
def ja2:Prop:=∀(d:List (List (Int×Int×Unit))×FnD [tSp.slice] [Ty.bool]×Unit),(∀(g:List (Int×Int×Unit)),g∈d.1->U.jw (d.2.1.1 (g,())))->d.1.length<4611686018427387904->(∃(x:Nat),((0=(x:Int)/\True)/\True)/\x<=d.1.length/\∀(b:Nat),b<x->U.jb d.2.1.2 (nth d.1 b)=false)/\∀(x:Nat),(x<=d.1.length/\∀(b:Nat),b<x->U.jb d.2.1.2 (nth d.1 b)=false)->(decide ((x:Int)<(d.1.length:Int))=true->0<=(x:Int)/\(x:Int)<(d.1.length:Int)/\asks (d.2.1.1 (nth d.1 (x:Int).toNat,())) (((d.2.1.2 (nth d.1 (x:Int).toNat,())).1=true->((x:Int),())=(U.gD (U.jb d.2.1.2) d.1,()))/\((d.2.1.2 (nth d.1 (x:Int).toNat,())).1=false->jA ((x:Int)+1)/\∃(a:Nat),(((x:Int)+1=(a:Int)/\True)/\True)/\(a<=d.1.length/\∀(b:Nat),b<a->U.jb d.2.1.2 (nth d.1 b)=false)/\d.1.length-a<d.1.length-x)))/\(decide ((x:Int)<(d.1.length:Int))=false->((-1:Int),())=(U.gD (U.jb d.2.1.2) d.1,()))
def yI:jX:=⟨[.val (.slice (.slice tSp)),.fn [(.slice tSp)] [.bool]],[.bool],false,fun d=>[∀g∈d.1,U.jw (d.2.1.pre (g,()))],fun d=>(d.1.any (U.jb (α:=(List SpD)) d.2.1.F),())⟩
def yE:Prop:=∀(d:List (List (Int×Int×Unit))×FnD [tSp.slice] [Ty.bool]×Unit),(∀(g:List (Int×Int×Unit)),g∈d.1->U.jw (d.2.1.1 (g,())))->(∀(g:List (Int×Int×Unit)),g∈d.1->U.jw (d.2.1.1 (g,())))/\(decide (0<=U.gD (U.jb d.2.1.2) d.1),())=(d.1.any (U.jb d.2.1.2),())
def gP:jX:=⟨[.val (.slice tBk),.fn [tBk] [.bool]],[.int],false,fun d=>[∀g∈d.1,U.jw (d.2.1.pre (g,()))],fun d=>(U.gD (U.jb (α:=BkD) d.2.1.F) d.1,())⟩
def jaq:Ann:=fun r=>match r with
 |2=>some fun σ=>{X:=Nat,sl:=fun i=>[(8,.dat .int (i:Int))],ob:=fun _=>[],inv:=fun i=>i<=(gd (.slice tBk) σ 0).length/\∀b:Nat,b<i->U.jb (gfb tBk σ 1) (nth (gd (.slice tBk) σ 0) b)=false,mu:=fun i=>(gd (.slice tBk) σ 0).length-i}
 |_=>none
def gM:Prop:=∀(d:List BkD×FnD [tBk] [Ty.bool]×Unit),(∀(g:BkD),g∈d.1->U.jw (d.2.1.1 (g,())))->d.1.length<4611686018427387904->(∃(x:Nat),((0=(x:Int)/\True)/\True)/\x<=d.1.length/\∀(b:Nat),b<x->U.jb d.2.1.2 (nth d.1 b)=false)/\∀(x:Nat),(x<=d.1.length/\∀(b:Nat),b<x->U.jb d.2.1.2 (nth d.1 b)=false)->(decide ((x:Int)<(d.1.length:Int))=true->0<=(x:Int)/\(x:Int)<(d.1.length:Int)/\asks (d.2.1.1 (nth d.1 (x:Int).toNat,())) (((d.2.1.2 (nth d.1 (x:Int).toNat,())).1=true->((x:Int),())=(U.gD (U.jb d.2.1.2) d.1,()))/\((d.2.1.2 (nth d.1 (x:Int).toNat,())).1=false->jA ((x:Int)+1)/\∃(a:Nat),(((x:Int)+1=(a:Int)/\True)/\True)/\(a<=d.1.length/\∀(b:Nat),b<a->U.jb d.2.1.2 (nth d.1 b)=false)/\d.1.length-a<d.1.length-x)))/\(decide ((x:Int)<(d.1.length:Int))=false->((-1:Int),())=(U.gD (U.jb d.2.1.2) d.1,()))
def vQ:jX:=⟨[.val (.slice tBk),.fn [tBk] [.bool]],[.bool],false,fun d=>[∀g∈d.1,U.jw (d.2.1.pre (g,()))],fun d=>(d.1.any (U.jb (α:=BkD) d.2.1.F),())⟩
def vP:Prop:=∀(d:List BkD×FnD [tBk] [Ty.bool]×Unit),(∀(g:BkD),g∈d.1->U.jw (d.2.1.1 (g,())))->(∀(g:BkD),g∈d.1->U.jw (d.2.1.1 (g,())))/\(decide (0<=U.gD (U.jb d.2.1.2) d.1),())=(d.1.any (U.jb d.2.1.2),())
def jbb:jX:=⟨[.val (.slice tSh),.fn [tSh] [.bool]],[.int],false,fun d=>[∀g∈d.1,U.jw (d.2.1.pre (g,()))],fun d=>(U.gD (U.jb (α:=ShD) d.2.1.F) d.1,())⟩
def jbP:Ann:=fun r=>match r with
 |2=>some fun σ=>{X:=Nat,sl:=fun i=>[(8,.dat .int (i:Int))],ob:=fun _=>[],inv:=fun i=>i<=(gd (.slice tSh) σ 0).length/\∀b:Nat,b<i->U.jb (gfb tSh σ 1) (nth (gd (.slice tSh) σ 0) b)=false,mu:=fun i=>(gd (.slice tSh) σ 0).length-i}
 |_=>none
def ja3:Prop:=∀(d:List ShD×FnD [tSh] [Ty.bool]×Unit),(∀(g:ShD),g∈d.1->U.jw (d.2.1.1 (g,())))->d.1.length<4611686018427387904->(∃(x:Nat),((0=(x:Int)/\True)/\True)/\x<=d.1.length/\∀(b:Nat),b<x->U.jb d.2.1.2 (nth d.1 b)=false)/\∀(x:Nat),(x<=d.1.length/\∀(b:Nat),b<x->U.jb d.2.1.2 (nth d.1 b)=false)->(decide ((x:Int)<(d.1.length:Int))=true->0<=(x:Int)/\(x:Int)<(d.1.length:Int)/\asks (d.2.1.1 (nth d.1 (x:Int).toNat,())) (((d.2.1.2 (nth d.1 (x:Int).toNat,())).1=true->((x:Int),())=(U.gD (U.jb d.2.1.2) d.1,()))/\((d.2.1.2 (nth d.1 (x:Int).toNat,())).1=false->jA ((x:Int)+1)/\∃(a:Nat),(((x:Int)+1=(a:Int)/\True)/\True)/\(a<=d.1.length/\∀(b:Nat),b<a->U.jb d.2.1.2 (nth d.1 b)=false)/\d.1.length-a<d.1.length-x)))/\(decide ((x:Int)<(d.1.length:Int))=false->((-1:Int),())=(U.gD (U.jb d.2.1.2) d.1,()))
def yJ:jX:=⟨[.val (.slice tSh),.fn [tSh] [.bool]],[.bool],false,fun d=>[∀g∈d.1,U.jw (d.2.1.pre (g,()))],fun d=>(d.1.any (U.jb (α:=ShD) d.2.1.F),())⟩
def yF:Prop:=∀(d:List ShD×FnD [tSh] [Ty.bool]×Unit),(∀(g:ShD),g∈d.1->U.jw (d.2.1.1 (g,())))->(∀(g:ShD),g∈d.1->U.jw (d.2.1.1 (g,())))/\(decide (0<=U.gD (U.jb d.2.1.2) d.1),())=(d.1.any (U.jb d.2.1.2),())
def jfJ:jX:=⟨[.val tSp,.rfn [tSp] [.bool]],[.bool],false,fun d=>[U.jw (d.2.1.pre (d.1,()))],fun d=>(!(U.jb (α:=SpD) d.2.1.F d.1),())⟩
def jfE:Prop:=∀(d:(Int×Int×Unit)×FnD [tSp] [Ty.bool]×Unit),U.jw (d.2.1.1 (d.1,()))->asks (d.2.1.1 (d.1,())) ((!(d.2.1.2 (d.1,())).1,())=(!U.jb d.2.1.2 d.1,()))
def jid:jX:=⟨[.val (.slice tSp),.fn [tSp] [.bool]],[.bool],false,fun d=>[∀g∈d.1,U.jw (d.2.1.pre (g,()))],fun d=>(d.1.all (U.jb (α:=SpD) d.2.1.F),())⟩
def jhZ:Prop:=∀(d:List (Int×Int×Unit)×FnD [tSp] [Ty.bool]×Unit),(∀(g:Int×Int×Unit),g∈d.1->U.jw (d.2.1.1 (g,())))->(∀(g:Int×Int×Unit),g∈d.1->U.jw [U.jw (d.2.1.1 (g,()))])/\(!d.1.any (U.jb fun(a:(Int×Int×Unit)×Unit)=>(!U.jb d.2.1.2 a.1,())),())=(d.1.all (U.jb d.2.1.2),())
def jek:jX:=⟨[.val (.slice tSp),.rfn [(.slice tSp)] [.bool]],[.bool],false,fun d=>[U.jw (d.2.1.pre (d.1,()))],fun d=>(!(U.jb (α:=(List SpD)) d.2.1.F d.1),())⟩
def jd9:Prop:=∀(d:List (Int×Int×Unit)×FnD [tSp.slice] [Ty.bool]×Unit),U.jw (d.2.1.1 (d.1,()))->asks (d.2.1.1 (d.1,())) ((!(d.2.1.2 (d.1,())).1,())=(!U.jb d.2.1.2 d.1,()))
def jg2:jX:=⟨[.val (.slice (.slice tSp)),.fn [(.slice tSp)] [.bool]],[.bool],false,fun d=>[∀g∈d.1,U.jw (d.2.1.pre (g,()))],fun d=>(d.1.all (U.jb (α:=(List SpD)) d.2.1.F),())⟩
def jgU:Prop:=∀(d:List (List (Int×Int×Unit))×FnD [tSp.slice] [Ty.bool]×Unit),(∀(g:List (Int×Int×Unit)),g∈d.1->U.jw (d.2.1.1 (g,())))->(∀(g:List (Int×Int×Unit)),g∈d.1->U.jw [U.jw (d.2.1.1 (g,()))])/\(!d.1.any (U.jb fun(a:List (Int×Int×Unit)×Unit)=>(!U.jb d.2.1.2 a.1,())),())=(d.1.all (U.jb d.2.1.2),())
def jcm:jX:=⟨[.val tBk,.rfn [tBk] [.bool]],[.bool],false,fun d=>[U.jw (d.2.1.pre (d.1,()))],fun d=>(!(U.jb (α:=BkD) d.2.1.F d.1),())⟩
def jcj:Prop:=∀(d:BkD×FnD [tBk] [Ty.bool]×Unit),U.jw (d.2.1.1 (d.1,()))->asks (d.2.1.1 (d.1,())) ((!(d.2.1.2 (d.1,())).1,())=(!U.jb d.2.1.2 d.1,()))
def jem:jX:=⟨[.val (.slice tBk),.fn [tBk] [.bool]],[.bool],false,fun d=>[∀g∈d.1,U.jw (d.2.1.pre (g,()))],fun d=>(d.1.all (U.jb (α:=BkD) d.2.1.F),())⟩
def jeb:Prop:=∀(d:List BkD×FnD [tBk] [Ty.bool]×Unit),(∀(g:BkD),g∈d.1->U.jw (d.2.1.1 (g,())))->(∀(g:BkD),g∈d.1->U.jw [U.jw (d.2.1.1 (g,()))])/\(!d.1.any (U.jb fun(a:BkD×Unit)=>(!U.jb d.2.1.2 a.1,())),())=(d.1.all (U.jb d.2.1.2),())
def jel:jX:=⟨[.val tSh,.rfn [tSh] [.bool]],[.bool],false,fun d=>[U.jw (d.2.1.pre (d.1,()))],fun d=>(!(U.jb (α:=ShD) d.2.1.F d.1),())⟩
def jea:Prop:=∀(d:ShD×FnD [tSh] [Ty.bool]×Unit),U.jw (d.2.1.1 (d.1,()))->asks (d.2.1.1 (d.1,())) ((!(d.2.1.2 (d.1,())).1,())=(!U.jb d.2.1.2 d.1,()))
def jg3:jX:=⟨[.val (.slice tSh),.fn [tSh] [.bool]],[.bool],false,fun d=>[∀g∈d.1,U.jw (d.2.1.pre (g,()))],fun d=>(d.1.all (U.jb (α:=ShD) d.2.1.F),())⟩
def jgV:Prop:=∀(d:List ShD×FnD [tSh] [Ty.bool]×Unit),(∀(g:ShD),g∈d.1->U.jw (d.2.1.1 (g,())))->(∀(g:ShD),g∈d.1->U.jw [U.jw (d.2.1.1 (g,()))])/\(!d.1.any (U.jb fun(a:ShD×Unit)=>(!U.jb d.2.1.2 a.1,())),())=(d.1.all (U.jb d.2.1.2),())
def jnO:jX:=⟨[.val tSp],[.bool],false,fun _=>[],fun d=>(U.jgy d.1,())⟩
def jno:Prop:=∀(d:(Int×Int×Unit)×Unit),(decide (0<=d.1.1)&&decide (d.1.1<=d.1.2.1)&&decide (d.1.2.1<=300),())=(U.jgy d.1,())
def jnN:jX:=⟨[.val (.slice tSp),.ref tDy,.rfn [tSp] [.bool]],[.bool],false,fun d=>[∀g∈d.1,U.jw (d.2.2.1.pre (g,()))],fun d=>(decide ((d.1.length:Int)=((U.jE d.2.1).length:Int))&&d.1.all (U.jb (α:=SpD) d.2.2.1.F),())⟩
def jnn:Prop:=∀(d:List (Int×Int×Unit)×DyD×FnD [tSp] [Ty.bool]×Unit),(∀(g:Int×Int×Unit),g∈d.1->U.jw (d.2.2.1.1 (g,())))->d.1.length<4611686018427387904->d.2.1.2.1.length<4611686018427387904->(decide ((d.1.length:Int)=(d.2.1.2.1.length:Int))=true->∀(g:Int×Int×Unit),g∈d.1->U.jw (d.2.2.1.1 (g,())))/\(decide ((d.1.length:Int)=(d.2.1.2.1.length:Int))&&d.1.all (U.jb d.2.2.1.2),())=(decide ((d.1.length:Int)=(↑(U.jE d.2.1).length:Int))&&d.1.all (U.jb d.2.2.1.2),())
def jnM:jX:=⟨[.val tBk,.ref tDy],[.bool],false,fun _=>[],fun d=>(U.jiM (U.jE d.2.1).length d.1,())⟩
def jnm:Prop:=∀(d:BkD×DyD×Unit),d.2.1.2.1.length<4611686018427387904->jA ((d.2.1.2.1.length:Int)-1)/\(U.ja d.1.2.1 (0:Int) ((d.2.1.2.1.length:Int)-1)&&decide (0<=d.1.2.2.1)&&decide (d.1.2.2.1<d.1.2.2.2.1)&&decide (d.1.2.2.2.1<=1440),())=(U.jiM (U.jE d.2.1).length d.1,())
def jnL:jX:=⟨[.val tSh,.ref tDy],[.bool],false,fun _=>[],fun d=>(U.joC (U.jq d.2.1).length (U.jl (U.jj d.2.1)).length d.1,())⟩
abbrev q58_0 (d:ShD×DyD×Unit):=(U.ja d.1.1 (0:Int) (99:Int)&&U.ja d.1.2.1 (0:Int) (9999:Int)&&U.ja d.1.2.2.1 (1:Int) (2:Int)&&U.ja d.1.2.2.2.1 (0:Int) ((d.2.1.2.2.1.length:Int)-1))
abbrev q58_1 (d:ShD×DyD×Unit):=(U.ja d.1.1 (0:Int) (99:Int)&&U.ja d.1.2.1 (0:Int) (9999:Int)&&U.ja d.1.2.2.1 (1:Int) (2:Int))
def jnl:Prop:=∀(d:ShD×DyD×Unit),((q58_1 d)=true->d.2.1.2.2.1.length<4611686018427387904)->((q58_1 d)=true->jA ((d.2.1.2.2.1.length:Int)-1))/\(((q58_0 d)=true->d.2.1.1.2.1.length<4611686018427387904)->((q58_0 d)=true->jA ((d.2.1.1.2.1.length:Int)-1))/\(U.ja d.1.1 (0:Int) (99:Int)&&U.ja d.1.2.1 (0:Int) (9999:Int)&&U.ja d.1.2.2.1 (1:Int) (2:Int)&&U.ja d.1.2.2.2.1 (0:Int) ((d.2.1.2.2.1.length:Int)-1)&&U.ja d.1.2.2.2.2.1 (0:Int) ((d.2.1.1.2.1.length:Int)-1),())=(U.joC (U.jq d.2.1).length (U.jl (U.jj d.2.1)).length d.1,()))
def jtk:jX:=⟨[.val tDy],[.bool],false,fun _=>[],fun d=>(U.zr d.1,())⟩
abbrev q59_0 (d:DyD×Unit):=((d.1.2.2.1.length:Int)<=4)
abbrev q59_1 (d:DyD×Unit):=(↑(U.jE d.1).length:Int)
abbrev q59_2 (d:DyD×Unit):=(d.1.2.1.length:Int)
def js3:Prop:=∀(d:DyD×Unit),d.1.2.2.1.length<4611686018427387904->(decide (q59_0 d)=true->d.1.2.1.length<4611686018427387904)->((decide (q59_0 d)&&U.ja (q59_2 d) (1:Int) (5:Int))=true->∀(g:List (Int×Int×Unit)),g∈d.1.2.1->U.jw [∀(a:Int×Int×Unit),a∈g->U.jw []])/\((decide (q59_0 d)&&U.ja (q59_2 d) (1:Int) (5:Int)&&d.1.2.1.all (U.jb fun(b:List (Int×Int×Unit)×Unit)=>(decide ((b.1.length:Int)=(q59_1 d))&&b.1.all (U.jb fun(h:(Int×Int×Unit)×Unit)=>(U.jgy h.1,())),())))=true->∀(i:BkD),i∈d.1.2.2.1->U.jw [])/\(((decide (q59_0 d)&&U.ja (q59_2 d) (1:Int) (5:Int)&&d.1.2.1.all (U.jb fun(c:List (Int×Int×Unit)×Unit)=>(decide ((c.1.length:Int)=(q59_1 d))&&c.1.all (U.jb fun(j:(Int×Int×Unit)×Unit)=>(U.jgy j.1,())),()))&&d.1.2.2.1.all (U.jb fun(n:BkD×Unit)=>(U.jiM (U.jE d.1).length n.1,()))&&U.ja d.1.2.2.2.1 (0:Int) (300:Int)&&U.ja d.1.2.2.2.2.1 (0:Int) (1440:Int))=true->d.1.2.2.2.2.2.1.length<4611686018427387904)->((decide (q59_0 d)&&U.ja (q59_2 d) (1:Int) (5:Int)&&d.1.2.1.all (U.jb fun(e:List (Int×Int×Unit)×Unit)=>(decide ((e.1.length:Int)=(q59_1 d))&&e.1.all (U.jb fun(k:(Int×Int×Unit)×Unit)=>(U.jgy k.1,())),()))&&d.1.2.2.1.all (U.jb fun(o:BkD×Unit)=>(U.jiM (U.jE d.1).length o.1,()))&&U.ja d.1.2.2.2.1 (0:Int) (300:Int)&&U.ja d.1.2.2.2.2.1 (0:Int) (1440:Int)&&decide ((d.1.2.2.2.2.2.1.length:Int)<=30))=true->∀(l:ShD),l∈d.1.2.2.2.2.2.1->U.jw [])/\(decide (q59_0 d)&&U.ja (q59_2 d) (1:Int) (5:Int)&&d.1.2.1.all (U.jb fun(f:List (Int×Int×Unit)×Unit)=>(decide ((f.1.length:Int)=(q59_1 d))&&f.1.all (U.jb fun(m:(Int×Int×Unit)×Unit)=>(U.jgy m.1,())),()))&&d.1.2.2.1.all (U.jb fun(z6:BkD×Unit)=>(U.jiM (U.jE d.1).length z6.1,()))&&U.ja d.1.2.2.2.1 (0:Int) (300:Int)&&U.ja d.1.2.2.2.2.1 (0:Int) (1440:Int)&&decide ((d.1.2.2.2.2.2.1.length:Int)<=30)&&d.1.2.2.2.2.2.1.all (U.jb fun(z7:ShD×Unit)=>(U.joC (U.jq d.1).length (U.jl (U.jj d.1)).length z7.1,())),())=(U.zr d.1,()))
def jg4:jX:=⟨[.val .int],[.bool],false,fun _=>[],fun _=>(false,())⟩
def jgW:Prop:=∀(d:Int×Unit),(decide (d.1≠d.1),())=(false,())
def jen:jX:=⟨[.val .int,.val .int],[.int],false,fun _=>[],fun d=>(U.gy d.1 d.2.1,())⟩
abbrev q61_0 (d:Int×Int×Unit):=(U.gy d.1 d.2.1,())
def jec:Prop:=∀(d:Int×Int×Unit),(false=true->(false=true->((0:Int),())=(q61_0 d))/\(false=false->((-1:Int),())=(q61_0 d)))/\(false=false->(false=true->((1:Int),())=(q61_0 d))/\(false=false->(decide (d.1<d.2.1)=true->((-1:Int),())=(q61_0 d))/\(decide (d.1<d.2.1)=false->(decide (d.2.1<d.1)=true->((1:Int),())=(q61_0 d))/\(decide (d.2.1<d.1)=false->((0:Int),())=(q61_0 d)))))
def jlW:jX:=⟨[.val (.slice .int)],[.int],false,fun _=>[],fun d=>(U.wj d.1,())⟩
def jm3:Ann:=fun r=>match r with
 |3=>some fun σ=>{X:=Nat,sl:=fun i=>[(8,.dat .int (i:Int))],ob:=fun _=>[],inv:=fun i=>i<=(gd (.slice .int) σ 0).length/\∀b:Nat,b<i->nth (gd (.slice .int) σ 0) b=0,mu:=fun i=>(gd (.slice .int) σ 0).length-i}
 |_=>none
def jlJ:Prop:=∀(d:List Int×Unit),d.1.length<4611686018427387904->(∃(x:Nat),((0=(x:Int)/\True)/\True)/\x<=d.1.length/\∀(b:Nat),b<x->nth d.1 b=0)/\∀(x:Nat),(x<=d.1.length/\∀(b:Nat),b<x->nth d.1 b=0)->(decide ((x:Int)<(d.1.length:Int))=true->0<=(x:Int)/\(x:Int)<(d.1.length:Int)/\(decide (nth d.1 (x:Int).toNat≠0)=true->(nth d.1 (x:Int).toNat,())=(U.wj d.1,()))/\(decide (nth d.1 (x:Int).toNat≠0)=false->jA ((x:Int)+1)/\∃(a:Nat),(((x:Int)+1=(a:Int)/\True)/\True)/\(a<=d.1.length/\∀(b:Nat),b<a->nth d.1 b=0)/\d.1.length-a<d.1.length-x))/\(decide ((x:Int)<(d.1.length:Int))=false->((0:Int),())=(U.wj d.1,()))
def jie:jX:=⟨[.val tSh,.val tSh],[.int],false,fun _=>[],fun d=>(U.yg d.1 d.2.1,())⟩
def jh0:Prop:=∀(d:ShD×ShD×Unit),(U.wj [U.gy d.1.1 d.2.1.1,U.gy d.1.2.1 d.2.1.2.1,U.gy d.1.2.2.1 d.2.1.2.2.1,U.gy d.1.2.2.2.1 d.2.1.2.2.2.1,U.gy d.1.2.2.2.2.1 d.2.1.2.2.2.2.1],())=(U.yg d.1 d.2.1,())
def jqb:jX:=⟨[.val tSh,.val tSh],[.int],false,fun _=>[],fun d=>(U.jp d.1 d.2.1,())⟩
def jpQ:Prop:=∀(d:ShD×ShD×Unit),(U.wj [U.gy d.1.2.1 d.2.1.2.1,U.gy d.1.1 d.2.1.1],())=(U.jp d.1 d.2.1,())
def jfM:zH:=⟨[.val (.slice tSh)],[rwS],fun d=>[d.1.length<=100000],fun d=>((d.1,()),())⟩
def jfA:Prop:=∀(d:List ShD×Unit),d.1.length<=100000->∀(a:Bool),(a=true->d.1=[])->(a=true->([],())=d/\()=())/\(a=false->(0+d.1.length)*40<=140737488355328/\([]++d.1,())=d/\()=())
def jc9:zH:=⟨[.own rwS false],[rwS],fun d=>[d.1.length<=100000],fun d=>((U.qS U.kZ d.1,()),())⟩
def jdV:Ann:=fun r=>match r with
 |4=>some fun σ=>{X:=Nat,sl:=fun i=>[(3,.dat .int (i:Int))],ob:=fun _=>[],inv:=fun i=>U.jAB U.kZ (gr tSh σ 1000000) i,mu:=fun i=>(gr tSh σ 1000000).length-i}
 |9=>some fun σ=>{X:=Nat×List ShD,sl:=fun x=>[(5,.dat .int (x.1:Int)),(3,.dat .int (U.jcF U.kZ (gr tSh σ 1000000) ((gd .int σ 3).toNat+x.1)))],ob:=fun x=>[(1000000,some (.row 55 tSh false .unk x.2))],inv:=fun x=>U.jqZ U.kZ (gr tSh σ 1000000) (gd .int σ 3).toNat x.1 x.2,mu:=fun x=>(gr tSh σ 1000000).length-x.1}
 |_=>none
abbrev q66_0 (x:Nat)(a:Nat×List ShD):=((x:Int).toNat+a.1)
abbrev q66_2 (d:List ShD×Unit)(x:Nat)(a:Nat×List ShD):=(List.take (U.jcF U.kZ d.1 (q66_0 x a)).toNat a.2++List.replicate ((a.2.length:Int).toNat-(U.jcF U.kZ d.1 (q66_0 x a)).toNat) ((0:Int),(0:Int),(0:Int),(0:Int),(0:Int),()))
abbrev q66_3 (a:Nat×List ShD)(x:Nat):=(!decide (nth a.2 ((x:Int).toNat+(a.1:Int).toNat)=nth a.2 ((x:Int).toNat+((a.1:Int)-1).toNat)))
abbrev q66_4 (d:List ShD×Unit):=(d.1.length:Int)
abbrev q66_1 (d:List ShD×Unit)(x:Nat):=(↑((q66_4 d).toNat-(x:Int).toNat):Int)
def jcZ:Prop:=∀(d:List ShD×Unit),d.1.length<=100000->d.1.length<4611686018427387904->(decide ((q66_4 d)<2)=true->d=(U.qS U.kZ d.1,())/\()=())/\(decide ((q66_4 d)<2)=false->(∃(x:Nat),((1=(x:Int)/\True)/\True)/\U.jAB U.kZ d.1 x)/\∀(x:Nat),U.jAB U.kZ d.1 x->d.1.length<4611686018427387904->(decide ((x:Int)<(q66_4 d))=true->0<=(x:Int)/\(x:Int)<(q66_4 d)/\jA ((x:Int)-1)/\0<=(x:Int)-1/\(x:Int)-1<(q66_4 d)/\(decide (nth d.1 (x:Int).toNat=nth d.1 ((x:Int)-1).toNat)=true->0<=(x:Int)/\(x:Int)<=(q66_4 d)/\(q66_4 d)<=(q66_4 d)/\(∃(a:Nat×List ShD),((1=(a.1:Int)/\(x:Int)=U.jcF U.kZ d.1 (q66_0 x a)/\True)/\d.1=a.2/\True)/\U.jqZ U.kZ d.1 (x:Int).toNat a.1 a.2)/\∀(a:Nat×List ShD),U.jqZ U.kZ d.1 (x:Int).toNat a.1 a.2->(q66_4 d).toNat-(x:Int).toNat<4611686018427387904->(decide ((a.1:Int)<(q66_1 d x))=true->0<=(a.1:Int)/\(a.1:Int)<(q66_1 d x)/\jA ((a.1:Int)-1)/\0<=(a.1:Int)-1/\(a.1:Int)-1<(q66_1 d x)/\((q66_3 a x)=true->0<=(a.1:Int)/\(a.1:Int)<(q66_1 d x)/\0<=U.jcF U.kZ d.1 (q66_0 x a)/\U.jcF U.kZ d.1 (q66_0 x a)<(a.2.length:Int)/\jA (U.jcF U.kZ d.1 (q66_0 x a)+1)/\jA ((a.1:Int)+1)/\∃(b:Nat×List ShD),(((a.1:Int)+1=(b.1:Int)/\U.jcF U.kZ d.1 (q66_0 x a)+1=U.jcF U.kZ d.1 ((x:Int).toNat+b.1)/\True)/\a.2.set (U.jcF U.kZ d.1 (q66_0 x a)).toNat (nth a.2 ((x:Int).toNat+(a.1:Int).toNat))=b.2/\True)/\U.jqZ U.kZ d.1 (x:Int).toNat b.1 b.2/\d.1.length-b.1<d.1.length-a.1)/\((q66_3 a x)=false->jA ((a.1:Int)+1)/\∃(b:Nat×List ShD),((U.jcF U.kZ d.1 (q66_0 x a)=U.jcF U.kZ d.1 ((x:Int).toNat+b.1)/\(a.1:Int)+1=(b.1:Int)/\True)/\a.2=b.2/\True)/\U.jqZ U.kZ d.1 (x:Int).toNat b.1 b.2/\d.1.length-b.1<d.1.length-a.1))/\(decide ((a.1:Int)<(q66_1 d x))=false->0<=U.jcF U.kZ d.1 (q66_0 x a)/\U.jcF U.kZ d.1 (q66_0 x a)<=(a.2.length:Int)/\(a.2.length:Int)<=(a.2.length:Int)/\(U.jcF U.kZ d.1 (q66_0 x a)).toNat+((a.2.length:Int).toNat-(U.jcF U.kZ d.1 (q66_0 x a)).toNat)=a.2.length/\(0:Int)<=0/\0<=U.jcF U.kZ d.1 (q66_0 x a)/\U.jcF U.kZ d.1 (q66_0 x a)<=(↑(q66_2 d x a).length:Int)/\(List.take ((U.jcF U.kZ d.1 (q66_0 x a)).toNat-Int.toNat 0) (q66_2 d x a),())=(U.qS U.kZ d.1,())/\()=()))/\(decide (nth d.1 (x:Int).toNat=nth d.1 ((x:Int)-1).toNat)=false->jA ((x:Int)+1)/\∃(c:Nat),(((x:Int)+1=(c:Int)/\True)/\True)/\U.jAB U.kZ d.1 c/\d.1.length-c<d.1.length-x))/\(decide ((x:Int)<(q66_4 d))=false->d=(U.qS U.kZ d.1,())/\()=()))
abbrev jcn:zH:=jzr tSh 55
def jl0:zH:=⟨[.val (.slice tSh)],[rwS],fun d=>[d.1.length<=100000],fun d=>((U.jQ d.1,()),())⟩
abbrev q67_0:=(Ty.int.pair (Ty.int.pair (Ty.int.pair (Ty.int.pair (Ty.int.pair Ty.unit)))))
def jlI:Prop:=∀(d:List ShD×Unit),d.1.length<=100000->d.1.length<=100000/\(∀(x:ShD),x∈d.1->∀(y:ShD),y∈d.1->U.jw [])/\kx (U.jf q67_0 fun(a:ShD×ShD×Unit)=>(U.yg a.1 a.2.1,())) d.1/\(U.jc (U.jf q67_0 fun(b:ShD×ShD×Unit)=>(U.yg b.1 b.2.1,())) d.1).length<=100000/\(U.qS U.kZ (U.jc (U.jf q67_0 fun(c:ShD×ShD×Unit)=>(U.yg c.1 c.2.1,())) d.1),())=(U.jQ d.1,())/\()=()
def jnY:zH:=⟨[.val tSh,.own (.box 122 [.map .int .int]) true],[.cl (.dat .bool)],fun d=>[U.jvf d.2.1.1],fun d=>((U.jsT d.2.1.1 d.1,()),((U.jcd d.2.1.1 d.1,()),()))⟩
abbrev q68_0 (d:ShD×(List (Int×Int)×Unit)×Unit):=(kE (0:Int) (zx Ty.int d.1.1 d.2.1.1)+1)
def jnp:Prop:=∀(d:ShD×(List (Int×Int)×Unit)×Unit),U.jvf d.2.1.1->jA (q68_0 d)/\(decide (1<kE (0:Int) (zx Ty.int d.1.1 (jdr Ty.int d.1.1 (q68_0 d) d.2.1.1))),())=(U.jsT d.2.1.1 d.1,())/\((jdr Ty.int d.1.1 (q68_0 d) d.2.1.1,()),())=((U.jcd d.2.1.1 d.1,()),())
abbrev clV:Sh:= .fbox 88 122 [.map .int .int]
def yM:zH:=⟨[.val (.slice tSh),.own clV true],[.cl (.dat .int)],fun d=>[d.1.length<=100000,U.jB3 d.2.1.1],fun d=>((U.jbS d.2.1.1 d.1,()),((U.jdL d.2.1.1 d.1,()),()))⟩
def gA:Ann:=fun r=>match r with
 |2=>some fun σ=>{X:=Nat,sl:=fun i=>[(8,.dat .int (i:Int))],ob:=fun i=>[(400020,some (.map false .int .int (U.kI [] (gd (.slice tSh) σ 0) i)))],inv:=fun i=>i<=(gd (.slice tSh) σ 0).length/\∀b:Nat,b<i->U.jfq [] (gd (.slice tSh) σ 0) b=false,mu:=fun i=>(gd (.slice tSh) σ 0).length-i}
 |_=>none
def yD:Prop:=∀(d:List ShD×(List (Int×Int)×Unit)×Unit),d.1.length<=100000->U.jB3 d.2.1.1->d.1.length<4611686018427387904->(∃(x:Nat),((0=(x:Int)/\True)/\d.2.1.1=U.kI [] d.1 x/\True)/\x<=d.1.length/\∀(b:Nat),b<x->U.jfq [] d.1 b=false)/\∀(x:Nat),(x<=d.1.length/\∀(b:Nat),b<x->U.jfq [] d.1 b=false)->(decide ((x:Int)<(d.1.length:Int))=true->0<=(x:Int)/\(x:Int)<(d.1.length:Int)/\U.jvf (U.kI [] d.1 x)/\(U.jsT (U.kI [] d.1 x) (nth d.1 (x:Int).toNat)=true->((x:Int),())=(U.jbS d.2.1.1 d.1,())/\((U.jcd (U.kI [] d.1 x) (nth d.1 (x:Int).toNat),()),())=((U.jdL d.2.1.1 d.1,()),()))/\(U.jsT (U.kI [] d.1 x) (nth d.1 (x:Int).toNat)=false->jA ((x:Int)+1)/\∃(a:Nat),(((x:Int)+1=(a:Int)/\True)/\(True/\True)/\U.jcd (U.kI [] d.1 x) (nth d.1 (x:Int).toNat)=U.kI [] d.1 a/\True)/\(a<=d.1.length/\∀(b:Nat),b<a->U.jfq [] d.1 b=false)/\d.1.length-a<d.1.length-x))/\(decide ((x:Int)<(d.1.length:Int))=false->((-1:Int),())=(U.jbS d.2.1.1 d.1,())/\((U.kI [] d.1 x,()),())=((U.jdL d.2.1.1 d.1,()),()))
def vo:zH:=⟨[.val (.slice tSh),.own clV true],[.cl (.dat .bool)],fun d=>[d.1.length<=100000,U.jB3 d.2.1.1],fun d=>((decide (0<=U.jbS d.2.1.1 d.1),()),((U.jdL d.2.1.1 d.1,()),()))⟩
def vi:Prop:=∀(d:List ShD×(List (Int×Int)×Unit)×Unit),d.1.length<=100000->U.jB3 d.2.1.1->d.1.length<=100000/\U.jB3 d.2.1.1/\(decide (0<=U.jbS d.2.1.1 d.1),())=(decide (0<=U.jbS d.2.1.1 d.1),())/\((U.jdL d.2.1.1 d.1,()),())=((U.jdL d.2.1.1 d.1,()),())
def jtl:jX:=⟨[.val (.slice tSh)],[.bool],false,fun d=>[d.1.length<=100000],fun d=>(U.juH d.1,())⟩
def js4:Prop:=∀(d:List ShD×Unit),d.1.length<=100000->d.1.length<=100000/\U.jB3 []/\(decide (0<=U.jbS [] d.1),())=(U.juH d.1,())
def jj5:jX:=⟨[.val tDy],[.int],false,fun _=>[],fun d=>(U.jjI d.1,())⟩
def jkB:Ann:=fun r=>match r with
 |5=>some fun σ=>{X:=Nat,sl:=fun i=>[(17,.dat .int (i:Int))],ob:=fun _=>[],inv:=fun i=>i<=(gd (.slice tBk) σ 15).length/\∀b:Nat,b<i->U.zB (U.jj (gd tDy σ 0)) (U.jfx (nth (gd (.slice tBk) σ 15) b))=true,mu:=fun i=>(gd (.slice tBk) σ 15).length-i}
 |_=>none
abbrev q72_0:=((0:Int),(1:Int),(0:Int),(0:Int),(0:Int),(1:Int),())
def jjZ:Prop:=∀(d:DyD×Unit),(decide (U.zV d.1.1 q72_0≠0)=true->(U.zV d.1.1 q72_0,())=(U.jjI d.1,()))/\(decide (U.zV d.1.1 q72_0≠0)=false->d.1.2.2.1.length<4611686018427387904->(∃(x:Nat),((0=(x:Int)/\True)/\True)/\x<=d.1.2.2.1.length/\∀(b:Nat),b<x->U.zB (U.jj d.1) (U.jfx (nth d.1.2.2.1 b))=true)/\∀(x:Nat),(x<=d.1.2.2.1.length/\∀(b:Nat),b<x->U.zB (U.jj d.1) (U.jfx (nth d.1.2.2.1 b))=true)->(decide ((x:Int)<(d.1.2.2.1.length:Int))=true->0<=(x:Int)/\(x:Int)<(d.1.2.2.1.length:Int)/\(decide (U.zV d.1.1 (nth d.1.2.2.1 (x:Int).toNat).1≠0)=true->(U.zV d.1.1 (nth d.1.2.2.1 (x:Int).toNat).1,())=(U.jjI d.1,()))/\(decide (U.zV d.1.1 (nth d.1.2.2.1 (x:Int).toNat).1≠0)=false->jA ((x:Int)+1)/\∃(a:Nat),(((x:Int)+1=(a:Int)/\True)/\True)/\(a<=d.1.2.2.1.length/\∀(b:Nat),b<a->U.zB (U.jj d.1) (U.jfx (nth d.1.2.2.1 b))=true)/\d.1.2.2.1.length-a<d.1.2.2.1.length-x))/\(decide ((x:Int)<(d.1.2.2.1.length:Int))=false->((0:Int),())=(U.jjI d.1,())))
def jtp:jX:=⟨[.val tDy],[.int],false,fun d=>[(U.kg d.1).length<=100000],fun d=>(U.jB d.1,())⟩
def js7:Prop:=∀(d:DyD×Unit),(U.kg d.1).length<=100000->(decide (U.jjI d.1≠0)=true->(U.jjI d.1,())=(U.jB d.1,()))/\(decide (U.jjI d.1≠0)=false->((!U.zr d.1)=true->((50:Int),())=(U.jB d.1,()))/\((!U.zr d.1)=false->d.1.2.2.2.2.2.1.length<=100000/\(U.jQ d.1.2.2.2.2.2.1).length<=100000/\(U.juH (U.jQ d.1.2.2.2.2.2.1)=true->((51:Int),())=(U.jB d.1,()))/\(U.juH (U.jQ d.1.2.2.2.2.2.1)=false->((0:Int),())=(U.jB d.1,()))))
end Go.X
namespace Go.X
open Go.Proofs
theorem jtU:jpP:=by
 intro d;rfl
theorem jac:zn PR 68 jqa:=jT jtU Tryz.func68 kcN koN
theorem jdB:jcg:=by
 rintro⟨l,f,⟨⟩⟩ a g;refine⟨⟨0,⟨⟨rfl,trivial⟩,trivial⟩,jDq _,fun b c=>by omega⟩,fun i hi=>⟨fun h=> ?_,fun h=> ?_⟩⟩
 .have h:i<l.length:=(by simpa using h);simp only[jDm] at*;refine⟨by omega,by omega,wq _ (a _ (L.mem_nth h)) ⟨fun c=> ?_,fun c=>⟨L.in64 (by omega) (by omega),i+1,⟨⟨by simp,trivial⟩,trivial⟩,⟨by omega,fun b d=> ?_⟩,by omega⟩⟩⟩
  .rw[wJ (p:=U.jb (α:=SpD) f.F) h hi.2 c]
  .by_cases e:b=i
   .subst e;exact c
   .exact hi.2 b (by omega)
 .have h:l.length<=i:=(by simpa using h);rw[kz (p:=U.jb (α:=SpD) f.F) h hi.2]
theorem jcs:zn PR 180 jck:=wO jcz jdB Tryz.func180 kcN koN
theorem jaT:gN:=by
 rintro⟨l,f,⟨⟩⟩ a;refine⟨a,?_⟩;exact congrArg (·,()) (jbF (U.jb (α:=SpD) f.F) l)
theorem jab:zn PR 137 gQ:=jT jaT Tryz.func137 (kcC jcs kcN) koN
theorem jcw:ja2:=by
 rintro⟨l,f,⟨⟩⟩ a g;refine⟨⟨0,⟨⟨rfl,trivial⟩,trivial⟩,jDq _,fun b c=>by omega⟩,fun i hi=>⟨fun h=> ?_,fun h=> ?_⟩⟩
 .have h:i<l.length:=(by simpa using h);simp only[jDm] at*;refine⟨by omega,by omega,wq _ (a _ (L.mem_nth h)) ⟨fun c=> ?_,fun c=>⟨L.in64 (by omega) (by omega),i+1,⟨⟨by simp,trivial⟩,trivial⟩,⟨by omega,fun b d=> ?_⟩,by omega⟩⟩⟩
  .rw[wJ (p:=U.jb (α:=(List SpD)) f.F) h hi.2 c]
  .by_cases e:b=i
   .subst e;exact c
   .exact hi.2 b (by omega)
 .have h:l.length<=i:=(by simpa using h);rw[kz (p:=U.jb (α:=(List SpD)) f.F) h hi.2]
theorem jbo:zn PR 181 jba:=wO jbO jcw Tryz.func181 kcN koN
theorem jaj:yE:=by
 rintro⟨l,f,⟨⟩⟩ a;refine⟨a,?_⟩;exact congrArg (·,()) (jbF (U.jb (α:=(List SpD)) f.F) l)
theorem yW:zn PR 139 yI:=jT jaj Tryz.func139 (kcC jbo kcN) koN
theorem jaS:gM:=by
 rintro⟨l,f,⟨⟩⟩ a g;refine⟨⟨0,⟨⟨rfl,trivial⟩,trivial⟩,jDq _,fun b c=>by omega⟩,fun i hi=>⟨fun h=> ?_,fun h=> ?_⟩⟩
 .have h:i<l.length:=(by simpa using h);simp only[jDm] at*;refine⟨by omega,by omega,wq _ (a _ (L.mem_nth h)) ⟨fun c=> ?_,fun c=>⟨L.in64 (by omega) (by omega),i+1,⟨⟨by simp,trivial⟩,trivial⟩,⟨by omega,fun b d=> ?_⟩,by omega⟩⟩⟩
  .rw[wJ (p:=U.jb (α:=BkD) f.F) h hi.2 c]
  .by_cases e:b=i
   .subst e;exact c
   .exact hi.2 b (by omega)
 .have h:l.length<=i:=(by simpa using h);rw[kz (p:=U.jb (α:=BkD) f.F) h hi.2]
theorem jaa:zn PR 182 gP:=wO jaq jaS Tryz.func182 kcN koN
theorem yx:vP:=by
 rintro⟨l,f,⟨⟩⟩ a;refine⟨a,?_⟩;exact congrArg (·,()) (jbF (U.jb (α:=BkD) f.F) l)
theorem vS:zn PR 141 vQ:=jT yx Tryz.func141 (kcC jaa kcN) koN
theorem jcx:ja3:=by
 rintro⟨l,f,⟨⟩⟩ a g;refine⟨⟨0,⟨⟨rfl,trivial⟩,trivial⟩,jDq _,fun b c=>by omega⟩,fun i hi=>⟨fun h=> ?_,fun h=> ?_⟩⟩
 .have h:i<l.length:=(by simpa using h);simp only[jDm] at*;refine⟨by omega,by omega,wq _ (a _ (L.mem_nth h)) ⟨fun c=> ?_,fun c=>⟨L.in64 (by omega) (by omega),i+1,⟨⟨by simp,trivial⟩,trivial⟩,⟨by omega,fun b d=> ?_⟩,by omega⟩⟩⟩
  .rw[wJ (p:=U.jb (α:=ShD) f.F) h hi.2 c]
  .by_cases e:b=i
   .subst e;exact c
   .exact hi.2 b (by omega)
 .have h:l.length<=i:=(by simpa using h);rw[kz (p:=U.jb (α:=ShD) f.F) h hi.2]
theorem jbp:zn PR 119 jbb:=wO jbP jcx Tryz.func119 kcN koN
theorem jak:yF:=by
 rintro⟨l,f,⟨⟩⟩ a;refine⟨a,?_⟩;exact congrArg (·,()) (jbF (U.jb (α:=ShD) f.F) l)
theorem yX:zn PR 87 yJ:=jT jak Tryz.func87 (kcC jbp kcN) koN
theorem jhs:jfE:=by
 intro d h;exact wq _ h rfl
theorem jfW:zn PR 138 jfJ:=jT jhs Tryz.func138 kcN koN
theorem jkp:jhZ:=by
 intro d h;exact⟨fun g a=>⟨h g a,trivial⟩,congrArg (·,()) (jiQ d.snd.fst.2 d.fst)⟩
theorem jiI:zn PR 111 jid:=jT jkp Tryz.func111 (kcC jab (kcC jfW kcN)) koN
theorem jga:jd9:=by
 intro d h;exact wq _ h rfl
theorem jeF:zn PR 140 jek:=jT jga Tryz.func140 kcN koN
theorem jji:jgU:=by
 intro d h;exact⟨fun g a=>⟨h g a,trivial⟩,congrArg (·,()) (jiQ d.snd.fst.2 d.fst)⟩
theorem jhi:zn PR 114 jg2:=jT jji Tryz.func114 (kcC yW (kcC jeF kcN)) koN
theorem jdD:jcj:=by
 intro d h;exact wq _ h rfl
theorem jcu:zn PR 142 jcm:=jT jdD Tryz.func142 kcN koN
theorem jgc:jeb:=by
 intro d h;exact⟨fun g a=>⟨h g a,trivial⟩,congrArg (·,()) (jiQ d.snd.fst.2 d.fst)⟩
theorem jeH:zn PR 115 jem:=jT jgc Tryz.func115 (kcC vS (kcC jcu kcN)) koN
theorem jgb:jea:=by
 intro d h;exact wq _ h rfl
theorem jeG:zn PR 143 jel:=jT jgb Tryz.func143 kcN koN
theorem jjj:jgV:=by
 intro d h;exact⟨fun g a=>⟨h g a,trivial⟩,congrArg (·,()) (jiQ d.snd.fst.2 d.fst)⟩
theorem jhj:zn PR 116 jg3:=jT jjj Tryz.func116 (kcC yX (kcC jeG kcN)) koN
theorem jrb:jno:=fun _=>rfl
theorem jox:zn PR 109 jnO:=jT jrb Tryz.func109 kcN koN
theorem jra:jnn:=by
 rintro⟨l,d,f,⟨⟩⟩ a _ _;exact⟨fun _=>a,rfl⟩
theorem jow:zn PR 110 jnN:=jT jra Tryz.func110 (kcC jiI kcN) koN
theorem jq9:jnm:=by
 rintro⟨b,d,⟨⟩⟩ h;have h:(U.jE d).length<4611686018427387904:=h;exact⟨L.in64 (by show _<=((U.jE d).length:Int)-1;omega) (by show((U.jE d).length:Int)-1<=_;omega),rfl⟩
theorem jov:zn PR 112 jnM:=jT jq9 Tryz.func112 (kcC jac kcN) koN
theorem jq8:jnl:=by
 unfold jnl q58_1 q58_0;rintro⟨s,d,⟨⟩⟩ h;refine⟨fun a=> ?_,fun b=>⟨fun a=> ?_,rfl⟩⟩
 .have h:=h a;exact L.in64 (by simp only at*;omega) (by simp only at*;omega)
 .have h:=b a;exact L.in64 (by simp only at*;omega) (by simp only at*;omega)
theorem jou:zn PR 113 jnL:=jT jq8 Tryz.func113 (kcC jac kcN) koN
theorem jyk (s:SpD):U.jgy s=U.jdp s:=by
 unfold U.jgy U.jdp;rw[jDQ];simp only[jDg,decide_eq_true_eq];omega
theorem jym (n:Nat) (b:BkD):U.jiM n b=U.jcv n b:=by
 unfold U.jiM U.jcv U.ja;rw[jDQ];simp only[jDg,decide_eq_true_eq];omega
theorem jyl (nb a:Nat) (s:ShD):U.joC nb a s=U.jbu nb a s:=by
 unfold U.joC U.jbu U.ja;rw[jDQ];simp only[jDg,decide_eq_true_eq];omega
theorem jyA (d:DyD):(((((((decide (((U.jq d).length:Int)<=4)&&U.ja ((U.jE d).length:Int) 1 5)&&(U.jE d).all (fun r=>decide ((r.length:Int)=((U.jE d).length:Int))&&r.all U.jdp))&&(U.jq d).all (U.jcv (U.jE d).length))&&U.ja (U.jg7 d) 0 300)&&U.ja (U.jtM d) 0 1440)&&decide (((U.kg d).length:Int)<=30))&&(U.kg d).all (U.jbu (U.jq d).length (U.jl (U.jj d)).length))=U.zr d:=by
 unfold U.zr;have e:(fun(r:List SpD)=>decide ((r.length:Int)=((U.jE d).length:Int))&&r.all U.jdp)=U.qX (U.jE d).length:=by
  funext r;unfold U.qX;congr 1;exact decide_eq_decide.2 (by omega)
 rw[e];cases (U.jE d).all (U.qX (U.jE d).length)<;>cases (U.jq d).all (U.jcv (U.jE d).length)<;>cases (U.kg d).all (U.jbu (U.jq d).length (U.jl (U.jj d)).length)<;>simp only[Bool.and_false,Bool.and_true,Bool.false_and,U.ja]
 rw[jDQ];simp only[jDg,decide_eq_true_eq];omega
theorem jwD:js3:=by
 unfold js3 q59_2 q59_1 q59_0;rintro⟨d,⟨⟩⟩ _ _;refine⟨fun _ _ _=>⟨fun _ _=>trivial,trivial⟩,fun _ _ _=>trivial,fun _=>⟨fun _ _ _=>trivial,?_⟩⟩;have a:(U.jb fun(x:SpD×Unit)=>(U.jgy x.fst,()))=U.jdp:=funext jyk;have b:(U.jb fun(x:BkD×Unit)=>(U.jiM (U.jE d).length x.fst,()))=U.jcv (U.jE d).length:=funext (jym _);have c:(U.jb fun(x:ShD×Unit)=>(U.joC (U.jq d).length (U.jl (U.jj d)).length x.fst,()))=U.jbu (U.jq d).length (U.jl (U.jj d)).length:=funext (jyl _ _);simp only;rw[a,b,c];exact congrArg (·,()) (jyA d)
theorem jtB:zn PR 81 jtk:=jT jwD Tryz.func81 (kcC jac (kcC jox (kcC jow (kcC jov (kcC jou (kcC jhi (kcC jeH (kcC jhj kcN)))))))) koN
theorem jjk:jgW:=by
 intro d;simp
theorem jhk:zn PR 102 jg4:=jT jjk Tryz.func102 kcN koN
theorem jgd:jec:=by
 unfold jec q61_0;rintro⟨a,b,⟨⟩⟩;refine⟨fun h=>(by cases h),fun _=>⟨fun h=>(by cases h),fun _=>⟨fun h=> ?_,fun h=>⟨fun c=> ?_,fun c=> ?_⟩⟩⟩⟩
 .have h:a<b:=of_decide_eq_true h;simp only;unfold U.gy;rw[if_pos h]
 .have h:¬a<b:=of_decide_eq_false h;have c:b<a:=of_decide_eq_true c;simp only;unfold U.gy;rw[if_neg h,if_pos c]
 .have h:¬a<b:=of_decide_eq_false h;have c:¬b<a:=of_decide_eq_false c;simp only;unfold U.gy;rw[if_neg h,if_neg c]
theorem wN:zn PR 73 jen:=jT jgd Tryz.func73 (kcC jhk kcN) koN
theorem jt4 {l:List Int} {i:Nat} (h:i<l.length) (a:∀b:Nat,b<i->nth l b=0) (hi:nth l i≠0):U.wj l=nth l i:=by
 have e:l.find? (fun n=>decide (n≠0))=some (nth l i):=by
  rw[List.find?_eq_some_iff_getElem];refine⟨decide_eq_true hi,i,h,by rw[L.nth_lt h],fun j c=> ?_⟩;have:=a j c;rw[L.nth_lt (by omega)] at this;simp[this]
 unfold U.wj;rw[e]
theorem jo6 {l:List Int} (a:∀b:Nat,b<l.length->nth l b=0):U.wj l=0:=by
 have e:l.find? (fun n=>decide (n≠0))=none:=by
  rw[List.find?_eq_none];intro x c;obtain⟨i,hi,rfl⟩:=L.mem_iff.1 c;simp[a i hi]
 unfold U.wj;rw[e]
theorem joY:jlJ:=by
 rintro⟨l,⟨⟩⟩ f;refine⟨⟨0,⟨⟨rfl,trivial⟩,trivial⟩,jDq _,fun b c=>by omega⟩,fun x d=>⟨fun h=> ?_,fun h=> ?_⟩⟩
 .have h:x<l.length:=(by simpa using h);simp only[jDm];refine⟨by omega,by omega,fun a=> ?_,fun a=>⟨L.in64 (by omega) (by simp only at f;omega),x+1,⟨⟨by simp,trivial⟩,trivial⟩,⟨h,fun b c=> ?_⟩,by omega⟩⟩
  .rw[jt4 h d.2 (of_decide_eq_true a)]
  .by_cases e:b=x
   .subst e;exact Classical.not_not.1 (of_decide_eq_false a)
   .exact d.2 b (by omega)
 .have h:l.length<=x:=(by simpa using h);rw[jo6 (fun b c=>d.2 b (by simp only at c;omega))]
theorem jad:zn PR 72 jlW:=wO jm3 joY Tryz.func72 kcN koN
theorem jkq:jh0:=fun _=>rfl
theorem jiJ:zn PR 84 jie:=jT jkq Tryz.func84 (kcC wN (kcC jad kcN)) koN
theorem jtV:jpQ:=fun _=>rfl
theorem jqM:zn PR 96 jqb:=jT jtV Tryz.func96 (kcC wN (kcC jad kcN)) koN
theorem jho:jfA:=by
 rintro⟨l,⟨⟩⟩ b c a;have b:l.length<=100000:=b;refine⟨fun h=>⟨?_,rfl⟩,fun _=>⟨by simp only;omega,by simp,rfl⟩⟩;have:l=[]:=a h;rw[this]
theorem jfU:wY PR 82 jfM:=jk3 jho Tryz.func82 kcN koN
theorem je0:jcZ:=by
 unfold jcZ q66_1 q66_4 q66_3 q66_2 q66_0;rintro⟨l,⟨⟩⟩ m C;have m:l.length<=100000:=m;obtain⟨eq,k⟩:∃eq,eq=U.kZ:=⟨_,rfl⟩;have A:∀a b:ShD,decide (a=b)=eq a b:=fun a b=>by rw[k];rfl
 simp only[<-k,A,jDm];refine⟨fun h=>⟨?_,trivial⟩,fun h=> ?_⟩
 .have h:(l.length:Int)<2:=of_decide_eq_true h;rw[L.comp_short (by omega)]
 have h:¬(l.length:Int)<2:=of_decide_eq_false h;refine⟨⟨1,⟨⟨rfl,trivial⟩,trivial⟩,jDf _,by omega,?_⟩,fun i hi _=>⟨fun g=> ?_,fun g=>⟨?_,trivial⟩⟩⟩
 .rw[L.comp_short];rw[jDG];omega
 .have g:(i:Int)<(l.length:Int):=of_decide_eq_true g;obtain⟨s,D,f⟩:=hi;have z:((i:Int)-1).toNat=i-1:=(by omega);rw[z];have n:=L.comp_take (eq:=eq) (l:=l) s (by omega:i<l.length);refine⟨by omega,g,by unfold jA;omega,by omega,by omega,fun j=>⟨by omega,by omega,jEg _,⟨(1,l),⟨⟨rfl,?_,trivial⟩,rfl,trivial⟩,jDf _,by omega,rfl,?_,rfl,?_⟩,fun x q _=>⟨fun e=> ?_,fun e=> ?_⟩⟩,fun j=>⟨L.in64 (by omega) (by omega),i+1,⟨⟨by simp,trivial⟩,trivial⟩,⟨by omega,by omega,?_⟩,by omega⟩⟩
  .unfold U.jcF;rw[n,if_pos j,jDF,f,jDG];omega
  .rw[n,if_pos j,jDF,f,jDG];show l.take i=l.take (min i l.length);congr 1;omega
  .rw[n,if_pos j,jDF,f,jDG];omega
  .have e:(x.1:Int)<((l.length-i:Nat):Int):=of_decide_eq_true e;have r:=q;obtain⟨G,H,I,v,J,w⟩:=r;obtain⟨E,F⟩:=L.inv9_next s q (by omega);have y:((x.1:Int)-1).toNat=x.1-1:=(by omega);have o:i+(x.1-1)=i+x.1-1:=(by omega);rw[y,o];have p:U.jcF eq l (i+x.1)=((U.qS eq (l.take (i+x.1))).length:Int):=rfl;refine⟨by omega,e,by unfold jA;omega,by omega,by omega,fun c=> ?_,fun c=> ?_⟩
   .have c:eq (nth x.2 (i+x.1)) (nth x.2 (i+x.1-1))=false:=(by simpa using c);obtain⟨t,u⟩:=E c;refine⟨by omega,e,by omega,by omega,by unfold jA;omega,L.in64 (by omega) (by omega),(x.1+1,_),⟨⟨by simp,t.symm,trivial⟩,rfl,trivial⟩,u,by show _-(x.1+1)<_;omega⟩
   .have c:eq (nth x.2 (i+x.1)) (nth x.2 (i+x.1-1))=true:=(by simpa using c);obtain⟨t,u⟩:=F c;exact⟨L.in64 (by omega) (by omega),(x.1+1,x.2),⟨⟨t.symm,by simp,trivial⟩,rfl,trivial⟩,u,by show _-(x.1+1)<_;omega⟩
  .have e:¬(x.1:Int)<((l.length-i:Nat):Int):=of_decide_eq_false e;obtain⟨G,H,I,v,J,w⟩:=q;have p:U.jcF eq l (i+x.1)=((U.qS eq (l.take (i+x.1))).length:Int):=rfl;have d:l.take (i+x.1)=l:=jD7 (by omega);rw[d] at p v w;rw[p];simp only[jDm];have B:=L.comp_len (eq:=eq) l;refine⟨by omega,by omega,jEg _,by omega,by omega,by omega,?_,⟨?_,trivial⟩⟩
   .simp only[jDA,jDG,jEf];omega
   .congr 1;rw[show(U.qS eq l).length-Int.toNat 0=(U.qS eq l).length from rfl];rw[List.take_left' (by rw[jDG];omega)];exact v.symm
  .rw[n,if_neg (by rw[j];simp),f];exact(L.take_succ (by omega)).symm
 .have g:¬(i:Int)<(l.length:Int):=of_decide_eq_false g;obtain⟨s,D,f⟩:=hi;have d:l.take i=l:=jD7 (by omega);rw[d] at f;rw[f]
theorem jdo:wY PR 85 jc9:=jgA jdV je0 Tryz.func85 kcN koN
theorem qW:wY PR 83 jcn:=
 jql Tryz.sortSh 55 rfl (jDp (by kernel_rfl)) Tryz.isAgg55 Tryz.sizeOf55 (wx Tryz.func83 (c:=zD Tryz.f83) (by kernel_rfl) (by kernel_rfl))
theorem jyY:jaX U.yg:=by
 have e:U.yg=jxG (fun a b=>U.gy (U.wy a) (U.wy b)) (jxG (fun a b=>U.gy (U.jm9 a) (U.jm9 b)) (jxG (fun a b=>U.gy (U.jxZ a) (U.jxZ b)) (jxG (fun a b=>U.gy (U.jil a) (U.jil b)) (fun a b=>U.gy (U.vZ a) (U.vZ b))))):=by
  funext a b;unfold U.yg;simp only[zl,kY,jxG]
  split<;>(try rfl);split<;>(try rfl);split<;>(try rfl);split<;>(try rfl);split<;>(try rfl)
  rename_i h;exact(Classical.not_not.1 h).symm
 rw[e];exact jf0 (jgv jfg U.wy) (jf0 (jgv jfg U.jm9) (jf0 (jgv jfg U.jxZ) (jf0 (jgv jfg U.jil) (jgv jfg U.vZ))))
theorem jum {a b:ShD} (h:U.yg a b=0):a=b:=by
 unfold U.yg at h;rw[zl] at h
 split at h
 .contradiction
 rename_i c;rw[zl] at h
 split at h
 .contradiction
 rename_i d;rw[zl] at h
 split at h
 .contradiction
 rename_i e;rw[zl] at h
 split at h
 .contradiction
 rename_i f;rw[kY] at h;have c:=q8.1 (Classical.not_not.1 c);have d:=q8.1 (Classical.not_not.1 d);have e:=q8.1 (Classical.not_not.1 e);have f:=q8.1 (Classical.not_not.1 f);have g:=q8.1 h;obtain⟨i,j,k,l,m,⟨⟩⟩:=a;obtain⟨n,o,p,q,r,⟨⟩⟩:=b;have c:i=n:=c;have d:j=o:=d;have e:k=p:=e;have f:l=q:=f;have g:m=r:=g;rw[c,d,e,f,g]
theorem jyd (l:List ShD):kx (U.jf tSh fun x=>(U.yg x.1 x.2.1,())) l:=jmh jyY (fun _ _ _ _ h=>jum h)
theorem jw7 (l:List ShD):(U.jQ l).length<=l.length:=by
 unfold U.jQ;refine jDr (L.comp_len _) ?_;rw[(j8 l).length_eq];exact jDf _
theorem joX:jlI:=by
 unfold jlI q67_0;rintro⟨l,⟨⟩⟩ a;exact⟨a,fun _ _ _ _=>trivial,jyd l,by rw[(j8 (lt:=U.jf tSh fun x=>(U.yg x.1 x.2.1,())) l).length_eq];exact a,rfl,rfl⟩
theorem jeI:wY PR 54 jl0:=jk3 joX Tryz.func54 (kcC jiJ kcN) (koC jfU (koC qW (koC jdo koN)))
theorem jrc:jnp:=by
 unfold jnp q68_0;rintro⟨s,⟨m,⟨⟩⟩,⟨⟩⟩ h;have h:U.jvf m:=h;have:=h (U.wy s);have this:0<=kE 0 (zx .int s.1 m)/\kE 0 (zx .int s.1 m)<=200000:=this;exact⟨L.in64 (by simp only;omega) (by simp only;omega),rfl,rfl⟩
theorem joy:wY PR 88 jnY:=jk3 jrc Tryz.func88 kcN koN
theorem gw {m:List (Int×Int)} {l:List ShD} {i:Nat} (h:i<l.length):U.kI m l (i+1)=U.jcd (U.kI m l i) (nth l i):=by
 unfold U.kI;rw[L.take_succ h,jDI];rfl
theorem jzH (l:List ShD):∀i,i<=l.length->∀k,0<=kE 0 (zx .int k (U.kI [] l i))/\kE 0 (zx .int k (U.kI [] l i))<=(i:Int)
 |0,_,k=>⟨jEg 0,jEg 0⟩
 |i+1,hi,k=>by
  have b:=jzH l i (by omega)
  rw[gw (by omega)]
  unfold U.jcd
  by_cases e:k=U.wy (nth l i)
  .rw[e]
   have a:=M.mfind_mput (kt:= .int) (U.wy (nth l i)) (kE 0 (zx .int (U.wy (nth l i)) (U.kI [] l i))+1) (U.kI [] l i)
   rw[a]
   have:=b (U.wy (nth l i))
   show 0<=kE 0 (zx .int (U.wy (nth l i)) (U.kI [] l i))+1/\kE 0 (zx .int (U.wy (nth l i)) (U.kI [] l i))+1<=_
   omega
  .have a:=M.mfind_mput_ne (kt:= .int) (k:=U.wy (nth l i)) (k':=k) e (kE 0 (zx .int (U.wy (nth l i)) (U.kI [] l i))+1) (U.kI [] l i)
   rw[a]
   have:=b k
   omega
theorem jza {m:List (Int×Int)} {l:List ShD} {i:Nat} (h:i<l.length) (a:∀b:Nat,b<i->U.jfq m l b=false) (hi:U.jfq m l i=true):U.jbS m l=(i:Int)/\U.jxv m l=i+1:=by
 have e:(List.range l.length).findIdx? (U.jfq m l)=some i:=by
  rw[List.findIdx?_eq_some_iff_getElem];refine⟨by simpa using h,by simpa using hi,fun j c=>by simp[a j c]⟩
 unfold U.jbS U.jxv U.gD;rw[e];exact⟨rfl,rfl⟩
theorem jlA {m:List (Int×Int)} {l:List ShD} (a:∀b:Nat,b<l.length->U.jfq m l b=false):U.jbS m l= -1/\U.jxv m l=l.length:=by
 have e:(List.range l.length).findIdx? (U.jfq m l)=none:=by
  rw[List.findIdx?_eq_none_iff];intro x c;exact a x (jDy.1 c)
 unfold U.jbS U.jxv U.gD;rw[e];exact⟨rfl,rfl⟩
theorem jai:yD:=by
 rintro⟨l,⟨m,⟨⟩⟩,⟨⟩⟩ n g o;have g:m=[]:=g;subst g;have n:l.length<=100000:=n;refine⟨⟨0,⟨⟨rfl,trivial⟩,rfl,trivial⟩,jDq _,fun b j=>by omega⟩,fun x a=>⟨fun h=> ?_,fun h=> ?_⟩⟩
 .have h:x<l.length:=(by simpa using h);simp only[jDm];refine⟨by omega,by omega,fun k=> ?_,fun f=> ?_,fun f=>⟨L.in64 (by omega) (by omega),x+1,⟨⟨by simp,trivial⟩,⟨trivial,trivial⟩,(gw h).symm,trivial⟩,⟨h,fun b j=> ?_⟩,by omega⟩⟩
  .have:=jzH l x (by omega) k;omega
  .obtain⟨c,d⟩:=jza h a.2 f;unfold U.jdL;rw[c,d,gw h];exact⟨rfl,rfl⟩
  .by_cases e:b=x
   .subst e;exact f
   .exact a.2 b (by omega)
 .have h:l.length<=x:=(by simpa using h);obtain⟨c,d⟩:=jlA (m:=[]) (l:=l) (fun b j=>a.2 b (by omega));have i:x=l.length:=(by have:=a.1;simp only at this;omega);unfold U.jdL;rw[c,d,i];exact⟨rfl,rfl⟩
theorem yV:wY PR 119 yM:=jgA gA jai Tryz.func119 kcN (koC joy koN)
theorem vT:vi:=fun _ a b=>⟨a,b,rfl,rfl⟩
theorem vz:wY PR 87 vo:=jk3 vT Tryz.func87 kcN (koC yV koN)
theorem jwE:js4:=fun _ h=>⟨h,rfl,rfl⟩
theorem jtC:zn PR 56 jtl:=jT jwE Tryz.func56 kcN (koC vz koN)
theorem jxY {c:CrD} (h:U.ju c=true):U.zB c (0,1,0,0,0,1,())=true:=by
 obtain⟨a,_⟩:=jK h;unfold U.zB;refine decide_eq_true ?_;refine⟨by decide,?_,by decide,?_,by decide,by decide,by decide,by decide,by decide,by decide,by decide,by decide,by decide⟩
 .show(0:Int)<=U.la c-1;omega
 .show(1:Int)<=U.la c-1;omega
theorem jxh (c:CrD):U.zV c (0,1,0,0,0,1,())=if U.ju c=false then 30 else 0:=by
 unfold U.zV;by_cases h:U.ju c=false
 .rw[if_pos h,if_pos h]
 .rw[if_neg h,if_neg h,if_neg (by rw[jxY (by simpa using h)];simp)]
theorem jmH:jjZ:=by
 unfold jjZ q72_0;rintro⟨d,⟨⟩⟩;have e:=jxh d.1;simp only[e];by_cases f:U.ju d.1=false
 .rw[if_pos f];refine⟨fun _=> ?_,fun h=>by simp at h⟩;have f:U.ju (U.jj d)=false:=f;unfold U.jjI;rw[if_pos f]
 .rw[if_neg f];have c:U.ju (U.jj d)=true:=eq_true_of_ne_false f;refine⟨fun h=>by simp at h,fun _ k=>⟨⟨0,⟨⟨rfl,trivial⟩,trivial⟩,jDq _,fun b j=>by omega⟩,fun x l=>⟨fun h=> ?_,fun h=> ?_⟩⟩⟩
  .have h:(x:Int)<((U.jq d).length:Int):=of_decide_eq_true h;have h:x<(U.jq d).length:=(by omega);have k:(U.jq d).length<4611686018427387904:=k;have m:U.zV d.1 (nth d.2.2.1 x).1=if U.zB (U.jj d) (U.jfx (nth (U.jq d) x))=false then 31 else 0:=by
    show(if U.ju (U.jj d)=false then(30:Int) else if U.zB (U.jj d) (U.jfx (nth (U.jq d) x))=false then 31 else 0)=_;rw[if_neg (by rw[c];simp)]
   simp only[jDm,m];refine⟨by omega,by show(x:Int)<((U.jq d).length:Int);omega,fun a=> ?_,fun a=>⟨L.in64 (by omega) (by omega),x+1,⟨⟨by simp,trivial⟩,trivial⟩,⟨h,fun b j=> ?_⟩,(by show(U.jq d).length-(x+1)<(U.jq d).length-x;omega)⟩⟩
   .have a:=of_decide_eq_true a;by_cases g:U.zB (U.jj d) (U.jfx (nth (U.jq d) x))=false
    .rw[if_pos g];unfold U.jjI;rw[if_neg (by rw[c];simp),if_pos];unfold U.jwo;exact L.all_false h g
    .rw[if_neg g] at a;exact absurd rfl a
   .have a:=of_decide_eq_false a;by_cases n:b=x
    .subst n;by_cases g:U.zB (U.jj d) (U.jfx (nth (U.jq d) b))=false
     .rw[if_pos g] at a;exact absurd (by decide) a
     .exact eq_true_of_ne_false g
    .exact l.2 b (by omega)
  .have h:¬(x:Int)<((U.jq d).length:Int):=of_decide_eq_false h;have h:(U.jq d).length<=x:=(by omega);unfold U.jjI;rw[if_neg (by rw[c];simp),if_neg];rw[Bool.not_eq_false];unfold U.jwo;rw[jDO];intro b j;obtain⟨i,hi,rfl⟩:=L.mem_iff.1 j;exact l.2 i (by omega)
theorem jkg:zn PR 80 jj5:=wO jkB jmH Tryz.func80 (kcC jkU kcN) koN
theorem jwH:js7:=by
 rintro⟨d,⟨⟩⟩ c;refine⟨fun h=> ?_,fun h=>⟨fun b=> ?_,fun b=>⟨c,jDr (jw7 _) c,fun a=> ?_,fun a=> ?_⟩⟩⟩
 .have h:=of_decide_eq_true h;simp only at h⊢;unfold U.jB;rw[if_pos h]
 .have h:=of_decide_eq_false h;simp only at h⊢;unfold U.jB;rw[if_neg h,if_pos (by simpa using b)]
 .have h:=of_decide_eq_false h;simp only at h⊢;unfold U.jB;rw[if_neg h,if_neg (by simpa using b)];have a:U.juH (U.jQ (U.kg d))=true:=a;rw[if_pos a]
 .have h:=of_decide_eq_false h;simp only at h⊢;unfold U.jB;rw[if_neg h,if_neg (by simpa using b)];have a:U.juH (U.jQ (U.kg d))=false:=a;rw[if_neg (by rw[a];simp)]
theorem jkW:zn PR 53 jtp:=jT jwH Tryz.func53 (kcC jkg (kcC jtB (kcC jtC kcN))) (koC jeI koN)
end Go.X
namespace Go.X
namespace U
def jtd {α:Type} [Inhabited α] (l:List α) (j k:Nat):List α:=(l.set j (nth l k)).set k (nth l j)
def jco {α:Type} [Inhabited α] (lt:α->α->Bool):List α->Nat->List α
 |l,0=>l
 |l,j+1=>if lt (nth l (j+1)) (nth l j)=true then jco lt (jtd l (j+1) j) j else l
def yt {α:Type} [Inhabited α] (lt:α->α->Bool) (l:List α) (i:Nat):List α:=(List.range i).foldl (jco lt) l
def jaD {α:Type} [Inhabited α] (lt:α->α->Bool) (l:List α):List α:=yt lt l l.length
def jdy {α:Type} (lt:α->α->Bool) (x:α):List α->List α
 |[]=>[x]
 |y::r=>if lt x y=true then y::jdy lt x r else x::y::r
end U
namespace IS
variable {α:Type} [Inhabited α] {lt:α->α->Bool}
theorem swap_perm {l:List α} {j k:Nat} (a:j<l.length) (hk:k<l.length):(U.jtd l j k).Perm l:=by
 unfold U.jtd;rw[L.nth_lt a,L.nth_lt hk];exact List.set_set_perm a hk
theorem sink_perm:∀(j:Nat) (l:List α),j<l.length->(U.jco lt l j).Perm l
 |0,l,_=>List.Perm.refl _
 |j+1,l,h=>by
  unfold U.jco
  have a:=swap_perm (l:=l) (j:=j+1) (k:=j) h (by omega)
  split
  .exact(sink_perm j _ (by rw[a.length_eq];omega)).trans a
  .exact List.Perm.refl _
theorem part_succ (lt:α->α->Bool) (l:List α) (i:Nat):U.yt lt l (i+1)=U.jco lt (U.yt lt l i) i:=by
 simp[U.yt,jDW]
theorem part_perm {l:List α}:∀(i:Nat),i<=l.length->(U.yt lt l i).Perm l
 |0,_=>List.Perm.refl _
 |i+1,h=>by
  rw[part_succ]
  have a:=part_perm (l:=l) i (by omega)
  exact(sink_perm i _ (by rw[a.length_eq];omega)).trans a
theorem isort_perm (lt:α->α->Bool) (l:List α):(U.jaD lt l).Perm l:=part_perm _ (jDf _)
theorem part_isort {l:List α} {i:Nat} (a:1<=i) (b:i<=max l.length 1) (c:l.length<=i):U.yt lt l i=U.jaD lt l:=by
 unfold U.jaD;by_cases h:l.length=0
 .have:i=1:=(by omega);subst this;rw[h];rfl
 .have:i=l.length:=(by omega);rw[this]
theorem insR_len {α:Type} {lt:α->α->Bool} (x:α):∀q:List α,(U.jdy lt x q).length=q.length+1
 |[]=>rfl
 |y::r=>by
  unfold U.jdy
  split
  .simp[insR_len x r]
  .simp
theorem nth_mid (a:List α) (x:α) (s:List α):nth (a++x::s) a.length=x:=by
 rw[L.nth_lt (by simp)];simp
theorem sink_app:∀(q:List α) (x:α) (s:List α),U.jco lt (q.reverse++x::s) q.length=(U.jdy lt x q).reverse++s
 |[],x,s=>rfl
 |y::r,x,s=>by
  have e:(y::r).reverse++x::s=r.reverse++y::x::s:=by simp
  rw[e]
  have g:nth (r.reverse++y::x::s) (r.length+1)=x:=by
   have:=nth_mid (r.reverse++[y]) x s;simpa using this
  have h:nth (r.reverse++y::x::s) r.length=y:=by
   have:=nth_mid r.reverse y (x::s);simpa using this
  show(if lt (nth _ (r.length+1)) (nth _ r.length)=true then U.jco lt (U.jtd _ (r.length+1) r.length) r.length else _)=_;rw[g,h];unfold U.jdy
  split
  .have a:U.jtd (r.reverse++y::x::s) (r.length+1) r.length=r.reverse++x::(y::s):=by
    unfold U.jtd;rw[g,h];apply List.ext_getElem?;intro k;simp only[List.getElem?_set,List.length_set];by_cases b:r.length=k
    .subst b;rw[if_pos rfl,if_pos (by simp)];rw[jDn (by simp)];simp
    .rw[if_neg b];by_cases c:r.length+1=k
     .subst c;rw[if_pos rfl,if_pos (by simp)];rw[jDn (by simp)];simp
     .rw[if_neg c];by_cases f:k<r.length
      .rw[jDo (by simpa using f),jDo (by simpa using f)]
      .rw[jDn (by simp;omega),jDn (by simp;omega)];obtain⟨d,i⟩:∃d,k-r.reverse.length=d+2:=⟨k-r.length-2,by simp;omega⟩;rw[i];simp
   rw[a,sink_app r x (y::s)];simp
  .simp
theorem fold_len {α:Type} {lt:α->α->Bool}:∀(l q:List α),(l.foldl (fun q x=>U.jdy lt x q) q).length=q.length+l.length
 |[],q=>rfl
 |x::l,q=>by
  simp only[List.foldl_cons,jDL]
  rw[fold_len l,insR_len];omega
theorem part_eq (l:List α):∀i,i<=l.length->U.yt lt l i=((l.take i).foldl (fun q x=>U.jdy lt x q) []).reverse++l.drop i
 |0,_=>by simp[U.yt]
 |i+1,h=>by
  rw[part_succ,part_eq l i (by omega)]
  have b:l.drop i=nth l i::l.drop (i+1):=by
   rw[L.nth_lt (by omega)];exact List.drop_eq_getElem_cons (by omega)
  rw[b];have a:((l.take i).foldl (fun q x=>U.jdy lt x q) []).length=i:=(by rw[fold_len];simp;omega);have:=sink_app (lt:=lt) ((l.take i).foldl (fun q x=>U.jdy lt x q) []) (nth l i) (l.drop (i+1));rw[a] at this;rw[this,L.take_succ (by omega),jDI];rfl
theorem isort_eq (l:List α):U.jaD lt l=(l.foldl (fun q x=>U.jdy lt x q) []).reverse:=by
 unfold U.jaD;rw[part_eq l _ (jDf _)];simp
theorem insR_mem {α:Type} {lt:α->α->Bool} {x z:α}:∀{q:List α},z∈U.jdy lt x q↔z=x\/z∈q
 |[]=>by simp[U.jdy]
 |y::r=>by
  unfold U.jdy
  split
  .simp only[jDd,insR_mem (q:=r)]
   constructor
   .rintro(h|h|h)<;>simp[h]
   .rintro(h|h|h)<;>simp[h]
  .simp
theorem insR_desc {α:Type} {lt:α->α->Bool} {x:α}:∀{q:List α},kx lt (x::q)->q.Pairwise (fun a b=>lt a b=false)->(U.jdy lt x q).Pairwise (fun a b=>lt a b=false)
 |[],_,_=>by simp[U.jdy]
 |y::r,ho,h=>by
  rw[jDX] at h
  unfold U.jdy
  split
  .rename_i d
   rw[jDX]
   refine⟨fun z c=> ?_,insR_desc (ho.sub (fun z c=>by rcases jDd.1 c with h|h;exact h▸jDM;exact jDj _ (jDj _ h))) h.2⟩
   rcases insR_mem.1 c with rfl|c
   .exact ho.asymm (by simp) (by simp) d
   .exact h.1 z c
  .rename_i d
   have d:lt x y=false:=by simpa using d
   rw[jDX]
   refine⟨fun z c=> ?_,jDX.2 h⟩
   rcases jDd.1 c with rfl|c
   .exact d
   .exact ho.ntrans (by simp) (by simp) (by simp[c]) d (h.1 z c)
theorem fold_desc {α:Type} {lt:α->α->Bool}:∀(l q:List α),kx lt (l++q)->q.Pairwise (fun a b=>lt a b=false)->(l.foldl (fun q x=>U.jdy lt x q) q).Pairwise (fun a b=>lt a b=false)
 |[],q,_,h=>h
 |x::l,q,ho,h=>by
  refine fold_desc l _ (ho.sub (fun z c=> ?_)) (insR_desc (ho.sub (fun z c=> ?_)) h)
  .rcases jDk.1 c with c|c
   .simp[c]
   .rcases insR_mem.1 c with rfl|c
    .simp
    .simp[c]
  .rcases jDd.1 c with rfl|c
   .simp
   .simp[c]
theorem isort_asc {l:List α} (a:kx lt l):juD lt (U.jaD lt l):=by
 rw[isort_eq];unfold juD;rw[List.pairwise_reverse];exact fold_desc l [] (by simpa using a) (by simp)
theorem isort_sort {l:List α} (a:kx lt l):U.jaD lt l=U.jc lt l:=jnU a (isort_perm lt l) (isort_asc a)
end IS
end Go.X
namespace Go.X
open Go.Proofs
def U.len8tab:ByteArray:=⟨#[0,1,2,2,3,3,3,3,4,4,4,4,4,4,4,4,5,5,5,5,5,5,5,5,5,5,5,5,5,5,5,5,6,6,6,6,6,6,6,6,6,6,6,6,6,6,6,6,6,6,6,6,6,6,6,6,6,6,6,6,6,6,6,6,7,7,7,7,7,7,7,7,7,7,7,7,7,7,7,7,7,7,7,7,7,7,7,7,7,7,7,7,7,7,7,7,7,7,7,7,7,7,7,7,7,7,7,7,7,7,7,7,7,7,7,7,7,7,7,7,7,7,7,7,7,7,7,7,8,8,8,8,8,8,8,8,8,8,8,8,8,8,8,8,8,8,8,8,8,8,8,8,8,8,8,8,8,8,8,8,8,8,8,8,8,8,8,8,8,8,8,8,8,8,8,8,8,8,8,8,8,8,8,8,8,8,8,8,8,8,8,8,8,8,8,8,8,8,8,8,8,8,8,8,8,8,8,8,8,8,8,8,8,8,8,8,8,8,8,8,8,8,8,8,8,8,8,8,8,8,8,8,8,8,8,8,8,8,8,8,8,8,8,8,8,8,8,8,8,8,8,8,8,8,8,8]⟩
abbrev rwI:Sh:= .cl (.row 3 .int .unk)
namespace U
abbrev FC:=Int×Int×Unit->Int×Unit
abbrev q7 (F:FC):Int->Int->Bool:=jf .int F
def jaB (p:Int×Int×Unit->List Prop) (l:List Int):Prop:=∀x∈l,∀y∈l,jw (p (x,y,()))
def jdP (n:Int):Int:=if n=0 then 0 else if n<2 then 1 else if n<4 then 2 else if n<8 then 3 else 4
end U
def jlY:jX:=⟨[.val (.uint .u64)],[.int],false,fun d=>[0<=d.1/\d.1<=12],fun d=>(U.jdP d.1,())⟩
abbrev q74_0 (d:Int×Unit):=(d.1/(2:Int)^Int.toNat 32/(2:Int)^Int.toNat 16/(2:Int)^Int.toNat 8)
abbrev q74_1 (d:Int×Unit):=(d.1/(2:Int)^Int.toNat 32/(2:Int)^Int.toNat 16)
abbrev q74_2 (d:Int×Unit):=(d.1/(2:Int)^Int.toNat 32/(2:Int)^Int.toNat 8)
abbrev q74_3 (d:Int×Unit):=(d.1/(2:Int)^Int.toNat 16/(2:Int)^Int.toNat 8)
abbrev q74_4 (d:Int×Unit):=(256<=d.1/(2:Int)^Int.toNat 32/(2:Int)^Int.toNat 16)
def jlL:Prop:=∀(d:Int×Unit),0<=d.1/\d.1<=12->(decide (4294967296<=d.1)=true->(0:Int)<=32/\(32:Int)<=64/\(decide (65536<=d.1/(2:Int)^Int.toNat 32)=true->(0:Int)<=16/\(16:Int)<=64/\jA ((32:Int)+16)/\(decide (q74_4 d)=true->(0:Int)<=8/\(8:Int)<=64/\jA ((32:Int)+16+8)/\0<=d.1/(2:Int)^Int.toNat 32/(2:Int)^Int.toNat 16/(2:Int)^Int.toNat 8/\d.1/(2:Int)^Int.toNat 32/(2:Int)^Int.toNat 16/(2:Int)^Int.toNat 8<=255/\0<=d.1/(2:Int)^Int.toNat 32/(2:Int)^Int.toNat 16/(2:Int)^Int.toNat 8/\d.1/(2:Int)^Int.toNat 32/(2:Int)^Int.toNat 16/(2:Int)^Int.toNat 8<(U.len8tab.size:Int)/\jA (w4 U.len8tab (q74_0 d).toNat)/\jA ((32:Int)+16+8+w4 U.len8tab (q74_0 d).toNat)/\((32:Int)+16+8+w4 U.len8tab (q74_0 d).toNat,())=(U.jdP d.1,()))/\(decide (q74_4 d)=false->0<=d.1/(2:Int)^Int.toNat 32/(2:Int)^Int.toNat 16/\d.1/(2:Int)^Int.toNat 32/(2:Int)^Int.toNat 16<=255/\0<=d.1/(2:Int)^Int.toNat 32/(2:Int)^Int.toNat 16/\d.1/(2:Int)^Int.toNat 32/(2:Int)^Int.toNat 16<(U.len8tab.size:Int)/\jA (w4 U.len8tab (q74_1 d).toNat)/\jA ((32:Int)+16+w4 U.len8tab (q74_1 d).toNat)/\((32:Int)+16+w4 U.len8tab (q74_1 d).toNat,())=(U.jdP d.1,())))/\(decide (65536<=d.1/(2:Int)^Int.toNat 32)=false->(decide (256<=d.1/(2:Int)^Int.toNat 32)=true->(0:Int)<=8/\(8:Int)<=64/\jA ((32:Int)+8)/\0<=d.1/(2:Int)^Int.toNat 32/(2:Int)^Int.toNat 8/\d.1/(2:Int)^Int.toNat 32/(2:Int)^Int.toNat 8<=255/\0<=d.1/(2:Int)^Int.toNat 32/(2:Int)^Int.toNat 8/\d.1/(2:Int)^Int.toNat 32/(2:Int)^Int.toNat 8<(U.len8tab.size:Int)/\jA (w4 U.len8tab (q74_2 d).toNat)/\jA ((32:Int)+8+w4 U.len8tab (q74_2 d).toNat)/\((32:Int)+8+w4 U.len8tab (q74_2 d).toNat,())=(U.jdP d.1,()))/\(decide (256<=d.1/(2:Int)^Int.toNat 32)=false->0<=d.1/(2:Int)^Int.toNat 32/\d.1/(2:Int)^Int.toNat 32<=255/\0<=d.1/(2:Int)^Int.toNat 32/\d.1/(2:Int)^Int.toNat 32<(U.len8tab.size:Int)/\jA (w4 U.len8tab (d.1/(2:Int)^Int.toNat 32).toNat)/\jA ((32:Int)+w4 U.len8tab (d.1/(2:Int)^Int.toNat 32).toNat)/\((32:Int)+w4 U.len8tab (d.1/(2:Int)^Int.toNat 32).toNat,())=(U.jdP d.1,()))))/\(decide (4294967296<=d.1)=false->(decide (65536<=d.1)=true->(0:Int)<=16/\(16:Int)<=64/\jA ((0:Int)+16)/\(decide (256<=d.1/(2:Int)^Int.toNat 16)=true->(0:Int)<=8/\(8:Int)<=64/\jA ((0:Int)+16+8)/\0<=d.1/(2:Int)^Int.toNat 16/(2:Int)^Int.toNat 8/\d.1/(2:Int)^Int.toNat 16/(2:Int)^Int.toNat 8<=255/\0<=d.1/(2:Int)^Int.toNat 16/(2:Int)^Int.toNat 8/\d.1/(2:Int)^Int.toNat 16/(2:Int)^Int.toNat 8<(U.len8tab.size:Int)/\jA (w4 U.len8tab (q74_3 d).toNat)/\jA ((0:Int)+16+8+w4 U.len8tab (q74_3 d).toNat)/\((0:Int)+16+8+w4 U.len8tab (q74_3 d).toNat,())=(U.jdP d.1,()))/\(decide (256<=d.1/(2:Int)^Int.toNat 16)=false->0<=d.1/(2:Int)^Int.toNat 16/\d.1/(2:Int)^Int.toNat 16<=255/\0<=d.1/(2:Int)^Int.toNat 16/\d.1/(2:Int)^Int.toNat 16<(U.len8tab.size:Int)/\jA (w4 U.len8tab (d.1/(2:Int)^Int.toNat 16).toNat)/\jA ((0:Int)+16+w4 U.len8tab (d.1/(2:Int)^Int.toNat 16).toNat)/\((0:Int)+16+w4 U.len8tab (d.1/(2:Int)^Int.toNat 16).toNat,())=(U.jdP d.1,())))/\(decide (65536<=d.1)=false->(decide (256<=d.1)=true->(0:Int)<=8/\(8:Int)<=64/\jA ((0:Int)+8)/\0<=d.1/(2:Int)^Int.toNat 8/\d.1/(2:Int)^Int.toNat 8<=255/\0<=d.1/(2:Int)^Int.toNat 8/\d.1/(2:Int)^Int.toNat 8<(U.len8tab.size:Int)/\jA (w4 U.len8tab (d.1/(2:Int)^Int.toNat 8).toNat)/\jA ((0:Int)+8+w4 U.len8tab (d.1/(2:Int)^Int.toNat 8).toNat)/\((0:Int)+8+w4 U.len8tab (d.1/(2:Int)^Int.toNat 8).toNat,())=(U.jdP d.1,()))/\(decide (256<=d.1)=false->0<=d.1/\d.1<=255/\0<=d.1/\d.1<(U.len8tab.size:Int)/\jA (w4 U.len8tab d.1.toNat)/\jA ((0:Int)+w4 U.len8tab d.1.toNat)/\((0:Int)+w4 U.len8tab d.1.toNat,())=(U.jdP d.1,()))))
def jqh:jX:=⟨[.val (.uint .u64)],[.int],false,fun d=>[0<=d.1/\d.1<=12],fun d=>(U.jdP d.1,())⟩
def jpW:Prop:=∀(d:Int×Unit),0<=d.1/\d.1<=12->(false=true->False)/\(false=false->(0<=d.1/\d.1<=12)/\(U.jdP d.1,())=(U.jdP d.1,()))
def qv:zH:=⟨[.own rwI true,.val .int,.val .int,.fn [.int,.int] [.int]],[],fun d=>[d.2.1=0/\d.2.2.1=(d.1.length:Int)/\d.1.length<=12,U.jaB d.2.2.2.1.pre d.1],fun d=>((),(U.jaD (U.q7 d.2.2.2.1.F) d.1,()))⟩
def qL:Ann:=fun r=>match r with
 |1=>some fun σ=>{X:=Nat,sl:=fun i=>[(8,.dat .int (i:Int))],ob:=fun i=>[(1000000,some (.row 3 .int false .unk (U.yt (U.q7 (gfn [.int,.int] [.int] σ 3)) (gr .int σ 1000000) i)))],inv:=fun i=>1<=i/\i<=max (gr .int σ 1000000).length 1,mu:=fun i=>(gr .int σ 1000000).length-i}
 |4=>some fun σ=>{X:=Nat×List Int,sl:=fun x=>[(9,.dat .int (x.1:Int))],ob:=fun x=>[(1000000,some (.row 3 .int false .unk x.2))],inv:=fun x=>(x.1:Int)<=gd .int σ 8/\x.2.Perm (gr .int σ 1000000)/\U.jco (U.q7 (gfn [.int,.int] [.int] σ 3)) x.2 x.1=U.jco (U.q7 (gfn [.int,.int] [.int] σ 3)) (gr .int σ 1000000) (gd .int σ 8).toNat,mu:=fun x=>x.1}
 |_=>none
abbrev q76_0 (a:Nat×List Int):=(nth a.2 (a.1:Int).toNat,nth a.2 ((a.1:Int)-1).toNat,())
abbrev q76_1 (d:List Int×Int×Int×FnD [Ty.int,Ty.int] [Ty.int]×Unit):=(U.q7 d.2.2.2.1.2)
def qt:Prop:=∀(d:List Int×Int×Int×FnD [Ty.int,Ty.int] [Ty.int]×Unit),d.2.1=0/\d.2.2.1=(d.1.length:Int)/\d.1.length<=12->U.jaB d.2.2.2.1.1 d.1->jA (d.2.1+1)/\(∃(x:Nat),((d.2.1+1=(x:Int)/\True)/\d.1=U.yt (q76_1 d) d.1 x/\True)/\1<=x/\x<=max d.1.length 1)/\∀(x:Nat),1<=x/\x<=max d.1.length 1->(decide ((x:Int)<d.2.2.1)=true->(∃(a:Nat×List Int),(((x:Int)=(a.1:Int)/\True)/\U.yt (q76_1 d) d.1 x=a.2/\True)/\(a.1:Int)<=(x:Int)/\a.2.Perm (U.yt (q76_1 d) d.1 x)/\U.jco (q76_1 d) a.2 a.1=U.jco (q76_1 d) (U.yt (q76_1 d) d.1 x) (x:Int).toNat)/\∀(a:Nat×List Int),(a.1:Int)<=(x:Int)/\a.2.Perm (U.yt (q76_1 d) d.1 x)/\U.jco (q76_1 d) a.2 a.1=U.jco (q76_1 d) (U.yt (q76_1 d) d.1 x) (x:Int).toNat->(decide (d.2.1<(a.1:Int))=true->0<=(a.1:Int))/\(decide (d.2.1<(a.1:Int))=true->(a.1:Int)<(a.2.length:Int))/\(decide (d.2.1<(a.1:Int))=true->jA ((a.1:Int)-1))/\(decide (d.2.1<(a.1:Int))=true->0<=(a.1:Int)-1)/\(decide (d.2.1<(a.1:Int))=true->(a.1:Int)-1<(a.2.length:Int))/\jxq (decide (d.2.1<(a.1:Int))) (d.2.2.2.1.1 (q76_0 a)) (((decide (d.2.1<(a.1:Int))&&decide ((d.2.2.2.1.2 (q76_0 a)).1<0))=true->jA ((a.1:Int)-1)/\jA ((a.1:Int)-1)/\0<=(a.1:Int)-1/\(a.1:Int)-1<(a.2.length:Int)/\0<=(a.1:Int)/\(a.1:Int)<(a.2.length:Int)/\0<=(a.1:Int)/\(a.1:Int)<(a.2.length:Int)/\0<=(a.1:Int)-1/\(a.1:Int)-1<(↑(a.2.set (a.1:Int).toNat (nth a.2 ((a.1:Int)-1).toNat)).length:Int)/\jA ((a.1:Int)-1)/\∃(b:Nat×List Int),(((a.1:Int)-1=(b.1:Int)/\True)/\(a.2.set (a.1:Int).toNat (nth a.2 ((a.1:Int)-1).toNat)).set ((a.1:Int)-1).toNat (nth a.2 (a.1:Int).toNat)=b.2/\True)/\((b.1:Int)<=(x:Int)/\b.2.Perm (U.yt (q76_1 d) d.1 x)/\U.jco (q76_1 d) b.2 b.1=U.jco (q76_1 d) (U.yt (q76_1 d) d.1 x) (x:Int).toNat)/\b.1<a.1)/\((decide (d.2.1<(a.1:Int))&&decide ((d.2.2.2.1.2 (q76_0 a)).1<0))=false->jA ((x:Int)+1)/\∃(c:Nat),(((x:Int)+1=(c:Int)/\True)/\a.2=U.yt (q76_1 d) d.1 c/\True)/\(1<=c/\c<=max d.1.length 1)/\d.1.length-c<d.1.length-x)))/\(decide ((x:Int)<d.2.2.1)=false->()=()/\(U.yt (q76_1 d) d.1 x,())=(U.jaD (q76_1 d) d.1,()))
def yL:zH:=⟨[.own rwI true,.val .int,.val .int,.val .int,.fn [.int,.int] [.int]],[],fun d=>[d.2.1=0/\d.2.2.1=(d.1.length:Int)/\d.1.length<=12,U.jaB d.2.2.2.2.1.pre d.1],fun d=>((),(U.jaD (U.q7 d.2.2.2.2.1.F) d.1,()))⟩
def gz:Ann:=fun r=>match r with
 |1000002=>some fun _=>{X:=Unit,sl:=fun _=>[],ob:=fun _=>[],inv:=fun _=>True,mu:=fun _=>0}
 |_=>none
def yC:Prop:=∀(d:List Int×Int×Int×Int×FnD [Ty.int,Ty.int] [Ty.int]×Unit),d.2.1=0/\d.2.2.1=(d.1.length:Int)/\d.1.length<=12->U.jaB d.2.2.2.2.1.1 d.1->jA (d.2.2.1-d.2.1)/\(decide (d.2.2.1-d.2.1<=12)=true->(d.2.1=0/\d.2.2.1=(d.1.length:Int)/\d.1.length<=12)/\U.jaB d.2.2.2.2.1.1 d.1/\()=()/\(U.jaD (U.q7 d.2.2.2.2.1.2) d.1,())=(U.jaD (U.q7 d.2.2.2.2.1.2) d.1,()))/\(decide (d.2.2.1-d.2.1<=12)=false->(decide (d.2.2.2.1=0)=true->False)/\(decide (d.2.2.2.1=0)=false->((!true)=true->False)/\((!true)=false->False)))
def zA:zH:=⟨[.own rwI true,.fn [.int,.int] [.int]],[],fun d=>[d.1.length<=12,U.jaB d.2.1.pre d.1,kx (U.q7 d.2.1.F) d.1],fun d=>((),(U.jc (U.q7 d.2.1.F) d.1,()))⟩
def jd5:Prop:=∀(d:List Int×FnD [Ty.int,Ty.int] [Ty.int]×Unit),d.1.length<=12->U.jaB d.2.1.1 d.1->kx (U.q7 d.2.1.2) d.1->d.1.length<4611686018427387904->0<=(d.1.length:Int)/\(d.1.length:Int)<=18446744073709551615/\(0<=(d.1.length:Int)/\(d.1.length:Int)<=12)/\((0:Int)=0/\(d.1.length:Int)=(d.1.length:Int)/\d.1.length<=12)/\U.jaB d.2.1.1 d.1/\()=()/\(U.jaD (U.q7 d.2.1.2) d.1,())=(U.jc (U.q7 d.2.1.2) d.1,())
def asI (l:List Int):List (Ty.st [.int]).Data:=l.map (fun x=>(x,()))
def LVi (d:PD [.ref (.slice .int)]) (xs:List (Ty.st [.int]).Data):Prop:=xs=asI d.1
def jfo:jhP (YS [.int]):=fun r=>match r with
 |1=>some fun σ ys=>{X:=Nat,sl:=fun i=>[(7,.dat .int (i:Int))],ob:=fun _=>[],ys:=fun i=>(asI ((gd (.slice .int) σ 5).take i),true),inv:=fun i=>i<=(gd (.slice .int) σ 5).length,mu:=fun i=>(gd (.slice .int) σ 5).length-i}
 |_=>none
abbrev q79_0 (d:List Int×Unit)(x:Nat):=(nth d.1 (x:Int).toNat,())
def vV:Prop:=∀(d:List Int×Unit) (l:Nat),d.1.length<4611686018427387904->(∃(x:Nat),((0=(x:Int)/\True)/\True)/\([],true)=(List.map (fun(f:Int)=>(f,())) (List.take x d.1),true)/\x<=d.1.length)/\∀(x:Nat),x<=d.1.length->(decide ((x:Int)<(d.1.length:Int))=true->0<=(x:Int)/\(x:Int)<(d.1.length:Int)/\l=l/\(∃(rest:List (Int×Unit)),List.map (fun(g:Int)=>(g,())) (List.take x d.1)++[(q79_0 d x)]++rest=List.map (fun(h:Int)=>(h,())) d.1)/\(((!true)=true->true=true->List.map (fun(i:Int)=>(i,())) (List.take x d.1)++[(q79_0 d x)]=List.map (fun(j:Int)=>(j,())) d.1)/\((!true)=false->jA ((x:Int)+1)/\∃(a:Nat),(((x:Int)+1=(a:Int)/\True)/\True)/\(List.map (fun(k:Int)=>(k,())) (List.take x d.1)++[(q79_0 d x)],true)=(List.map (fun(z6:Int)=>(z6,())) (List.take a d.1),true)/\a<=d.1.length/\d.1.length-a<d.1.length-x))/\((!false)=true->false=true->List.map (fun(z7:Int)=>(z7,())) (List.take x d.1)++[(q79_0 d x)]=List.map (fun(z8:Int)=>(z8,())) d.1)/\((!false)=false->jA ((x:Int)+1)/\∃(a:Nat),(((x:Int)+1=(a:Int)/\True)/\True)/\(List.map (fun(m:Int)=>(m,())) (List.take x d.1)++[(q79_0 d x)],false)=(List.map (fun(b:Int)=>(b,())) (List.take a d.1),true)/\a<=d.1.length/\d.1.length-a<d.1.length-x))/\(decide ((x:Int)<(d.1.length:Int))=false->true=true->List.map (fun(c:Int)=>(c,())) (List.take x d.1)=List.map (fun(e:Int)=>(e,())) d.1)
theorem ja1:(jx0 (ctx 16 [] []) (zD Tryz.f101) [.int] [.ref (.slice .int)] LVi (fun _=>[]) (fun _ _=>jfo) (fun d l=>hkY [.int] l [13] (fun q=>∃rest,LVi d (q++rest)) (fun _=>none)))=vV:=by kernel_rfl
def zF:jd0:=⟨[.val (.slice .int)],fun _=>[],101,[.slice .int],fun d=>(d.1,())⟩
def jav:Prop:=∀(d:List Int×Unit),d=d
theorem jcW:(jxk (ctx 4 [] []) (fun _=>none) Tryz.f70 (zD Tryz.f70) zF)=jav:=by kernel_rfl
def vq:jpB [.int]:={ps:=[.own (.box 34 [.row 3 .int .unk]) true],slots:=[2],dst:=20,pre:=fun _=>[],G:=fun d q=>((d.1.1++q.map (·.1),()),()),seq:=fun sv=>match sv with
 | .clo 101 [.ep t m]=>(match zc t (.slice .int) m with
  |some a=>some (True,fun xs=>xs=asI a)
  |none=>none)
 |_=>none}
def wB:Nat->Option ((ts:List Ty)×jpB ts):=fun r=>match r with
 |3=>some ⟨[.int],vq⟩
 |_=>none
def zU:jdX:=⟨[none,some (101,1)],[.nil false,.ref (.slice .int)],[rwI],fun d=>[d.2.1.length<=12],fun d r=>r.1.1=d.2.1⟩
def km:jdX:=⟨[some (101,1)],[.ref (.slice .int)],[rwI],fun d=>[d.1.length<=12],fun d r=>r.1.1=d.1⟩
def zJ:jdX:=⟨[some (101,1),none],[.ref (.slice .int),.fn [.int,.int] [.int]],[rwI],fun d=>[d.1.length<=12,U.jaB d.2.1.pre d.1,kx (U.q7 d.2.1.F) d.1],fun d r=>r.1.1=U.jc (U.q7 d.2.1.F) d.1⟩
def jdR (d:OD zU.ps):List SV:=[.lit (.slice none 0 0),.clo 101 [.ep (.slice .int) d.2.1]]
def vj:Prop:=∀(d:Unit×List Int×Unit),d.2.1.length<=12/\True->True/\True/\(([]++List.map (fun(a:Int×Unit)=>a.1) [],()),())=(([],()),())/\(∀(q:List (Int×Unit)) (x:Int×Unit) (rest:List (Int×Unit)),q++x::rest=List.map (fun(b:Int)=>(b,())) d.2.1->kO (fun(i:List (Int×Unit))=>false) q->(([]++List.map (fun(e:Int×Unit)=>e.1) q).length+[x.1].length)*8<=140737488355328/\false=false/\(([]++List.map (fun(f:Int×Unit)=>f.1) q++[x.1],()),())=(([]++List.map (fun(g:Int×Unit)=>g.1) (q++[x]),()),()))/\(∀(xs:List (Int×Unit)),xs=List.map (fun(z6:Int)=>(z6,())) d.2.1->kO (fun(z7:List (Int×Unit))=>false) xs->∃(k:Unit),[]++List.map (fun(z8:Int×Unit)=>z8.1) xs=d.2.1)/\∀(q:List (Int×Unit)) (x:Int×Unit) (rest:List (Int×Unit)),q++x::rest=List.map (fun(h:Int)=>(h,())) d.2.1->kO (fun(c:List (Int×Unit))=>false) q->false=true->∃(k:Unit),[]=d.2.1
theorem jaL:(jvt (ctx 13 [] []) (fun _=>none) (hkC (ctx 13 [] []) (fun _=>none) wB [] []) Tryz.f122 (zD Tryz.f122) zU jdR)=vj:=by kernel_rfl
def jgj (d:OD km.ps):List SV:=[.clo 101 [.ep (.slice .int) d.1]]
def yG:Prop:=∀(d:List Int×Unit),d.1.length<=12/\True->(d.1.length<=12/\True)/\∀(r:(List Int×Unit)×Unit),r.1.1=d.1->∃(k:Unit),r.1.1=d.1
theorem jch:(jvt (ctx 5 [] []) (fun _=>none) (hkC (ctx 5 [] []) (fun _=>none) jz2 [4] [(122,20,zU)]) Tryz.f99 (zD Tryz.f99) km jgj)=yG:=by kernel_rfl
def jcy (d:OD zJ.ps):List SV:=[.clo 101 [.ep (.slice .int) d.1],.fn [.int,.int] [.int] d.2.1.pre d.2.1.F]
def qT:Prop:=∀(d:List Int×FnD [Ty.int,Ty.int] [Ty.int]×Unit),d.1.length<=12/\U.jaB d.2.1.1 d.1/\kx (U.q7 d.2.1.2) d.1/\True->(d.1.length<=12/\True)/\∀(r:(List Int×Unit)×Unit),r.1.1=d.1->r.1.1.length<=12/\U.jaB d.2.1.1 r.1.1/\kx (U.q7 d.2.1.2) r.1.1/\∃(k:Unit),U.jc (U.q7 d.2.1.2) r.1.1=U.jc (U.q7 d.2.1.2) d.1
theorem gL:(jvt (ctx 12 [] [(100,zA)]) (fun _=>none) (hkC (ctx 12 [] [(100,zA)]) (fun _=>none) jz2 [7] [(99,20,km)]) Tryz.f69 (zD Tryz.f69) zJ jcy)=qT:=by kernel_rfl
end Go.X
namespace Go.X
open Go.Proofs
theorem juA {γ:Bool} {l:List Prop} {k:Prop} (h:γ=true->U.jw l) (hk:k):jxq γ l k:=by
 induction l with
 |nil=>exact hk
 |cons p l b=>exact⟨fun a=>(h a).1,b (fun a=>(h a).2)⟩
theorem jCZ:∀n:Nat,n<13->w4 U.len8tab n=U.jdP (n:Int):=by decide+kernel
theorem jA2 (n:Int):0<=U.jdP n/\U.jdP n<=4:=by
 unfold U.jdP
 split
 .omega
 split
 .omega
 split
 .omega
 split<;>omega
theorem jo0:jlL:=by
 unfold jlL q74_4 q74_3 q74_2 q74_1 q74_0;rintro⟨n,⟨⟩⟩ ⟨a,b⟩;have a:0<=n:=a;have b:n<=12:=b;refine⟨fun h=>absurd (of_decide_eq_true h) (by simp only;omega),fun _=>⟨fun h=>absurd (of_decide_eq_true h) (by simp only;omega),fun _=>⟨fun h=>absurd (of_decide_eq_true h) (by simp only;omega),fun _=> ?_⟩⟩⟩;have c:=jCZ n.toNat (by omega);rw[Int.toNat_of_nonneg a] at c;have d:=jA2 n;simp only;rw[c];refine⟨by omega,by omega,by omega,?_,by unfold jA;omega,by unfold jA;omega,by rw[Int.zero_add]⟩;have:U.len8tab.size=256:=(by decide+kernel);omega
theorem jmn:zn PR 153 jlY:=jT jo0 Tryz.func153 kcN koN
theorem jt1:jpW:=by
 rintro⟨n,⟨⟩⟩ h;exact⟨fun e=>(by cases e),fun _=>⟨h,rfl⟩⟩
theorem jqR:zn PR 118 jqh:=jT jt1 Tryz.func118 (kcC jmn kcN) koN
theorem qQ:qt:=by
 unfold qt q76_1 q76_0;rintro⟨l,a,b,⟨pre,c⟩,⟨⟩⟩ x y;obtain⟨z,n,E⟩:a=0/\b=(l.length:Int)/\l.length<=12:=x;have s:U.jaB pre l:=y;subst z n;simp only;refine⟨by unfold jA;omega,⟨1,⟨⟨rfl,trivial⟩,rfl,trivial⟩,jDf _,by omega⟩,fun i hi=>⟨fun h=> ?_,fun h=> ?_⟩⟩
 .have h:i<l.length:=(by have:=of_decide_eq_true h;omega);have u:=IS.part_perm (lt:=U.q7 c) (l:=l) i (by omega);refine⟨⟨(i,U.yt (U.q7 c) l i),⟨⟨rfl,trivial⟩,rfl,trivial⟩,jEg _,List.Perm.refl _,rfl⟩,?_⟩;rintro⟨j,m⟩ ⟨v,o,p⟩;have v:(j:Int)<=i:=v;have o:m.Perm (U.yt (U.q7 c) l i):=o;have p:U.jco (U.q7 c) m j=U.jco (U.q7 c) (U.yt (U.q7 c) l i) i:=p;have C:m.length=l.length:=(o.trans u).length_eq;have g:∀{k:Nat},k<m.length->nth m k∈l:=fun hk=>(o.trans u).mem_iff.1 (L.mem_nth hk)
  simp only[jDm];refine⟨fun _=>by omega,fun f=>by have:=of_decide_eq_true f;omega,fun f=>by have:=of_decide_eq_true f;unfold jA;omega,fun f=>by have:=of_decide_eq_true f;omega,fun f=>by have:=of_decide_eq_true f;omega,juA (fun f=> ?_) ⟨fun n=> ?_,fun n=> ?_⟩⟩
  .have f:=of_decide_eq_true f;exact s _ (g (by omega)) _ (g (by omega))
  .simp only[jDg,decide_eq_true_eq] at n;obtain⟨D,q⟩:=n;obtain⟨d,rfl⟩:∃d,j=d+1:=⟨j-1,by omega⟩;have r:((d+1:Nat):Int)-1=(d:Int):=(by omega);rw[r] at q⊢;simp only[jDm] at q⊢;have t:=IS.swap_perm (l:=m) (j:=d+1) (k:=d) (by omega) (by omega);have e:jA (d:Int):=(by unfold jA;omega);refine⟨e,e,by omega,by omega,by omega,by omega,by omega,by omega,by omega,by simp;omega,e,⟨(d,U.jtd m (d+1) d),⟨⟨rfl,trivial⟩,rfl,trivial⟩,⟨by simp only;omega,t.trans o,?_⟩,by simp⟩⟩;rw[<-p];show _=(if U.q7 c (nth m (d+1)) (nth m d)=true then U.jco (U.q7 c) (U.jtd m (d+1) d) d else m);have w:U.q7 c (nth m (d+1)) (nth m d)=true:=decide_eq_true q;rw[if_pos w]
  .have B:m=U.yt (U.q7 c) l (i+1):=by
    rw[IS.part_succ,<-p];cases j with
    |zero=>rfl
    |succ d=>
     unfold U.jco;rw[if_neg];intro A;refine absurd n (by
      rw[Bool.and_eq_false_iff];rintro(h|h)
      .exact absurd (of_decide_eq_false h) (by simp)
      .refine of_decide_eq_false h ?_;have r:((d+1:Nat):Int)-1=(d:Int):=(by omega);rw[r];exact of_decide_eq_true A)
   exact⟨by unfold jA;omega,i+1,⟨⟨by simp,trivial⟩,B,trivial⟩,by omega,by omega⟩
 .have h:l.length<=i:=(by have:=of_decide_eq_false h;omega);exact⟨trivial,by rw[IS.part_isort hi.1 hi.2 h]⟩
theorem qC:wY PR 163 qv:=jgA qL qQ Tryz.func163 kcN koN
theorem jah:yC:=by
 rintro⟨l,a,b,lim,⟨pre,c⟩,⟨⟩⟩ e d;obtain⟨f,g,i⟩:a=0/\b=(l.length:Int)/\l.length<=12:=e;subst f g;refine⟨by unfold jA;simp only;omega,fun _=>⟨⟨rfl,rfl,by simp only;omega⟩,d,rfl,rfl⟩,fun h=>absurd (of_decide_eq_false h) (by simp only;omega)⟩
theorem yU:wY PR 123 yL:=jgA gz jah Tryz.func123 kcN (koC qC koN)
theorem jf5:jd5:=by
 rintro⟨l,⟨pre,c⟩,⟨⟩⟩ a b d _;have a:l.length<=12:=a;exact⟨by simp only;omega,by simp only;omega,⟨by simp only;omega,by simp only;omega⟩,⟨rfl,rfl,a⟩,b,rfl,congrArg (·,()) (IS.isort_sort d)⟩
theorem jeC:wY PR 100 zA:=jk3 jf5 Tryz.func100 (kcC jqR kcN) (koC yU koN)
theorem jy7 {l:List Int} {i:Nat} (h:i<l.length):asI (l.take (i+1))=asI (l.take i)++[(nth l i,())]:=by
 unfold asI;rw[L.take_succ h,jD9];rfl
theorem jf4:vV:=by
 unfold vV q79_0;rintro⟨l,⟨⟩⟩ y b;have b:l.length<4611686018427387904:=b;refine⟨⟨0,⟨⟨rfl,trivial⟩,trivial⟩,rfl,jDq _⟩,fun x c=>⟨fun h=> ?_,fun h _=> ?_⟩⟩
 .have h:(x:Int)<(l.length:Int):=of_decide_eq_true h;have a:x<l.length:=(by omega);have e:=jy7 a;unfold asI at e;simp only[jDm];refine⟨by omega,h,trivial,⟨asI (l.drop (x+1)),?_⟩,⟨fun h=>(by cases h),fun _=>⟨L.in64 (by omega) (by omega),x+1,⟨⟨by simp,trivial⟩,trivial⟩,?_,by show x+1<=l.length;omega,by show l.length-(x+1)<l.length-x;omega⟩⟩,fun _ h=>(by cases h),fun h=>(by cases h)⟩
  .rw[<-e];unfold asI;rw[<-jD9,jEv]
  .rw[e]
 .have h:¬(x:Int)<(l.length:Int):=of_decide_eq_false h;have c:x<=l.length:=c;rw[jD7 (by show l.length<=x;omega)]
theorem jtq {H:Imm} {lb:Array Value} {d:PD [.ref (.slice .int)]} (e:pvs PR H [.ref (.slice .int)] lb.toList d):jzd PR H [.int] (LVi d) (.func (.func 101) #[] lb):=
 jzt (C:=ctx 16 [] []) (jjE trivial trivial) mixed Tryz.func101 (by kernel_rfl) (by kernel_rfl) (by kernel_rfl) (by kernel_rfl) (by decide) (ja1.mpr jf4) (fun d l B0 R f a b c=>jBD a c) e trivial
theorem jjd:jav:=by intro d;rfl
theorem jhe:jpE PR 70 zF:=jBF (jcW.mpr jjd) Tryz.func70 (by kernel_rfl) (by kernel_rfl) (by kernel_rfl) (by kernel_rfl) trivial trivial
theorem jA6 (l:List Int):(asI l).map (fun(x:Int×Unit)=>x.1)=l:=by
 unfold asI;rw[List.map_map];exact List.map_id l
theorem je1:vj:=by
 intro d ⟨a,_⟩;refine⟨trivial,trivial,rfl,fun q x rest h _=>⟨?_,rfl,?_⟩,fun xs h _=>⟨(),?_⟩,fun _ _ _ _ _ h=>(by cases h)⟩
 .have b:=congrArg List.length h;simp only[jEq,jDA,jDL] at b;have a:d.2.1.length<=12:=a;simp only[jDB,jEq,jDL,jDZ];omega
 .simp
 .rw[h,jDB];exact jA6 d.2.1
theorem jhn:yG:=fun d a=>⟨a,fun r h=>⟨(),h⟩⟩
theorem jdA:qT:=fun d ⟨a,b,c,_⟩=>⟨⟨a,trivial⟩,fun r h=>by rw[h];exact⟨a,b,c,(),rfl⟩⟩
theorem jsE {P:Program} {ρ:Env} {H:Imm} (b:ρ.H=H) {g:Nat} {t:Ty} {d:t.Data} {lb:Array Value} {w:World} {bs:List Nat} (a:gC P H w [.ref t] lb.toList (d,()) bs):SV.den P ρ (.clo g [.ep t d]) (.func (.func g) #[] lb):=by
 subst b
 match e:lb.toList,a with
 |[],a=>exact a.elim
 |[x],⟨_,_,_,⟨c,_⟩,_⟩=>
  simp only[SV.den,SV.denL];exact⟨lb,rfl,x,[],e,c,rfl⟩
 |x::y::r,⟨_,_,_,_,h2⟩=>cases h2.1
theorem jqH {lb:Array Value} (h:lb.size=1):∃x,lb.toList=[x]:=by
 have a:lb.toList.length=1:=(by rw[jDE];exact h);exact List.length_eq_one_iff.1 a
theorem jvP {g n:Nat} {s:jdX} (h:ROK PR g s):∀(f:Nat) (p:Nat×jdX),jt [(g,n,s)] f=some p->ROK PR f p.2:=by
 intro f p a;simp only[jt] at a
 split at a
 .rename_i b;have:=jDa b;subst this;simp at a;subst a;exact h
 .cases a
theorem jy3 (n:Nat):(ctx n [] []).ok PR:=jjE trivial trivial
theorem jcq:ROK PR 122 zU:=by
 refine jvs (body:=zD Tryz.f122) (C:=ctx 13 [] []) (hk:=hkC (ctx 13 [] []) (fun _=>none) wB [] []) (jy3 13) mixed Tryz.func122 (by kernel_rfl) (by kernel_rfl) (by kernel_rfl) (fun B=>jlg (jy3 13) mixed ?_ jAr B) rfl (fun H w vals fl d bs c b ρ f=> ?_) (fun d=>rfl) (jaL.mpr je1)
 .intro k t rs sv A L v ρ hk a p g;unfold wB at hk
  split at hk
  case h_2=>cases hk
  simp only[Option.some.injEq] at hk;cases hk;simp only[vq] at a
  split at a
  case h_2=>cases a
  rename_i t m
  split at a
  case h_2=>cases a
  rename_i z o;simp only[Option.some.injEq,Prod.mk.injEq] at a;obtain⟨rfl,rfl⟩:=a;obtain⟨e,rfl⟩:=ji o;subst e;simp only[SV.den,SV.denL] at g;obtain⟨lb,rfl,x,r,n,j,l⟩:=g;exact jtq (d:=(m,())) (by rw[n,l];exact⟨j,rfl⟩)
 .obtain⟨v,q,h,rfl,rfl,lb,s,i,rfl,rfl,_,rfl,rfl⟩:=c;obtain⟨u,y,_,⟨rfl,_⟩,b⟩:=b;rw[jDF] at b;refine⟨_,_,rfl,rfl,_,_,rfl,jsE f b,rfl⟩
theorem jev:ROK PR 99 km:=by
 refine jvs (body:=zD Tryz.f99) (C:=ctx 5 [] []) (hk:=hkC (ctx 5 [] []) (fun _=>none) jz2 [4] [(122,20,zU)]) (jy3 5) mixed Tryz.func99 (by kernel_rfl) (by kernel_rfl) (by kernel_rfl) (fun B=>jlg (jy3 5) mixed jp0 (jvP jcq) B) rfl (fun H w vals fl d bs a c ρ b=> ?_) (fun d=>rfl) (jch.mpr jhn);obtain⟨lb,f,e,rfl,rfl,_,rfl,rfl⟩:=a;rw[jDF] at c;exact⟨_,_,rfl,jsE b c,rfl⟩
theorem jlo:(ctx 12 [] [(100,zA)]).ok PR:=jjE trivial ⟨jeC,trivial⟩
theorem jbi:ROK PR 69 zJ:=by
 refine jvs (body:=zD Tryz.f69) (C:=ctx 12 [] [(100,zA)]) (hk:=hkC (ctx 12 [] [(100,zA)]) (fun _=>none) jz2 [7] [(99,20,km)]) jlo mixed Tryz.func69 (by kernel_rfl) (by kernel_rfl) (by kernel_rfl)
  (fun B=>jlg jlo mixed jp0 (jvP jev) B) rfl (fun H w vals fl d bs a e ρ c=> ?_) (fun d=>rfl) (gL.mpr jdA)
 obtain⟨lb,k,g,rfl,rfl,b,v,l,h,rfl,rfl,rfl,rfl⟩:=a;obtain⟨x,f⟩:=jqH b;rw[f] at e;obtain⟨m,n,_,⟨i,_⟩,c1,c2,_,⟨j,_⟩,_⟩:=e;subst c;refine⟨_,_,rfl,⟨lb,rfl,x,[],f,i,rfl⟩,_,_,rfl,j,rfl⟩
end Go.X
namespace Go.X
open Go.Proofs
abbrev tRo:Ty:= .st [tDy,.slice .int,.slice (.slice .int),.slice .int]
abbrev RoD:Type:=DyD×List Int×List (List Int)×List Int×Unit
namespace U
def ro (o:Option RoD):RoD:=jH (Ty.dflt tRo) o
def rd (r:RoD):DyD:=r.1
def y8 (r:RoD):List Int:=r.2.1
def zP (r:RoD):List (List Int):=r.2.2.1
def jCi (r:RoD):List Int:=r.2.2.2.1
def qc (d:DyD) (b:Int):Prop:=0<=b/\b<((jq d).length:Int)
def jiL (d:DyD) (l:List Int):Prop:=l.length<=12/\∀b∈l,qc d b
def joF (d:DyD):Prop:=ju (jj d)=true/\jwo d=true/\zr d=true
def joE (r:RoD):Prop:=joF (rd r)/\(y8 r).length=(jq (rd r)).length
def jsi (d:DyD) (p:Int):Prop:=0<=p/\p<((jl (jj d)).length:Int)
def jfh (d:DyD) (a b:Int):Int:=wj [gy (gF (bk d a)) (gF (bk d b)),gy a b]
def jd (d:DyD) (l:List Int):List Int:=jc (yk d) l
def zM (d:DyD) (s:List Int) (n:Nat):Int:=jmv d (s.take n)
def jmo (d:DyD) (zZ:List Int) (p:Int) (s:List Int) (i:Nat):Bool:= !(decide (vf (nth zZ (nth s i).toNat/2^p.toNat) 1=0)||(s.drop (i+1)).any (fun c=>decide (kP d (nth s i) c<0)))
def jAZ (d:DyD) (zZ:List Int) (p:Int) (s:List Int):Bool:=(List.range s.length).all (jmo d zZ p s)&&decide (jmv d s<=jtM d)
def jjK (d:DyD) (zZ:List Int) (p:Int) (l:List Int):Bool:=jAZ d zZ p (jd d l)
def jaV (r:RoD) (p:Int) (l:List Int):Bool:=jjK (rd r) (y8 r) p l
def qe (on:List (List Int)) (b:Int) (n:Nat):Int:=(List.range n).foldl (fun s p=>if(nth on p).any (fun x=>decide (x=b))=true then bor s (1*2^p) else s) 0
def jfF (on:List (List Int)) (b:Int):Int:=qe on b on.length
def jwN (d:DyD) (b t:Int):Bool:=(decide (vl (jj d) (jfx (bk d b)) t=0)&&decide (jB9 (jj d) (jfx (bk d b)) t=0))&&decide (t≠0)
def jaF (l:List PeD) (t:Int) (n:Nat):Int:=(List.range n).foldl (fun s i=>s+vf (t/2^i) 1*fe (nth l i)) 0
def vK (d:DyD) (t:Int):Int:=jaF (jl (jj d)) t (jl (jj d)).length
end U
def jfH:jX:=⟨[.val (.ptr tRo),.val .int,.val .int],[.int],false,fun d=>[d.1.isSome=true,U.joF (U.rd (U.ro d.1)),U.qc (U.rd (U.ro d.1)) d.2.1,U.qc (U.rd (U.ro d.1)) d.2.2.1],fun d=>(U.kP (U.rd (U.ro d.1)) d.2.1 d.2.2.1,())⟩
abbrev q84_0 (d:Option RoD×Int×Int×Unit):=(jH ((((0:Int),[],[],()),[],[],(0:Int),(0:Int),[],()),[],[],[],()) d.1)
abbrev q84_1 (d:Option RoD×Int×Int×Unit):=(nth (q84_0 d).1.2.2.1 d.2.1.toNat)
abbrev q84_2 (d:Option RoD×Int×Int×Unit):=(nth (q84_0 d).1.2.2.1 d.2.2.1.toNat)
def jfC:Prop:=∀(d:Option RoD×Int×Int×Unit),d.1.isSome=true->U.joF (U.rd (U.ro d.1))->U.qc (U.rd (U.ro d.1)) d.2.1->U.qc (U.rd (U.ro d.1)) d.2.2.1->d.1.isSome=true/\0<=d.2.1/\d.2.1<(↑(q84_0 d).1.2.2.1.length:Int)/\d.1.isSome=true/\0<=d.2.2.1/\d.2.2.1<(↑(q84_0 d).1.2.2.1.length:Int)/\jA ((q84_2 d).2.2.1-(q84_1 d).2.2.2.1)/\d.1.isSome=true/\jA ((q84_2 d).2.2.1-(q84_1 d).2.2.2.1-(q84_0 d).1.2.2.2.1)/\d.1.isSome=true/\(0:Int)<=(q84_1 d).2.1/\(q84_1 d).2.1<(↑(q84_0 d).1.2.1.length:Int)/\(0:Int)<=(q84_2 d).2.1/\(q84_2 d).2.1<(↑(nth (q84_0 d).1.2.1 (q84_1 d).2.1.toNat).length:Int)/\jA ((q84_2 d).2.2.1-(q84_1 d).2.2.2.1-(q84_0 d).1.2.2.2.1-(nth (nth (q84_0 d).1.2.1 (q84_1 d).2.1.toNat) (q84_2 d).2.1.toNat).2.1)/\((q84_2 d).2.2.1-(q84_1 d).2.2.2.1-(q84_0 d).1.2.2.2.1-(nth (nth (q84_0 d).1.2.1 (q84_1 d).2.1.toNat) (q84_2 d).2.1.toNat).2.1,())=(U.kP (U.rd (U.ro d.1)) d.2.1 d.2.2.1,())
def zi:jX:=⟨[.val .int,.val .int,.ref (.ptr tRo)],[.int],false,fun d=>[d.2.2.1.isSome=true,U.qc (U.rd (U.ro d.2.2.1)) d.1,U.qc (U.rd (U.ro d.2.2.1)) d.2.1],fun d=>(U.jfh (U.rd (U.ro d.2.2.1)) d.1 d.2.1,())⟩
abbrev q85_0 (d:Int×Int×Option RoD×Unit):=(jH ((((0:Int),[],[],()),[],[],(0:Int),(0:Int),[],()),[],[],[],()) d.2.2.1)
def jci:Prop:=∀(d:Int×Int×Option RoD×Unit),d.2.2.1.isSome=true->U.qc (U.rd (U.ro d.2.2.1)) d.1->U.qc (U.rd (U.ro d.2.2.1)) d.2.1->d.2.2.1.isSome=true/\0<=d.1/\d.1<(↑(q85_0 d).1.2.2.1.length:Int)/\d.2.2.1.isSome=true/\0<=d.2.1/\d.2.1<(↑(q85_0 d).1.2.2.1.length:Int)/\(U.wj [U.gy (nth (q85_0 d).1.2.2.1 d.1.toNat).2.2.1 (nth (q85_0 d).1.2.2.1 d.2.1.toNat).2.2.1,U.gy d.1 d.2.1],())=(U.jfh (U.rd (U.ro d.2.2.1)) d.1 d.2.1,())
def v6:jX:=⟨[.val (.ptr tRo),.val (.slice .int)],[.slice .int],false,fun d=>[d.1.isSome=true,U.jiL (U.rd (U.ro d.1)) d.2.1],fun d=>(U.jd (U.rd (U.ro d.1)) d.2.1,())⟩
def vW:Prop:=∀(d:Option RoD×List Int×Unit),d.1.isSome=true->U.jiL (U.rd (U.ro d.1)) d.2.1->(d.2.1.length<=12/\U.jaB (fun(a:Int×Int×Unit)=>[d.1.isSome=true,U.qc (U.rd (U.ro d.1)) a.1,U.qc (U.rd (U.ro d.1)) a.2.1]) d.2.1/\kx (U.q7 fun(b:Int×Int×Unit)=>(U.jfh (U.rd (U.ro d.1)) b.1 b.2.1,())) d.2.1/\True)/\∀(r:(List Int×Unit)×Unit),r.1.1=U.jc (U.q7 fun(c:Int×Int×Unit)=>(U.jfh (U.rd (U.ro d.1)) c.1 c.2.1,())) d.2.1->r.1=(U.jd (U.rd (U.ro d.1)) d.2.1,())
theorem ja4:(jAc (jpH 9 [(71,zi)] [] [(70,zF)] []) (fun _=>none) (hkC (jpH 9 [(71,zi)] [] [(70,zF)] []) (fun _=>none) jz2 [8] [(69,20,zJ)]) Tryz.f38 (zD Tryz.f38) v6)=vW:=by kernel_rfl
def jfI:jX:=⟨[.val .int,.ref (.ptr tRo),.ref .int],[.bool],false,fun d=>[d.2.1.isSome=true,U.joF (U.rd (U.ro d.2.1)),U.qc (U.rd (U.ro d.2.1)) d.1,U.qc (U.rd (U.ro d.2.1)) d.2.2.1],fun d=>(decide (U.kP (U.rd (U.ro d.2.1)) d.2.2.1 d.1<0),())⟩
def jfD:Prop:=∀(d:Int×Option RoD×Int×Unit),d.2.1.isSome=true->U.joF (U.rd (U.ro d.2.1))->U.qc (U.rd (U.ro d.2.1)) d.1->U.qc (U.rd (U.ro d.2.1)) d.2.2.1->d.2.1.isSome=true/\U.joF (U.rd (U.ro d.2.1))/\U.qc (U.rd (U.ro d.2.1)) d.2.2.1/\U.qc (U.rd (U.ro d.2.1)) d.1/\(decide (U.kP (U.rd (U.ro d.2.1)) d.2.2.1 d.1<0),())=(decide (U.kP (U.rd (U.ro d.2.1)) d.2.2.1 d.1<0),())
def jbd:jX:=⟨[.val (.ptr tRo),.val .int,.val (.slice .int)],[.bool],false,fun d=>[d.1.isSome=true,U.joE (U.ro d.1),U.jsi (U.rd (U.ro d.1)) d.2.1,U.jiL (U.rd (U.ro d.1)) d.2.2.1],fun d=>(U.jaV (U.ro d.1) d.2.1 d.2.2.1,())⟩
def jjR:Ann:=fun r=>match r with
 |4=>some fun σ=>{X:=Nat,sl:=fun i=>[(16,.dat .int (i:Int)),(7,.dat .int (U.zM (U.rd (U.ro (gd (.ptr tRo) σ 0))) (gd (.slice .int) σ 14) i))],ob:=fun _=>[],inv:=fun i=>i<=(gd (.slice .int) σ 14).length/\∀b:Nat,b<i->U.jmo (U.rd (U.ro (gd (.ptr tRo) σ 0))) (U.y8 (U.ro (gd (.ptr tRo) σ 0))) (gd .int σ 1) (gd (.slice .int) σ 14) b=true,mu:=fun i=>(gd (.slice .int) σ 14).length-i}
 |_=>none
abbrev q88_0 (d:Option RoD×Int×List Int×Unit):=(jH ((((0:Int),[],[],()),[],[],(0:Int),(0:Int),[],()),[],[],[],()) d.1)
abbrev q88_5 (d:Option RoD×Int×List Int×Unit):=(U.rd (U.ro d.1))
abbrev q88_1 (d:Option RoD×Int×List Int×Unit):=(U.jd (q88_5 d) d.2.2.1)
abbrev q88_4 (d:Option RoD×Int×List Int×Unit):=(↑(q88_1 d).length:Int)
abbrev q88_6 (d:Option RoD×Int×List Int×Unit)(x:Nat):=(nth (q88_1 d) (x:Int).toNat)
abbrev q88_2 (d:Option RoD×Int×List Int×Unit)(x:Nat):=(vf (nth (q88_0 d).2.1 (q88_6 d x).toNat/(2:Int)^d.2.1.toNat) (1:Int)=0)
abbrev q88_3 (d:Option RoD×Int×List Int×Unit)(x:Nat):=((nth (q88_0 d).1.2.2.1 (q88_6 d x).toNat).2.2.2.1-(nth (q88_0 d).1.2.2.1 (q88_6 d x).toNat).2.2.1)
abbrev q88_7 (d:Option RoD×Int×List Int×Unit)(x:Nat):=(List.take ((q88_4 d).toNat-((x:Int)+1).toNat) (List.drop ((x:Int)+1).toNat (q88_1 d)))
def jhY:Prop:=∀(d:Option RoD×Int×List Int×Unit),d.1.isSome=true->U.joE (U.ro d.1)->U.jsi (q88_5 d) d.2.1->U.jiL (q88_5 d) d.2.2.1->d.1.isSome=true/\U.jiL (q88_5 d) d.2.2.1/\((q88_1 d).length<4611686018427387904->(∃(x:Nat),((0=(x:Int)/\0=U.zM (q88_5 d) (q88_1 d) x/\True)/\True)/\x<=(q88_1 d).length/\∀(b:Nat),b<x->U.jmo (q88_5 d) (U.y8 (U.ro d.1)) d.2.1 (q88_1 d) b=true)/\∀(x:Nat),(x<=(q88_1 d).length/\∀(b:Nat),b<x->U.jmo (q88_5 d) (U.y8 (U.ro d.1)) d.2.1 (q88_1 d) b=true)->(decide ((x:Int)<(q88_4 d))=true->0<=(x:Int)/\(x:Int)<(q88_4 d)/\d.1.isSome=true/\0<=nth (q88_1 d) (x:Int).toNat/\nth (q88_1 d) (x:Int).toNat<(↑(q88_0 d).1.2.2.1.length:Int)/\d.1.isSome=true/\0<=nth (q88_1 d) (x:Int).toNat/\nth (q88_1 d) (x:Int).toNat<(↑(q88_0 d).1.2.2.1.length:Int)/\jA (q88_3 d x)/\jA (U.zM (q88_5 d) (q88_1 d) x+(q88_3 d x))/\d.1.isSome=true/\0<=nth (q88_1 d) (x:Int).toNat/\nth (q88_1 d) (x:Int).toNat<(↑(q88_0 d).2.1.length:Int)/\0<=d.2.1/\d.2.1<=64/\((!decide (q88_2 d x))=true->jA ((x:Int)+1))/\((!decide (q88_2 d x))=true->0<=(x:Int)+1)/\((!decide (q88_2 d x))=true->(x:Int)+1<=(q88_4 d))/\((!decide (q88_2 d x))=true->(q88_4 d)<=(q88_4 d))/\((!decide (q88_2 d x))=true->∀(g:Int),g∈List.take ((q88_4 d).toNat-((x:Int)+1).toNat) (List.drop ((x:Int)+1).toNat (q88_1 d))->U.jw [d.1.isSome=true,U.joF (q88_5 d),U.qc (q88_5 d) g,U.qc (q88_5 d) (q88_6 d x)])/\((decide (q88_2 d x)||(q88_7 d x).any (U.jb fun(c:Int×Unit)=>(decide (U.kP (q88_5 d) (q88_6 d x) c.1<0),())))=true->(false,())=(U.jaV (U.ro d.1) d.2.1 d.2.2.1,()))/\((decide (q88_2 d x)||(q88_7 d x).any (U.jb fun(e:Int×Unit)=>(decide (U.kP (q88_5 d) (q88_6 d x) e.1<0),())))=false->jA ((x:Int)+1)/\∃(a:Nat),(((x:Int)+1=(a:Int)/\U.zM (q88_5 d) (q88_1 d) x+(q88_3 d x)=U.zM (q88_5 d) (q88_1 d) a/\True)/\True)/\(a<=(q88_1 d).length/\∀(b:Nat),b<a->U.jmo (q88_5 d) (U.y8 (U.ro d.1)) d.2.1 (q88_1 d) b=true)/\(q88_1 d).length-a<(q88_1 d).length-x))/\(decide ((x:Int)<(q88_4 d))=false->d.1.isSome=true/\(decide (U.zM (q88_5 d) (q88_1 d) x<=(q88_0 d).1.2.2.2.2.1),())=(U.jaV (U.ro d.1) d.2.1 d.2.2.1,())))
def jg0:jX:=⟨[.val (.ptr tRo),.val .int],[.int],false,fun d=>[d.1.isSome=true,(U.zP (U.ro d.1)).length<=60],fun d=>(U.jfF (U.zP (U.ro d.1)) d.2.1,())⟩
def jhv:Ann:=fun r=>match r with
 |2=>some fun σ=>{X:=Nat,sl:=fun i=>[(12,.dat .int (i:Int)),(4,.dat .int (U.qe (U.zP (U.ro (gd (.ptr tRo) σ 0))) (gd .int σ 1) i))],ob:=fun _=>[],inv:=fun i=>i<=(U.zP (U.ro (gd (.ptr tRo) σ 0))).length,mu:=fun i=>(U.zP (U.ro (gd (.ptr tRo) σ 0))).length-i}
 |_=>none
abbrev q89_0 (d:Option RoD×Int×Unit):=(jH ((((0:Int),[],[],()),[],[],(0:Int),(0:Int),[],()),[],[],[],()) d.1)
abbrev q89_1 (d:Option RoD×Int×Unit):=(U.zP (U.ro d.1))
def jgS:Prop:=∀(d:Option RoD×Int×Unit),d.1.isSome=true->(q89_1 d).length<=60->d.1.isSome=true/\((q89_0 d).2.2.1.length<4611686018427387904->(∃(x:Nat),((0=(x:Int)/\0=U.qe (q89_1 d) d.2.1 x/\True)/\True)/\x<=(q89_1 d).length)/\∀(x:Nat),x<=(q89_1 d).length->(decide ((x:Int)<(↑(q89_0 d).2.2.1.length:Int))=true->0<=(x:Int)/\(x:Int)<(↑(q89_0 d).2.2.1.length:Int)/\(((nth (q89_0 d).2.2.1 (x:Int).toNat).any fun(b:Int)=>decide (b=d.2.1))=true->0<=(x:Int)/\(x:Int)<=64/\jA ((1:Int)*2^(x:Int).toNat)/\jA ((x:Int)+1)/\∃(a:Nat),(((x:Int)+1=(a:Int)/\bor (U.qe (q89_1 d) d.2.1 x) ((1:Int)*2^(x:Int).toNat)=U.qe (q89_1 d) d.2.1 a/\True)/\True)/\a<=(q89_1 d).length/\(q89_1 d).length-a<(q89_1 d).length-x)/\(((nth (q89_0 d).2.2.1 (x:Int).toNat).any fun(c:Int)=>decide (c=d.2.1))=false->jA ((x:Int)+1)/\∃(a:Nat),((U.qe (q89_1 d) d.2.1 x=U.qe (q89_1 d) d.2.1 a/\(x:Int)+1=(a:Int)/\True)/\True)/\a<=(q89_1 d).length/\(q89_1 d).length-a<(q89_1 d).length-x))/\(decide ((x:Int)<(↑(q89_0 d).2.2.1.length:Int))=false->(U.qe (q89_1 d) d.2.1 x,())=(U.jfF (q89_1 d) d.2.1,())))
def jg1:jX:=⟨[.val (.ptr tRo),.val .int,.val .int],[.bool],false,fun d=>[d.1.isSome=true,U.qc (U.rd (U.ro d.1)) d.2.1],fun d=>(U.jwN (U.rd (U.ro d.1)) d.2.1 d.2.2.1,())⟩
abbrev q90_0 (d:Option RoD×Int×Int×Unit):=(jH ((((0:Int),[],[],()),[],[],(0:Int),(0:Int),[],()),[],[],[],()) d.1)
def jgT:Prop:=∀(d:Option RoD×Int×Int×Unit),d.1.isSome=true->U.qc (U.rd (U.ro d.1)) d.2.1->d.1.isSome=true/\d.1.isSome=true/\0<=d.2.1/\d.2.1<(↑(q90_0 d).1.2.2.1.length:Int)/\(decide (U.vl (q90_0 d).1.1 (nth (q90_0 d).1.2.2.1 d.2.1.toNat).1 d.2.2.1=0)&&decide (U.jB9 (q90_0 d).1.1 (nth (q90_0 d).1.2.2.1 d.2.1.toNat).1 d.2.2.1=0)&&decide (d.2.2.1≠0),())=(U.jwN (U.rd (U.ro d.1)) d.2.1 d.2.2.1,())
def jbc:jX:=⟨[.val (.ptr tRo),.val .int],[.int],false,fun d=>[d.1.isSome=true,U.ju (U.jj (U.rd (U.ro d.1)))=true,0<=d.2.1,d.2.1<=1000000],fun d=>(U.vK (U.rd (U.ro d.1)) d.2.1,())⟩
def jjQ:Ann:=fun r=>match r with
 |2=>some fun σ=>{X:=Nat,sl:=fun i=>[(14,.dat .int (i:Int)),(4,.dat .int (U.jaF (U.jl (U.jj (U.rd (U.ro (gd (.ptr tRo) σ 0))))) (gd .int σ 1) i))],ob:=fun _=>[],inv:=fun i=>i<=(U.jl (U.jj (U.rd (U.ro (gd (.ptr tRo) σ 0))))).length,mu:=fun i=>(U.jl (U.jj (U.rd (U.ro (gd (.ptr tRo) σ 0))))).length-i}
 |_=>none
abbrev q91_0 (d:Option RoD×Int×Unit):=(jH ((((0:Int),[],[],()),[],[],(0:Int),(0:Int),[],()),[],[],[],()) d.1)
abbrev q91_1 (d:Option RoD×Int×Unit):=(U.jl (U.jj (U.rd (U.ro d.1))))
def jhX:Prop:=∀(d:Option RoD×Int×Unit),d.1.isSome=true->U.ju (U.jj (U.rd (U.ro d.1)))=true->0<=d.2.1->d.2.1<=1000000->d.1.isSome=true/\((q91_0 d).1.1.2.1.length<4611686018427387904->(∃(x:Nat),((0=(x:Int)/\0=U.jaF (q91_1 d) d.2.1 x/\True)/\True)/\x<=(q91_1 d).length)/\∀(x:Nat),x<=(q91_1 d).length->(decide ((x:Int)<(↑(q91_0 d).1.1.2.1.length:Int))=true->0<=(x:Int)/\(x:Int)<(↑(q91_0 d).1.1.2.1.length:Int)/\0<=(x:Int)/\(x:Int)<=64/\jA (vf (d.2.1/(2:Int)^(x:Int).toNat) (1:Int)*(nth (q91_0 d).1.1.2.1 (x:Int).toNat).2.2.2.2.2.1)/\jA (U.jaF (q91_1 d) d.2.1 x+vf (d.2.1/(2:Int)^(x:Int).toNat) (1:Int)*(nth (q91_0 d).1.1.2.1 (x:Int).toNat).2.2.2.2.2.1)/\jA ((x:Int)+1)/\∃(a:Nat),(((x:Int)+1=(a:Int)/\U.jaF (q91_1 d) d.2.1 x+vf (d.2.1/(2:Int)^(x:Int).toNat) (1:Int)*(nth (q91_0 d).1.1.2.1 (x:Int).toNat).2.2.2.2.2.1=U.jaF (q91_1 d) d.2.1 a/\True)/\True)/\a<=(q91_1 d).length/\(q91_1 d).length-a<(q91_1 d).length-x)/\(decide ((x:Int)<(↑(q91_0 d).1.1.2.1.length:Int))=false->(U.jaF (q91_1 d) d.2.1 x,())=(U.vK (U.rd (U.ro d.1)) d.2.1,())))
def jej:jX:=⟨[.val (.ptr tRo),.val .int],[.bool],false,fun d=>[d.1.isSome=true,(U.jl (U.jj (U.rd (U.ro d.1)))).length<=8],fun d=>(U.ja d.2.1 0 (((U.jl (U.jj (U.rd (U.ro d.1)))).length:Int)-1),())⟩
abbrev q92_0 (d:Option RoD×Int×Unit):=(jH ((((0:Int),[],[],()),[],[],(0:Int),(0:Int),[],()),[],[],[],()) d.1)
def jd8:Prop:=∀(d:Option RoD×Int×Unit),d.1.isSome=true->(U.jl (U.jj (U.rd (U.ro d.1)))).length<=8->d.1.isSome=true/\((q92_0 d).1.1.2.1.length<4611686018427387904->jA ((↑(q92_0 d).1.1.2.1.length:Int)-1)/\(U.ja d.2.1 (0:Int) ((↑(q92_0 d).1.1.2.1.length:Int)-1),())=(U.ja d.2.1 (0:Int) ((↑(U.jl (U.jj (U.rd (U.ro d.1)))).length:Int)-1),()))
end Go.X
namespace Go.X
open Go.Proofs
theorem zb {d:DyD} (h:U.zr d=true):(U.jq d).length<=4/\(1<=(U.jE d).length/\(U.jE d).length<=5)/\(0<=U.jg7 d/\U.jg7 d<=300)/\(0<=U.jtM d/\U.jtM d<=1440)/\(U.kg d).length<=30/\
 (∀r∈U.jE d,U.qX (U.jE d).length r=true)/\(∀b∈U.jq d,U.jcv (U.jE d).length b=true)/\∀s∈U.kg d,U.jbu (U.jq d).length (U.jl (U.jj d)).length s=true:=by
 unfold U.zr at h;simp only[jDg,decide_eq_true_eq,jDO] at h;obtain⟨⟨e,f,g,i,j,k,l,m⟩,n,a,c⟩:=h;exact⟨e,⟨f,g⟩,⟨i,j⟩,⟨k,l⟩,m,n,a,c⟩
theorem jCH {d:DyD} {b:Int} (h:U.qc d b):U.bk d b∈U.jq d:=by
 unfold U.bk;exact L.mem_nth (by unfold U.qc at h;omega)
theorem yj {d:DyD} (h:U.zr d=true) {b:Int} (a:U.qc d b):(0<=U.jhL (U.bk d b)/\U.jhL (U.bk d b)<((U.jE d).length:Int))/\0<=U.gF (U.bk d b)/\U.gF (U.bk d b)<U.jna (U.bk d b)/\U.jna (U.bk d b)<=1440:=by
 have:=(zb h).2.2.2.2.2.2.1 _ (jCH a);unfold U.jcv at this;have:=of_decide_eq_true this;omega
theorem jn4 {d:DyD} (h:U.zr d=true) {i:Nat} (hi:i<(U.jE d).length):(nth (U.jE d) i).length=(U.jE d).length/\∀j,j<(U.jE d).length->0<=U.lo (nth (nth (U.jE d) i) j)/\U.lo (nth (nth (U.jE d) i) j)<=U.hi (nth (nth (U.jE d) i) j)/\U.hi (nth (nth (U.jE d) i) j)<=300:=by
 have:=(zb h).2.2.2.2.2.1 _ (L.mem_nth hi);unfold U.qX at this;rw[jDg,decide_eq_true_eq,jDO] at this;refine⟨this.1,fun j b=> ?_⟩;have a:=this.2 _ (L.mem_nth (l:=nth (U.jE d) i) (i:=j) (by omega));unfold U.jdp at a;exact of_decide_eq_true a
theorem jwR {d:DyD} (h:U.zr d=true) {a b:Int} (c:U.qc d a) (e:U.qc d b):0<=U.jAL d a b/\U.jAL d a b<=300:=by
 have f:=(yj h c).1;have g:=(yj h e).1;have:=(jn4 h (i:=(U.jhL (U.bk d a)).toNat) (by omega)).2 (U.jhL (U.bk d b)).toNat (by omega);unfold U.jAL;omega
theorem jhq:jfC:=by
 unfold jfC q84_2 q84_1 q84_0;rintro⟨(_|r),a,b,⟨⟩⟩ h c d e
 .cases h
 obtain⟨c1,c2,c⟩:U.joF (U.rd r):=c;have d:U.qc (U.rd r) a:=d;have e:U.qc (U.rd r) b:=e;have g:=yj c d;have j:=yj c e;have k:=jwR c d e;have l:=(zb c).2.2.1;have m:=(jn4 c (i:=(U.jhL (U.bk (U.rd r) a)).toNat) (by omega)).1;have f:(0<=a/\a<((U.jq (U.rd r)).length:Int))/\0<=b/\b<((U.jq (U.rd r)).length:Int):=⟨d,e⟩;refine⟨rfl,f.1.1,f.1.2,rfl,f.2.1,f.2.2,?_,rfl,?_,rfl,g.1.1,g.1.2,j.1.1,?_,?_,rfl⟩
 .show jA (U.gF (U.bk (U.rd r) b)-U.jna (U.bk (U.rd r) a));exact L.in64 (by omega) (by omega)
 .show jA (U.gF (U.bk (U.rd r) b)-U.jna (U.bk (U.rd r) a)-U.jg7 (U.rd r));exact L.in64 (by omega) (by omega)
 .show U.jhL (U.bk (U.rd r) b)<((nth (U.jE (U.rd r)) (U.jhL (U.bk (U.rd r) a)).toNat).length:Int);omega
 .show jA (U.gF (U.bk (U.rd r) b)-U.jna (U.bk (U.rd r) a)-U.jg7 (U.rd r)-U.jAL (U.rd r) a b);exact L.in64 (by omega) (by omega)
theorem yZ:zn PR 39 jfH:=jT jhq Tryz.func39 kcN koN
theorem jdC:jci:=by
 unfold jci q85_0;rintro⟨a,b,(_|r),⟨⟩⟩ e c d
 .cases e
 have c:U.qc (U.rd r) a:=c;have d:U.qc (U.rd r) b:=d;exact⟨rfl,c.1,c.2,rfl,d.1,d.2,rfl⟩
theorem jct:zn PR 71 zi:=jT jdC Tryz.func71 (kcC wN (kcC jad kcN)) koN
theorem jAU (d:DyD):jaX (U.jfh d):=by
 have e:U.jfh d=jxG (fun a b=>U.gy (U.gF (U.bk d a)) (U.gF (U.bk d b))) U.gy:=by
  funext a b;unfold U.jfh;rw[zl,kY];rfl
 rw[e];exact jf0 (jgv jfg (fun a=>U.gF (U.bk d a))) jfg
theorem jxe {d:DyD} {a b:Int} (h:U.jfh d a b=0):a=b:=by
 unfold U.jfh at h;rw[zl] at h
 split at h
 .contradiction
 .rw[kY] at h;exact q8.1 h
theorem jxf (d:DyD) (a b:Int):decide (U.jfh d a b<0)=U.yk d a b:=by
 unfold U.jfh U.yk;rw[zl,kY];refine decide_eq_decide.2 ?_;by_cases c:U.gF (U.bk d a)<U.gF (U.bk d b)
 .have e:U.gy (U.gF (U.bk d a)) (U.gF (U.bk d b))= -1:=(by unfold U.gy;rw[if_pos c]);rw[e];simp;omega
 .by_cases f:U.gF (U.bk d b)<U.gF (U.bk d a)
  .have e:U.gy (U.gF (U.bk d a)) (U.gF (U.bk d b))=1:=(by unfold U.gy;rw[if_neg c,if_pos f]);rw[e];simp;omega
  .have e:U.gy (U.gF (U.bk d a)) (U.gF (U.bk d b))=0:=(by unfold U.gy;rw[if_neg c,if_neg f]);rw[e];unfold U.gy;simp only[ne_eq,not_true_eq_false,if_false]
   split<;>(try split)<;>omega
theorem jC2 (d:DyD) (l:List Int):kx (U.yk d) l:=by
 have:=jmh (t:= .int) (jAU d) (l:=l) (fun _ _ _ _ h=>jxe h);have e:(U.jf .int fun(x:Int×Int×Unit)=>(U.jfh d x.1 x.2.1,()))=U.yk d:=by
  funext a b;exact jxf d a b
 rw[e] at this;exact this
theorem ltK (d:DyD):(U.q7 fun(x:Int×Int×Unit)=>(U.jfh d x.1 x.2.1,()))=U.yk d:=by
 funext a b;exact jxf d a b
theorem jf8:vW:=by
 rintro⟨(_|r),l,⟨⟩⟩ c f
 .cases c
 obtain⟨d,b⟩:U.jiL (U.rd r) l:=f;refine⟨⟨d,fun x g y h=>⟨rfl,b x g,b y h,trivial⟩,?_,trivial⟩,fun q a=> ?_⟩
 .have e:=ltK (U.rd r);show kx (U.q7 fun(x:Int×Int×Unit)=>(U.jfh (U.rd r) x.1 x.2.1,())) l;rw[e];exact jC2 _ l
 .have e:=ltK (U.rd r);have a:q.1.1=U.jc (U.q7 fun(x:Int×Int×Unit)=>(U.jfh (U.rd r) x.1 x.2.1,())) l:=a;rw[e] at a;obtain⟨⟨q,⟨⟩⟩,⟨⟩⟩:=q;rw[show q=_ from a];rfl
theorem jpk:(jpH 9 [(71,zi)] [] [(70,zF)] []).ok PR:=jry ⟨fun _=>jct,trivial⟩ trivial ⟨jhe,trivial⟩ trivial
theorem ya:zn PR 38 v6:=
 jBt (body:=zD Tryz.f38) (C:=jpH 9 [(71,zi)] [] [(70,zF)] []) (hk:=hkC (jpH 9 [(71,zi)] [] [(70,zF)] []) (fun _=>none) jz2 [8] [(69,20,zJ)]) jpk mixed Tryz.func38 (by kernel_rfl) (by kernel_rfl) (by kernel_rfl) (by decide)
  (fun B=>jlg jpk mixed jp0 (jvP jbi) B) (ja4.mpr jf8)
theorem jhr:jfD:=by
 rintro⟨b,(_|r),a,⟨⟩⟩ c f e d
 .cases c
 exact⟨rfl,f,d,e,rfl⟩
theorem jfV:zn PR 105 jfI:=jT jhr Tryz.func105 (kcC yZ kcN) koN
theorem jds {d:DyD} {s:List Int} {i:Nat} (h:i<s.length):U.zM d s (i+1)=U.zM d s i+(U.jna (U.bk d (nth s i))-U.gF (U.bk d (nth s i))):=by
 unfold U.zM U.jmv;rw[L.take_succ h,jD9,jDI];rfl
theorem jqU {d:DyD} (a:U.zr d=true) {s:List Int} (c:∀b∈s,U.qc d b):∀i,i<=s.length->0<=U.zM d s i/\U.zM d s i<=1440*(i:Int)
 |0,_=>⟨jEg _,jEg _⟩
 |i+1,hi=>by
  have f:=jqU a c i (by omega)
  have e:=yj a (c _ (L.mem_nth (l:=s) (i:=i) (by omega)))
  rw[jds (by omega)]
  omega
theorem jig {d:DyD} {l:List Int} {b:Int}:b∈U.jd d l↔b∈l:=(j8 l).mem_iff
theorem jih (d:DyD) (l:List Int):(U.jd d l).length=l.length:=(j8 l).length_eq
theorem jko:jhY:=by
 unfold jhY q88_7 q88_3 q88_2 q88_6 q88_4 q88_1 q88_5 q88_0;rintro⟨(_|r),p,l,⟨⟩⟩ D v q K
 .cases D
 obtain⟨⟨c1,c2,u⟩,v⟩:U.joE r:=v;have q:U.jsi (U.rd r) p:=q;obtain⟨z,A⟩:U.jiL (U.rd r) l:=K;have N:=(jK c1).2.2.1;refine⟨rfl,⟨z,A⟩,fun _=> ?_⟩;obtain⟨s,o⟩:∃s,s=U.jd (U.rd r) l:=⟨_,rfl⟩;have O:s.length<=12:=(by rw[o,jih];exact z);have k:∀b∈s,U.qc (U.rd r) b:=fun b d=>A b (by rw[o] at d;exact jig.1 d)
 have t:U.ro (some r)=r:=rfl;simp only[t,<-o];refine⟨⟨0,⟨⟨rfl,rfl,trivial⟩,trivial⟩,jDq _,fun b d=>by omega⟩,fun x w=>⟨fun h=> ?_,fun h=> ?_⟩⟩
 .have h:(x:Int)<(s.length:Int):=of_decide_eq_true h;have a:x<s.length:=(by omega);have d:=k _ (L.mem_nth a);have H:=yj u d;have M:=jqU u k x (by omega);have C:((x:Int)+1).toNat=x+1:=(by omega);have B:(s.drop (x+1)).take (s.length-(x+1))=s.drop (x+1):=jD7 (by rw[jEu];omega);have I:U.gF (U.bk (U.rd r) (nth s x))=(nth (U.jq (U.rd r)) (nth s x).toNat).2.2.1:=rfl;simp only[jDm,C,B];have n:(nth s x)<((U.y8 r).length:Int):=(by rw[v];exact d.2);have m:U.jmo (U.rd r) (U.y8 r) p s x= !(decide (vf (nth (U.y8 r) (nth s x).toNat/2^p.toNat) 1=0)||(s.drop (x+1)).any (fun c=>decide (U.kP (U.rd r) (nth s x) c<0))):=rfl;have j:((s.drop (x+1)).any (U.jb fun(y:Int×Unit)=>(decide (U.kP (U.rd r) (nth s x) y.fst<0),())))=(s.drop (x+1)).any (fun c=>decide (U.kP (U.rd r) (nth s x) c<0)):=rfl;unfold U.jsi at q;refine⟨by omega,h,rfl,d.1,d.2,rfl,d.1,d.2,?_,?_,rfl,d.1,n,q.1,by omega,fun _=>L.in64 (by omega) (by omega),fun _=>by omega,fun _=>by omega,fun _=>by omega,fun _ g J=>⟨rfl,⟨c1,c2,u⟩,k g (jEw J),d,trivial⟩,fun f=> ?_,fun f=>⟨L.in64 (by omega) (by omega),x+1,⟨⟨by simp,(jds a).symm,trivial⟩,trivial⟩,⟨by omega,fun b G=> ?_⟩,by omega⟩⟩
  .show jA (U.jna (U.bk (U.rd r) (nth s x))-U.gF (U.bk (U.rd r) (nth s x)));exact L.in64 (by omega) (by omega)
  .show jA (U.zM (U.rd r) s x+(U.jna (U.bk (U.rd r) (nth s x))-U.gF (U.bk (U.rd r) (nth s x))));exact L.in64 (by omega) (by omega)
  .have f:(decide (vf (nth (U.y8 r) (nth s x).toNat/2^p.toNat) 1=0)||((s.drop (x+1)).any (U.jb fun(y:Int×Unit)=>(decide (U.kP (U.rd r) (nth s x) y.fst<0),()))))=true:=f;have f:U.jmo (U.rd r) (U.y8 r) p s x=false:=(by rw[m,<-j,f];rfl);have:U.jaV r p l=false:=by
    unfold U.jaV U.jjK U.jAZ;rw[<-o];have:(List.range s.length).all (U.jmo (U.rd r) (U.y8 r) p s)=false:=by
     rw[jEi];exact⟨x,by simpa using a,by rw[f];simp⟩
    rw[this];rfl
   rw[this]
  .by_cases e:b=x
   .subst e;have f:(decide (vf (nth (U.y8 r) (nth s b).toNat/2^p.toNat) 1=0)||((s.drop (b+1)).any (U.jb fun(y:Int×Unit)=>(decide (U.kP (U.rd r) (nth s b) y.fst<0),()))))=false:=f;rw[m,<-j,f];rfl
   .exact w.2 b (by omega)
 .have h:¬(x:Int)<(s.length:Int):=of_decide_eq_false h;have a:x=s.length:=(by have:=w.1;omega);refine⟨rfl,?_⟩;have E:(List.range s.length).all (U.jmo (U.rd r) (U.y8 r) p s)=true:=by
   rw[jDO];intro i hi;exact w.2 i (by rw[a];simpa using hi)
  have F:U.zM (U.rd r) s x=U.jmv (U.rd r) s:=by
   unfold U.zM;rw[a,jD7 (jDf _)]
  rw[F];have:U.jaV r p l=decide (U.jmv (U.rd r) s<=U.jtM (U.rd r)):=by
   unfold U.jaV U.jjK U.jAZ;rw[<-o,E,Bool.true_and]
  rw[this];rfl
theorem jbq:zn PR 76 jbd:=wO jjR jko Tryz.func76 (kcC ya (kcC jfV (kcC qb kcN))) koN
theorem jh3 (on:List (List Int)) (b:Int) (n:Nat):U.qe on b (n+1)=if(nth on n).any (fun x=>decide (x=b))=true then bor (U.qe on b n) (1*2^n) else U.qe on b n:=by
 unfold U.qe;rw[jDW,jDI];rfl
theorem gZ (n:Nat):(1:Int)*2^n=2^n:=Int.one_mul _
theorem jjg:jgS:=by
 unfold jgS q89_1 q89_0;rintro⟨(_|r),b,⟨⟩⟩ g d
 .cases g
 have d:(U.zP r).length<=60:=d;have c:U.ro (some r)=r:=rfl;refine⟨rfl,fun _=>⟨⟨0,⟨⟨rfl,rfl,trivial⟩,trivial⟩,jDq _⟩,fun x f=>⟨fun h=> ?_,fun h=> ?_⟩⟩⟩
 .have h:(x:Int)<((U.zP r).length:Int):=of_decide_eq_true h;have e:=jh3 (U.zP r) b x;have i:BT.Set' ((2:Int)^x):=BT.two_set (by omega);unfold BT.Set' at i;simp only[jDm,c];refine⟨by omega,h,fun a=>⟨by omega,by omega,by rw[gZ];exact L.in64 (by omega) (by omega),L.in64 (by omega) (by omega),x+1,⟨⟨by simp,?_,trivial⟩,trivial⟩,by omega,by omega⟩,fun a=>⟨L.in64 (by omega) (by omega),x+1,⟨⟨?_,by simp,trivial⟩,trivial⟩,by omega,by omega⟩⟩
  .rw[e];have a:((nth (U.zP r) x).any fun y=>decide (y=b))=true:=a;rw[if_pos a]
  .rw[e];have a:((nth (U.zP r) x).any fun y=>decide (y=b))=false:=a;rw[if_neg (by rw[a];simp)]
 .have h:¬(x:Int)<((U.zP r).length:Int):=of_decide_eq_false h;have f:x<=(U.zP r).length:=f;rw[show x=(U.zP r).length by omega];rfl
theorem jhg:zn PR 35 jg0:=wO jhv jjg Tryz.func35 (kcC v8 kcN) koN
theorem jjh:jgT:=by
 unfold jgT q90_0;rintro⟨(_|r),b,t,⟨⟩⟩ c a
 .cases c
 have a:U.qc (U.rd r) b:=a;exact⟨rfl,rfl,a.1,a.2,rfl⟩
theorem jhh:zn PR 41 jg1:=jT jjh Tryz.func41 (kcC jqL kcN) koN
theorem jlk (l:List PeD) (t:Int) (n:Nat):U.jaF l t (n+1)=U.jaF l t n+vf (t/2^n) 1*U.fe (nth l n):=by
 unfold U.jaF;rw[jDW,jDI];rfl
theorem jsB {c:CrD} (h:U.ju c=true) {i:Nat} (hi:i<(U.jl c).length):0<=U.fe (nth (U.jl c) i)/\U.fe (nth (U.jl c) i)<=1000:=by
 have:=(jK h).2.2.2.2.1 _ (L.mem_nth hi);unfold U.y4 at this;simp only[jDg,decide_eq_true_eq] at this;obtain⟨⟨_,_,_,_,_,_,a,b⟩,_⟩:=this;exact⟨a,b⟩
theorem jxo {z f:Int} (a:0<=f/\f<=1000):0<=vf z 1*f/\vf z 1*f<=1000:=by
 rcases jsN z with h|h
 .rw[h,Int.zero_mul];omega
 .rw[h,Int.one_mul];omega
theorem jmS {c:CrD} (h:U.ju c=true) (t:Int):∀i,i<=(U.jl c).length->0<=U.jaF (U.jl c) t i/\U.jaF (U.jl c) t i<=1000*(i:Int)
 |0,_=>⟨jEg _,jEg _⟩
 |i+1,hi=>by
  have a:=jmS h t i (by omega)
  have:=jxo (z:=t/2^i) (jsB h (i:=i) (by omega))
  rw[jlk]
  omega
theorem jkn:jhX:=by
 unfold jhX q91_1 q91_0;rintro⟨(_|r),t,⟨⟩⟩ d a f g
 .cases d
 have a:U.ju (U.jj (U.rd r))=true:=a;have l:=(jK a).2.2.1;have b:U.ro (some r)=r:=rfl;refine⟨rfl,fun _=>⟨⟨0,⟨⟨rfl,rfl,trivial⟩,trivial⟩,jDq _⟩,fun x c=>⟨fun h=> ?_,fun h=> ?_⟩⟩⟩
 .have h:(x:Int)<((U.jl (U.jj (U.rd r))).length:Int):=of_decide_eq_true h;have e:=jlk (U.jl (U.jj (U.rd r))) t x;have j:=jmS a t x (by omega);have k:=jxo (z:=t/2^x) (jsB a (i:=x) (by omega));simp only[jDm,b];refine⟨by omega,h,by omega,by omega,L.in64 (by show _<=vf (t/2^x) 1*U.fe (nth (U.jl (U.jj (U.rd r))) x);omega) (by show vf (t/2^x) 1*U.fe (nth (U.jl (U.jj (U.rd r))) x)<=_;omega),L.in64 (by show _<=U.jaF _ t x+vf (t/2^x) 1*U.fe (nth (U.jl (U.jj (U.rd r))) x);omega) (by show U.jaF _ t x+vf (t/2^x) 1*U.fe (nth (U.jl (U.jj (U.rd r))) x)<=_;omega),L.in64 (by omega) (by omega),x+1,⟨⟨by simp,e.symm,trivial⟩,trivial⟩,by omega,by omega⟩
 .have h:¬(x:Int)<((U.jl (U.jj (U.rd r))).length:Int):=of_decide_eq_false h;have c:x<=(U.jl (U.jj (U.rd r))).length:=c;rw[show x=(U.jl (U.jj (U.rd r))).length by omega];rfl
theorem jiH:zn PR 49 jbc:=wO jjQ jkn Tryz.func49 kcN koN
theorem jf9:jd8:=by
 unfold jd8 q92_0;rintro⟨(_|r),b,⟨⟩⟩ a c
 .cases a
 have d:(r.1.1.2.1.length)<=8:=c;exact⟨rfl,fun _=>⟨L.in64 (by simp only[jH];omega) (by simp only[jH];omega),rfl⟩⟩
theorem jeE:zn PR 37 jej:=jT jf9 Tryz.func37 (kcC jac kcN) koN
end Go.X
namespace Go.X
theorem jdI {l:List ShD} {s:ShD}:s∈U.jQ l↔s∈l:=by
 have e:U.jQ l=U.qS (fun a b=>decide (a=b)) (U.jc (U.jf tSh fun x=>(U.yg x.1 x.2.1,())) l):=by
  unfold U.jQ;congr 1
 rw[e,L.comp_mem];exact(j8 l).mem_iff
theorem jpg (l:List ShD):(U.jQ l).Nodup:=by
 have e:U.jQ l=U.qS (fun a b=>decide (a=b)) (U.jc (U.jf tSh fun x=>(U.yg x.1 x.2.1,())) l):=by
  unfold U.jQ;congr 1
 rw[e];refine L.asc_nodup (lt:=U.jf tSh fun x=>(U.yg x.1 x.2.1,())) (fun x=> ?_) (L.comp_asc (jyd _) (yK (jyd l)));exact(jyd [x]).irrefl x (List.mem_singleton.2 rfl)
theorem jzI (l:List ShD):∀i,i<=l.length->∀k,kE 0 (zx .int k (U.kI [] l i))=(((l.take i).countP (fun s=>decide (U.wy s=k)):Nat):Int)
 |0,_,k=>rfl
 |i+1,hi,k=>by
  have a:=jzI l i (by omega)
  rw[gw (by omega),L.take_succ (by omega),jEB]
  unfold U.jcd
  by_cases e:k=U.wy (nth l i)
  .rw[e]
   rw[M.mfind_mput (kt:= .int) (U.wy (nth l i)) (kE 0 (zx .int (U.wy (nth l i)) (U.kI [] l i))+1) (U.kI [] l i)]
   show kE 0 (zx .int (U.wy (nth l i)) (U.kI [] l i))+1=_
   rw[a]
   simp
  .rw[M.mfind_mput_ne (kt:= .int) (k:=U.wy (nth l i)) (k':=k) e (kE 0 (zx .int (U.wy (nth l i)) (U.kI [] l i))+1) (U.kI [] l i),a]
   have:decide (U.wy (nth l i)=k)=false:=decide_eq_false fun h=>e h.symm
   simp[this]
theorem jsS {l:List ShD} {i:Nat} (h:i<l.length):U.jfq [] l i=(l.take i).any (fun s=>decide (U.wy s=U.wy (nth l i))):=by
 unfold U.jfq U.jsT;rw[<-gw h,jzI l (i+1) (by omega),L.take_succ h,jEB];rw[jDQ,decide_eq_true_eq,jEc];have b:List.countP (fun s=>decide (U.wy s=U.wy (nth l i))) [nth l i]=1:=(by simp);rw[b];constructor
 .intro a;have:0<(l.take i).countP (fun s=>decide (U.wy s=U.wy (nth l i))):=(by omega);rw[List.countP_pos_iff] at this;exact this
 .intro a;have:0<(l.take i).countP (fun s=>decide (U.wy s=U.wy (nth l i))):=List.countP_pos_iff.2 a;omega
theorem jAO (l:List ShD):U.juH l=false↔(l.map U.wy).Nodup:=by
 have g:U.juH l=false↔∀i,i<l.length->U.jfq [] l i=false:=by
  unfold U.juH;constructor
  .intro h i hi;cases k:U.jfq [] l i with
   |false=>rfl
   |true=>
    exfalso;have b:(List.range l.length).findIdx? (U.jfq [] l)≠none:=by
     intro f;rw[List.findIdx?_eq_none_iff] at f;have:=f i (jDy.2 hi);rw[k] at this;cases this
    unfold U.jbS U.gD at h;cases d:(List.range l.length).findIdx? (U.jfq [] l) with
    |none=>exact b d
    |some j=>
     rw[d] at h;have h:=of_decide_eq_false h;exact h (jDK j)
  .intro h;rw[(jlA h).1];rfl
 rw[g,List.nodup_iff_pairwise_ne,List.pairwise_map,jD6];constructor
 .intro h i j hi a m e;have:=h j a;rw[jsS a,jD1] at this;have c:=this (l[i]) (by rw[jDY];exact⟨i,by omega,rfl⟩);rw[L.nth_lt a] at c;simp[e] at c
 .intro h i hi;rw[jsS hi,jD1];intro s b;rw[jDY] at b;obtain⟨j,a,rfl⟩:=b;have:=h j i (by omega) hi (by omega);rw[L.nth_lt hi];simpa using this
theorem jwZ (l:List ShD):U.juH (U.jQ l)=false↔∀a∈l,∀b∈l,U.wy a=U.wy b->a=b:=by
 rw[jAO];constructor
 .intro h a c b d e;exact L.nodup_inj h (jdI.2 c) (jdI.2 d) e
 .intro h;rw[List.nodup_iff_pairwise_ne,List.pairwise_map];exact(List.Pairwise.imp_of_mem (fun{a b} c d f e=>f (h a (jdI.1 c) b (jdI.1 d) e)) (jpg l))
theorem jpq (l:List ShD):U.qZ l=false↔∀a∈l,∀b∈l,U.wy a=U.wy b->a=b:=by
 have k:U.qZ l=false↔∀i,i<l.length->∀j,j<i->U.jjH (nth l i) (nth l j)=false:=by
  unfold U.qZ U.wR U.jhK;rw[jD1];constructor
  .intro h i hi j d;have:=h i (jDy.2 hi);rw[Bool.not_eq_true,jD1] at this;have:=this (nth l j) (by rw[jDY];exact⟨j,by omega,(L.nth_lt (by omega)).symm⟩);simpa using this
  .intro h i hi;have hi:=jDy.1 hi;rw[Bool.not_eq_true,jD1];intro s g;rw[jDY] at g;obtain⟨j,d,rfl⟩:=g;have:=h i hi j (by omega);rw[L.nth_lt (l:=l) (i:=j) (by omega)] at this;simpa using this
 rw[k];have f:∀a b:ShD,U.jjH a b=false↔(U.wy a=U.wy b->a=b):=by
  intro a b;unfold U.jjH;rw[Bool.and_eq_false_iff];simp only[decide_eq_false_iff_not,jD5,decide_eq_true_eq];constructor
  .rintro(h|h) e
   .exact absurd e h
   .exact h
  .intro h;by_cases e:U.wy a=U.wy b
   .exact .inr (h e)
   .exact .inl e
 constructor
 .intro h a m b n e;obtain⟨i,hi,rfl⟩:=L.mem_iff.1 m;obtain⟨j,d,rfl⟩:=L.mem_iff.1 n;rcases Nat.lt_trichotomy i j with c|rfl|c
  .exact((f _ _).1 (h j d i c) e.symm).symm
  .rfl
  .exact(f _ _).1 (h i hi j c) e
 .intro h i hi j d;exact(f _ _).2 (h _ (L.mem_nth hi) _ (L.mem_nth (by omega)))
theorem jw0 (l:List ShD):U.juH (U.jQ l)=U.qZ l:=by
 have:=(jwZ l).trans (jpq l).symm;cases a:U.juH (U.jQ l) with
 |false=>exact(this.1 a).symm
 |true=>
  cases b:U.qZ l with
  |false=>rw[this.2 b] at a;cases a
  |true=>rfl
theorem jgL (d:DyD):U.jB d=U.gE d:=by
 unfold U.jB U.jjI U.gE;rw[jw0]
 split
 .rfl
 .split
  .rfl
  .rw[if_neg (by simp)]
end Go.X
namespace Go.X
open Go.Proofs
abbrev tSt:Ty:= .st [.int,.int]
abbrev jCh:Sh:= .box 82 [.dat .int,.dat (.slice tPe),.dat (.slice tLw),.dat (.slice (.slice tSp)),.dat (.slice tBk),.dat .int,.dat .int,.dat (.slice tSh),.row 3 .int .yes,.row 34 (.slice .int) .no,.row 3 .int .unk]
namespace U
def zL:List Int:=[]
def zz (b:jCh.D):RoD:=(((b.1,b.2.1,b.2.2.1,()),b.2.2.2.1,b.2.2.2.2.1,b.2.2.2.2.2.1,b.2.2.2.2.2.2.1,b.2.2.2.2.2.2.2.1,()),b.2.2.2.2.2.2.2.2.1,b.2.2.2.2.2.2.2.2.2.1,b.2.2.2.2.2.2.2.2.2.2.1,())
def wk (b:jCh.D) (x:List (List Int)×List Int):jCh.D:=(b.1,b.2.1,b.2.2.1,b.2.2.2.1,b.2.2.2.2.1,b.2.2.2.2.2.1,b.2.2.2.2.2.2.1,b.2.2.2.2.2.2.2.1,b.2.2.2.2.2.2.2.2.1,x.1,x.2,())
def yP (s:ShD):Int×Int×Unit:=(jil s,vZ s,())
def zo (l:List ShD) (n:Nat):List ((Int×Int×Unit)×ShD):=(l.take n).foldl (fun m s=>jdr tSt (yP s) s m) []
def kd (m:List ((Int×Int×Unit)×ShD)) (s:ShD):Bool:= !(!decide (kE (Ty.dflt tSh) (zx tSt (yP s) m)=s)|| !decide (jxZ s=1))
def jnA (d:DyD) (zZ:List Int) (m:List ((Int×Int×Unit)×ShD)) (x:List (List Int)×List Int) (s:ShD):List (List Int)×List Int:=
 if kd m s=true then(if jjK d zZ (vZ s) (nth x.1 (vZ s).toNat++[jil s])=true then(x.1.set (vZ s).toNat (nth x.1 (vZ s).toNat++[jil s]),x.2) else(x.1,x.2++[wy s])) else x
def jC9 (l:List ShD):List ShD:=jc (jf tSh fun x=>(jp x.1 x.2.1,())) l
def jN (d:DyD):List ShD:=jC9 (jQ (kg d))
def zW (r:RoD) (l:List ShD) (n:Nat):List (List Int)×List Int:=(l.take n).foldl (jnA (rd r) (y8 r) (zo l l.length)) (zP r,jCi r)
def jR (r:RoD):List (List Int)×List Int:=((zW r (jN (rd r)) (jN (rd r)).length).1,jeo (zW r (jN (rd r)) (jN (rd r)).length).2)
def jyp (l:List (List Int)):Prop:=∀x∈l,x=zL
def jtE (r:RoD):Prop:=(jB (rd r)=0/\(y8 r).length=(jq (rd r)).length)/\((zP r).length=(jl (jj (rd r))).length/\jyp (zP r))/\jCi r=zL
def vX (r:RoD) (l:List ShD) (n:Nat) (x:List (List Int)×List Int):Prop:=x.1.length=(jl (jj (rd r))).length/\x.2.length<=n/\∀p:Nat,(nth x.1 p).Nodup/\∀b∈nth x.1 p,qc (rd r) b/\∃i:Nat,i<n/\yP (nth l i)=(b,(p:Int),())/\kE (Ty.dflt tSh) (zx tSt (yP (nth l i)) (zo l l.length))=nth l i
end U
def bx (σ:St) (o:Nat):List SV:=match σ.obj o with|some (.box _ _ cs)=>cs|_=>[]
def gb (t:Ty) (σ:St) (o:Nat):t.Data:=match kT σ t (bx σ o) with|some (x,_)=>x|none=>t.dflt
abbrev jj7:zH:=jve 3
def jfN:zH:=⟨[.own jCh true],[],fun d=>[U.jtE (U.zz d.1)],fun d=>((),(U.wk d.1 (U.jR (U.zz d.1)),()))⟩
def jgk:Ann:=fun r=>match r with
 |4=>some fun σ=>{X:=Nat,sl:=fun i=>[(20,.dat .int (i:Int))],ob:=fun i=>[(9,some (.map false tSt tSh (U.zo (gr tSh σ 3) i)))],inv:=fun i=>i<=(gr tSh σ 3).length,mu:=fun i=>(gr tSh σ 3).length-i}
 |9=>some fun σ=>{X:=Nat,sl:=fun i=>[(34,.dat .int (i:Int))],ob:=fun i=>[(400009,some (.row 34 (.slice .int) false .no (U.zW (gb tRo σ 1000000) (gr tSh σ 3) i).1)),(400010,some (.row 3 .int false .unk (U.zW (gb tRo σ 1000000) (gr tSh σ 3) i).2))],inv:=fun i=>i<=(gr tSh σ 3).length/\U.vX (gb tRo σ 1000000) (gr tSh σ 3) i (U.zW (gb tRo σ 1000000) (gr tSh σ 3) i),mu:=fun i=>(gr tSh σ 3).length-i}
 |_=>none
abbrev q93_2 (d:(Int×List PeD×List LwD×List (List (Int×Int×Unit))×List BkD×Int×Int×List ShD×List Int×List (List Int)×List Int×Unit)×Unit):=(U.jQ d.1.2.2.2.2.2.2.2.1)
abbrev q93_3 (d:(Int×List PeD×List LwD×List (List (Int×Int×Unit))×List BkD×Int×Int×List ShD×List Int×List (List Int)×List Int×Unit)×Unit):=((d.1.1,d.1.2.1,d.1.2.2.1,()),d.1.2.2.2.1,d.1.2.2.2.2.1,d.1.2.2.2.2.2.1,d.1.2.2.2.2.2.2.1,d.1.2.2.2.2.2.2.2.1,())
abbrev q93_1 (d:(Int×List PeD×List LwD×List (List (Int×Int×Unit))×List BkD×Int×Int×List ShD×List Int×List (List Int)×List Int×Unit)×Unit):=((q93_3 d),d.1.2.2.2.2.2.2.2.2)
abbrev q93_4:=(Ty.int.pair (Ty.int.pair Ty.unit))
abbrev q93_0:=(Ty.int.pair (Ty.int.pair (Ty.int.pair q93_4)))
abbrev q93_5:=((0:Int),(0:Int),(0:Int),(0:Int),(0:Int),())
def jfB:Prop:=∀(d:(Int×List PeD×List LwD×List (List (Int×Int×Unit))×List BkD×Int×Int×List ShD×List Int×List (List Int)×List Int×Unit)×Unit),U.jtE (U.zz d.1)->d.1.2.2.2.2.2.2.2.1.length<=100000/\(∀(u0:ShD),u0∈U.jQ d.1.2.2.2.2.2.2.2.1->∀(y:ShD),y∈U.jQ d.1.2.2.2.2.2.2.2.1->U.jw [])/\kx (U.jf q93_0 fun(z0:ShD×ShD×Unit)=>(U.jp z0.1 z0.2.1,())) (q93_2 d)/\((U.jc (U.jf q93_0 fun(z1:ShD×ShD×Unit)=>(U.jp z1.1 z1.2.1,())) (q93_2 d)).length<4611686018427387904->(∃(x:Nat),((0=(x:Int)/\True)/\[]=U.zo (U.jc (U.jf q93_0 fun(z2:ShD×ShD×Unit)=>(U.jp z2.1 z2.2.1,())) (q93_2 d)) x/\True)/\x<=(U.jc (U.jf q93_0 fun(z3:ShD×ShD×Unit)=>(U.jp z3.1 z3.2.1,())) (q93_2 d)).length)/\∀(x:Nat),x<=(U.jc (U.jf q93_0 fun(z4:ShD×ShD×Unit)=>(U.jp z4.1 z4.2.1,())) (q93_2 d)).length->(decide ((x:Int)<(↑(U.jc (U.jf q93_0 fun(z5:ShD×ShD×Unit)=>(U.jp z5.1 z5.2.1,())) (q93_2 d)).length:Int))=true->0<=(x:Int)/\(x:Int)<(↑(U.jc (U.jf q93_0 fun(z6:ShD×ShD×Unit)=>(U.jp z6.1 z6.2.1,())) (q93_2 d)).length:Int)/\jA ((x:Int)+1)/\∃(b:Nat),(((x:Int)+1=(b:Int)/\True)/\jdr q93_4 (nth (U.jc (U.jf q93_0 fun(z7:ShD×ShD×Unit)=>(U.jp z7.1 z7.2.1,())) (q93_2 d)) (x:Int).toNat).2.2.2 (nth (U.jc (U.jf q93_0 fun(z8:ShD×ShD×Unit)=>(U.jp z8.1 z8.2.1,())) (q93_2 d)) (x:Int).toNat) (U.zo (U.jc (U.jf q93_0 fun(z9:ShD×ShD×Unit)=>(U.jp z9.1 z9.2.1,())) (q93_2 d)) x)=U.zo (U.jc (U.jf q93_0 fun(v:ShD×ShD×Unit)=>(U.jp v.1 v.2.1,())) (q93_2 d)) b/\True)/\b<=(U.jc (U.jf q93_0 fun(w:ShD×ShD×Unit)=>(U.jp w.1 w.2.1,())) (q93_2 d)).length/\(U.jc (U.jf q93_0 fun(z:ShD×ShD×Unit)=>(U.jp z.1 z.2.1,())) (q93_2 d)).length-b<(U.jc (U.jf q93_0 fun(A:ShD×ShD×Unit)=>(U.jp A.1 A.2.1,())) (q93_2 d)).length-x)/\(decide ((x:Int)<(↑(U.jc (U.jf q93_0 fun(B:ShD×ShD×Unit)=>(U.jp B.1 B.2.1,())) (q93_2 d)).length:Int))=false->(U.jc (U.jf q93_0 fun(C:ShD×ShD×Unit)=>(U.jp C.1 C.2.1,())) (q93_2 d)).length<4611686018427387904->(∃(x:Nat),((0=(x:Int)/\True)/\d.1.2.2.2.2.2.2.2.2.2.1=(U.zW (q93_1 d) (U.jc (U.jf q93_0 fun(D:ShD×ShD×Unit)=>(U.jp D.1 D.2.1,())) (q93_2 d)) x).1/\d.1.2.2.2.2.2.2.2.2.2.2.1=(U.zW (q93_1 d) (U.jc (U.jf q93_0 fun(E:ShD×ShD×Unit)=>(U.jp E.1 E.2.1,())) (q93_2 d)) x).2/\True)/\x<=(U.jc (U.jf q93_0 fun(F:ShD×ShD×Unit)=>(U.jp F.1 F.2.1,())) (q93_2 d)).length/\U.vX (q93_1 d) (U.jc (U.jf q93_0 fun(G:ShD×ShD×Unit)=>(U.jp G.1 G.2.1,())) (q93_2 d)) x (U.zW (q93_1 d) (U.jc (U.jf q93_0 fun(H:ShD×ShD×Unit)=>(U.jp H.1 H.2.1,())) (q93_2 d)) x))/\∀(a:Nat),a<=(U.jc (U.jf q93_0 fun(I:ShD×ShD×Unit)=>(U.jp I.1 I.2.1,())) (q93_2 d)).length/\U.vX (q93_1 d) (U.jc (U.jf q93_0 fun(J:ShD×ShD×Unit)=>(U.jp J.1 J.2.1,())) (q93_2 d)) a (U.zW (q93_1 d) (U.jc (U.jf q93_0 fun(K:ShD×ShD×Unit)=>(U.jp K.1 K.2.1,())) (q93_2 d)) a)->(decide ((a:Int)<(↑(U.jc (U.jf q93_0 fun(L:ShD×ShD×Unit)=>(U.jp L.1 L.2.1,())) (q93_2 d)).length:Int))=true->0<=(a:Int)/\(a:Int)<(↑(U.jc (U.jf q93_0 fun(M:ShD×ShD×Unit)=>(U.jp M.1 M.2.1,())) (q93_2 d)).length:Int)/\((!decide (kE q93_5 (zx q93_4 (nth (U.jc (U.jf q93_0 fun(N:ShD×ShD×Unit)=>(U.jp N.1 N.2.1,())) (q93_2 d)) (a:Int).toNat).2.2.2 (U.zo (U.jc (U.jf q93_0 fun(O:ShD×ShD×Unit)=>(U.jp O.1 O.2.1,())) (q93_2 d)) x))=nth (U.jc (U.jf q93_0 fun(P:ShD×ShD×Unit)=>(U.jp P.1 P.2.1,())) (q93_2 d)) (a:Int).toNat)||decide ((nth (U.jc (U.jf q93_0 fun(Q:ShD×ShD×Unit)=>(U.jp Q.1 Q.2.1,())) (q93_2 d)) (a:Int).toNat).2.2.1≠1))=true->jA ((a:Int)+1)/\∃(b:Nat),(((a:Int)+1=(b:Int)/\True)/\(U.zW (q93_1 d) (U.jc (U.jf q93_0 fun(R:ShD×ShD×Unit)=>(U.jp R.1 R.2.1,())) (q93_2 d)) a).2=(U.zW (q93_1 d) (U.jc (U.jf q93_0 fun(S:ShD×ShD×Unit)=>(U.jp S.1 S.2.1,())) (q93_2 d)) b).2/\(U.zW (q93_1 d) (U.jc (U.jf q93_0 fun(T:ShD×ShD×Unit)=>(U.jp T.1 T.2.1,())) (q93_2 d)) a).1=(U.zW (q93_1 d) (U.jc (U.jf q93_0 fun(V:ShD×ShD×Unit)=>(U.jp V.1 V.2.1,())) (q93_2 d)) b).1/\True)/\(b<=(U.jc (U.jf q93_0 fun(W:ShD×ShD×Unit)=>(U.jp W.1 W.2.1,())) (q93_2 d)).length/\U.vX (q93_1 d) (U.jc (U.jf q93_0 fun(X:ShD×ShD×Unit)=>(U.jp X.1 X.2.1,())) (q93_2 d)) b (U.zW (q93_1 d) (U.jc (U.jf q93_0 fun(Y:ShD×ShD×Unit)=>(U.jp Y.1 Y.2.1,())) (q93_2 d)) b))/\(U.jc (U.jf q93_0 fun(Z:ShD×ShD×Unit)=>(U.jp Z.1 Z.2.1,())) (q93_2 d)).length-b<(U.jc (U.jf q93_0 fun(z38:ShD×ShD×Unit)=>(U.jp z38.1 z38.2.1,())) (q93_2 d)).length-a)/\((!decide (kE q93_5 (zx q93_4 (nth (U.jc (U.jf q93_0 fun(z39:ShD×ShD×Unit)=>(U.jp z39.1 z39.2.1,())) (q93_2 d)) (a:Int).toNat).2.2.2 (U.zo (U.jc (U.jf q93_0 fun(z40:ShD×ShD×Unit)=>(U.jp z40.1 z40.2.1,())) (q93_2 d)) x))=nth (U.jc (U.jf q93_0 fun(z41:ShD×ShD×Unit)=>(U.jp z41.1 z41.2.1,())) (q93_2 d)) (a:Int).toNat)||decide ((nth (U.jc (U.jf q93_0 fun(z42:ShD×ShD×Unit)=>(U.jp z42.1 z42.2.1,())) (q93_2 d)) (a:Int).toNat).2.2.1≠1))=false->(0:Int)<=(nth (U.jc (U.jf q93_0 fun(z43:ShD×ShD×Unit)=>(U.jp z43.1 z43.2.1,())) (q93_2 d)) (a:Int).toNat).2.2.2.2.1/\(nth (U.jc (U.jf q93_0 fun(z44:ShD×ShD×Unit)=>(U.jp z44.1 z44.2.1,())) (q93_2 d)) (a:Int).toNat).2.2.2.2.1<(↑(U.zW (q93_1 d) (U.jc (U.jf q93_0 fun(z45:ShD×ShD×Unit)=>(U.jp z45.1 z45.2.1,())) (q93_2 d)) a).1.length:Int)/\(0:Int)<=(nth (U.jc (U.jf q93_0 fun(z46:ShD×ShD×Unit)=>(U.jp z46.1 z46.2.1,())) (q93_2 d)) (a:Int).toNat).2.2.2.2.1/\(nth (U.jc (U.jf q93_0 fun(z47:ShD×ShD×Unit)=>(U.jp z47.1 z47.2.1,())) (q93_2 d)) (a:Int).toNat).2.2.2.2.1<(↑(U.zW (q93_1 d) (U.jc (U.jf q93_0 fun(z48:ShD×ShD×Unit)=>(U.jp z48.1 z48.2.1,())) (q93_2 d)) a).1.length:Int)/\(0:Int)<=(nth (U.jc (U.jf q93_0 fun(z49:ShD×ShD×Unit)=>(U.jp z49.1 z49.2.1,())) (q93_2 d)) (a:Int).toNat).2.2.2.2.1/\(nth (U.jc (U.jf q93_0 fun(z50:ShD×ShD×Unit)=>(U.jp z50.1 z50.2.1,())) (q93_2 d)) (a:Int).toNat).2.2.2.2.1<(↑(U.zW (q93_1 d) (U.jc (U.jf q93_0 fun(z51:ShD×ShD×Unit)=>(U.jp z51.1 z51.2.1,())) (q93_2 d)) a).1.length:Int)/\(↑(nth (U.zW (q93_1 d) (U.jc (U.jf q93_0 fun(z52:ShD×ShD×Unit)=>(U.jp z52.1 z52.2.1,())) (q93_2 d)) a).1 (nth (U.jc (U.jf q93_0 fun(z53:ShD×ShD×Unit)=>(U.jp z53.1 z53.2.1,())) (q93_2 d)) (a:Int).toNat).2.2.2.2.1.toNat).length:Int)=(↑(nth (U.zW (q93_1 d) (U.jc (U.jf q93_0 fun(z54:ShD×ShD×Unit)=>(U.jp z54.1 z54.2.1,())) (q93_2 d)) a).1 (nth (U.jc (U.jf q93_0 fun(z55:ShD×ShD×Unit)=>(U.jp z55.1 z55.2.1,())) (q93_2 d)) (a:Int).toNat).2.2.2.2.1.toNat).length:Int)/\(↑(nth (U.zW (q93_1 d) (U.jc (U.jf q93_0 fun(z56:ShD×ShD×Unit)=>(U.jp z56.1 z56.2.1,())) (q93_2 d)) a).1 (nth (U.jc (U.jf q93_0 fun(z57:ShD×ShD×Unit)=>(U.jp z57.1 z57.2.1,())) (q93_2 d)) (a:Int).toNat).2.2.2.2.1.toNat).length:Int)=(↑(nth (U.zW (q93_1 d) (U.jc (U.jf q93_0 fun(z58:ShD×ShD×Unit)=>(U.jp z58.1 z58.2.1,())) (q93_2 d)) a).1 (nth (U.jc (U.jf q93_0 fun(z59:ShD×ShD×Unit)=>(U.jp z59.1 z59.2.1,())) (q93_2 d)) (a:Int).toNat).2.2.2.2.1.toNat).length:Int)/\((nth (U.zW (q93_1 d) (U.jc (U.jf q93_0 fun(z60:ShD×ShD×Unit)=>(U.jp z60.1 z60.2.1,())) (q93_2 d)) a).1 (nth (U.jc (U.jf q93_0 fun(z61:ShD×ShD×Unit)=>(U.jp z61.1 z61.2.1,())) (q93_2 d)) (a:Int).toNat).2.2.2.2.1.toNat).length+[(nth (U.jc (U.jf q93_0 fun(z62:ShD×ShD×Unit)=>(U.jp z62.1 z62.2.1,())) (q93_2 d)) (a:Int).toNat).2.2.2.1].length)*8<=140737488355328/\(some ((q93_3 d),d.1.2.2.2.2.2.2.2.2.1,(U.zW (q93_1 d) (U.jc (U.jf q93_0 fun(z63:ShD×ShD×Unit)=>(U.jp z63.1 z63.2.1,())) (q93_2 d)) a).1,(U.zW (q93_1 d) (U.jc (U.jf q93_0 fun(z64:ShD×ShD×Unit)=>(U.jp z64.1 z64.2.1,())) (q93_2 d)) a).2,())).isSome=true/\U.joE (U.ro (some ((q93_3 d),d.1.2.2.2.2.2.2.2.2.1,(U.zW (q93_1 d) (U.jc (U.jf q93_0 fun(z65:ShD×ShD×Unit)=>(U.jp z65.1 z65.2.1,())) (q93_2 d)) a).1,(U.zW (q93_1 d) (U.jc (U.jf q93_0 fun(z66:ShD×ShD×Unit)=>(U.jp z66.1 z66.2.1,())) (q93_2 d)) a).2,())))/\U.jsi (U.rd (U.ro (some ((q93_3 d),d.1.2.2.2.2.2.2.2.2.1,(U.zW (q93_1 d) (U.jc (U.jf q93_0 fun(z67:ShD×ShD×Unit)=>(U.jp z67.1 z67.2.1,())) (q93_2 d)) a).1,(U.zW (q93_1 d) (U.jc (U.jf q93_0 fun(z68:ShD×ShD×Unit)=>(U.jp z68.1 z68.2.1,())) (q93_2 d)) a).2,())))) (nth (U.jc (U.jf q93_0 fun(z69:ShD×ShD×Unit)=>(U.jp z69.1 z69.2.1,())) (q93_2 d)) (a:Int).toNat).2.2.2.2.1/\U.jiL (U.rd (U.ro (some ((q93_3 d),d.1.2.2.2.2.2.2.2.2.1,(U.zW (q93_1 d) (U.jc (U.jf q93_0 fun(z70:ShD×ShD×Unit)=>(U.jp z70.1 z70.2.1,())) (q93_2 d)) a).1,(U.zW (q93_1 d) (U.jc (U.jf q93_0 fun(z71:ShD×ShD×Unit)=>(U.jp z71.1 z71.2.1,())) (q93_2 d)) a).2,())))) (nth (U.zW (q93_1 d) (U.jc (U.jf q93_0 fun(z72:ShD×ShD×Unit)=>(U.jp z72.1 z72.2.1,())) (q93_2 d)) a).1 (nth (U.jc (U.jf q93_0 fun(z73:ShD×ShD×Unit)=>(U.jp z73.1 z73.2.1,())) (q93_2 d)) (a:Int).toNat).2.2.2.2.1.toNat++[(nth (U.jc (U.jf q93_0 fun(z74:ShD×ShD×Unit)=>(U.jp z74.1 z74.2.1,())) (q93_2 d)) (a:Int).toNat).2.2.2.1])/\(U.jaV (U.ro (some ((q93_3 d),d.1.2.2.2.2.2.2.2.2.1,(U.zW (q93_1 d) (U.jc (U.jf q93_0 fun(z75:ShD×ShD×Unit)=>(U.jp z75.1 z75.2.1,())) (q93_2 d)) a).1,(U.zW (q93_1 d) (U.jc (U.jf q93_0 fun(z76:ShD×ShD×Unit)=>(U.jp z76.1 z76.2.1,())) (q93_2 d)) a).2,()))) (nth (U.jc (U.jf q93_0 fun(z77:ShD×ShD×Unit)=>(U.jp z77.1 z77.2.1,())) (q93_2 d)) (a:Int).toNat).2.2.2.2.1 (nth (U.zW (q93_1 d) (U.jc (U.jf q93_0 fun(z78:ShD×ShD×Unit)=>(U.jp z78.1 z78.2.1,())) (q93_2 d)) a).1 (nth (U.jc (U.jf q93_0 fun(z79:ShD×ShD×Unit)=>(U.jp z79.1 z79.2.1,())) (q93_2 d)) (a:Int).toNat).2.2.2.2.1.toNat++[(nth (U.jc (U.jf q93_0 fun(z80:ShD×ShD×Unit)=>(U.jp z80.1 z80.2.1,())) (q93_2 d)) (a:Int).toNat).2.2.2.1])=true->(0:Int)<=(nth (U.jc (U.jf q93_0 fun(z81:ShD×ShD×Unit)=>(U.jp z81.1 z81.2.1,())) (q93_2 d)) (a:Int).toNat).2.2.2.2.1/\(nth (U.jc (U.jf q93_0 fun(z82:ShD×ShD×Unit)=>(U.jp z82.1 z82.2.1,())) (q93_2 d)) (a:Int).toNat).2.2.2.2.1<(↑(U.zW (q93_1 d) (U.jc (U.jf q93_0 fun(z83:ShD×ShD×Unit)=>(U.jp z83.1 z83.2.1,())) (q93_2 d)) a).1.length:Int)/\jA ((a:Int)+1)/\∃(b:Nat),(((a:Int)+1=(b:Int)/\True)/\(U.zW (q93_1 d) (U.jc (U.jf q93_0 fun(z84:ShD×ShD×Unit)=>(U.jp z84.1 z84.2.1,())) (q93_2 d)) a).2=(U.zW (q93_1 d) (U.jc (U.jf q93_0 fun(z85:ShD×ShD×Unit)=>(U.jp z85.1 z85.2.1,())) (q93_2 d)) b).2/\(U.zW (q93_1 d) (U.jc (U.jf q93_0 fun(z86:ShD×ShD×Unit)=>(U.jp z86.1 z86.2.1,())) (q93_2 d)) a).1.set (nth (U.jc (U.jf q93_0 fun(z87:ShD×ShD×Unit)=>(U.jp z87.1 z87.2.1,())) (q93_2 d)) (a:Int).toNat).2.2.2.2.1.toNat (nth (U.zW (q93_1 d) (U.jc (U.jf q93_0 fun(z88:ShD×ShD×Unit)=>(U.jp z88.1 z88.2.1,())) (q93_2 d)) a).1 (nth (U.jc (U.jf q93_0 fun(z89:ShD×ShD×Unit)=>(U.jp z89.1 z89.2.1,())) (q93_2 d)) (a:Int).toNat).2.2.2.2.1.toNat++[(nth (U.jc (U.jf q93_0 fun(z90:ShD×ShD×Unit)=>(U.jp z90.1 z90.2.1,())) (q93_2 d)) (a:Int).toNat).2.2.2.1])=(U.zW (q93_1 d) (U.jc (U.jf q93_0 fun(z91:ShD×ShD×Unit)=>(U.jp z91.1 z91.2.1,())) (q93_2 d)) b).1/\True)/\(b<=(U.jc (U.jf q93_0 fun(z92:ShD×ShD×Unit)=>(U.jp z92.1 z92.2.1,())) (q93_2 d)).length/\U.vX (q93_1 d) (U.jc (U.jf q93_0 fun(z93:ShD×ShD×Unit)=>(U.jp z93.1 z93.2.1,())) (q93_2 d)) b (U.zW (q93_1 d) (U.jc (U.jf q93_0 fun(z94:ShD×ShD×Unit)=>(U.jp z94.1 z94.2.1,())) (q93_2 d)) b))/\(U.jc (U.jf q93_0 fun(z95:ShD×ShD×Unit)=>(U.jp z95.1 z95.2.1,())) (q93_2 d)).length-b<(U.jc (U.jf q93_0 fun(z96:ShD×ShD×Unit)=>(U.jp z96.1 z96.2.1,())) (q93_2 d)).length-a)/\(U.jaV (U.ro (some ((q93_3 d),d.1.2.2.2.2.2.2.2.2.1,(U.zW (q93_1 d) (U.jc (U.jf q93_0 fun(z97:ShD×ShD×Unit)=>(U.jp z97.1 z97.2.1,())) (q93_2 d)) a).1,(U.zW (q93_1 d) (U.jc (U.jf q93_0 fun(z98:ShD×ShD×Unit)=>(U.jp z98.1 z98.2.1,())) (q93_2 d)) a).2,()))) (nth (U.jc (U.jf q93_0 fun(z99:ShD×ShD×Unit)=>(U.jp z99.1 z99.2.1,())) (q93_2 d)) (a:Int).toNat).2.2.2.2.1 (nth (U.zW (q93_1 d) (U.jc (U.jf q93_0 fun(c:ShD×ShD×Unit)=>(U.jp c.1 c.2.1,())) (q93_2 d)) a).1 (nth (U.jc (U.jf q93_0 fun(e:ShD×ShD×Unit)=>(U.jp e.1 e.2.1,())) (q93_2 d)) (a:Int).toNat).2.2.2.2.1.toNat++[(nth (U.jc (U.jf q93_0 fun(f:ShD×ShD×Unit)=>(U.jp f.1 f.2.1,())) (q93_2 d)) (a:Int).toNat).2.2.2.1])=false->((U.zW (q93_1 d) (U.jc (U.jf q93_0 fun(g:ShD×ShD×Unit)=>(U.jp g.1 g.2.1,())) (q93_2 d)) a).2.length+[(nth (U.jc (U.jf q93_0 fun(h:ShD×ShD×Unit)=>(U.jp h.1 h.2.1,())) (q93_2 d)) (a:Int).toNat).1].length)*8<=140737488355328/\jA ((a:Int)+1)/\∃(b:Nat),(((a:Int)+1=(b:Int)/\True)/\(U.zW (q93_1 d) (U.jc (U.jf q93_0 fun(i:ShD×ShD×Unit)=>(U.jp i.1 i.2.1,())) (q93_2 d)) a).1=(U.zW (q93_1 d) (U.jc (U.jf q93_0 fun(j:ShD×ShD×Unit)=>(U.jp j.1 j.2.1,())) (q93_2 d)) b).1/\(d.1.1=d.1.1/\d.1.2.1=d.1.2.1/\d.1.2.2.1=d.1.2.2.1/\d.1.2.2.2.1=d.1.2.2.2.1/\d.1.2.2.2.2.1=d.1.2.2.2.2.1/\d.1.2.2.2.2.2.1=d.1.2.2.2.2.2.1/\d.1.2.2.2.2.2.2.1=d.1.2.2.2.2.2.2.1/\d.1.2.2.2.2.2.2.2.1=d.1.2.2.2.2.2.2.2.1/\True/\True/\True/\True)/\(U.zW (q93_1 d) (U.jc (U.jf q93_0 fun(k:ShD×ShD×Unit)=>(U.jp k.1 k.2.1,())) (q93_2 d)) a).2++[(nth (U.jc (U.jf q93_0 fun(l:ShD×ShD×Unit)=>(U.jp l.1 l.2.1,())) (q93_2 d)) (a:Int).toNat).1]=(U.zW (q93_1 d) (U.jc (U.jf q93_0 fun(m:ShD×ShD×Unit)=>(U.jp m.1 m.2.1,())) (q93_2 d)) b).2/\True)/\(b<=(U.jc (U.jf q93_0 fun(n:ShD×ShD×Unit)=>(U.jp n.1 n.2.1,())) (q93_2 d)).length/\U.vX (q93_1 d) (U.jc (U.jf q93_0 fun(o:ShD×ShD×Unit)=>(U.jp o.1 o.2.1,())) (q93_2 d)) b (U.zW (q93_1 d) (U.jc (U.jf q93_0 fun(p:ShD×ShD×Unit)=>(U.jp p.1 p.2.1,())) (q93_2 d)) b))/\(U.jc (U.jf q93_0 fun(q:ShD×ShD×Unit)=>(U.jp q.1 q.2.1,())) (q93_2 d)).length-b<(U.jc (U.jf q93_0 fun(r:ShD×ShD×Unit)=>(U.jp r.1 r.2.1,())) (q93_2 d)).length-a)))/\(decide ((a:Int)<(↑(U.jc (U.jf q93_0 fun(s:ShD×ShD×Unit)=>(U.jp s.1 s.2.1,())) (q93_2 d)).length:Int))=false->()=()/\((d.1.1,d.1.2.1,d.1.2.2.1,d.1.2.2.2.1,d.1.2.2.2.2.1,d.1.2.2.2.2.2.1,d.1.2.2.2.2.2.2.1,d.1.2.2.2.2.2.2.2.1,d.1.2.2.2.2.2.2.2.2.1,(U.zW (q93_1 d) (U.jc (U.jf q93_0 fun(t:ShD×ShD×Unit)=>(U.jp t.1 t.2.1,())) (q93_2 d)) a).1,U.jeo (U.zW (q93_1 d) (U.jc (U.jf q93_0 fun(u:ShD×ShD×Unit)=>(U.jp u.1 u.2.1,())) (q93_2 d)) a).2,()),())=(U.wk d.1 (U.jR (U.zz d.1)),()))))
end Go.X
