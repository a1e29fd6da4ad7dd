/-
  Part 5 of the road: a checked reading of bodies, and what the functions on it do (T L BT BS NL DF RC FX A1 P1 A2 P2 A4 P4 A5 P5 A3 P6 CM MP O1 B1 P7 IS B2 P8 B3 P9 DI B4 P10 B5 P11 B6 P12 P13 B7 P14 B8 P15).
-/
import Derived.Test.YtjmbjgjcdklgdaaGreatDoorK04
import Derived.Test.YtjmbjgjcdklgdaaGreatDoorProg
import Derived.KernelRfl
import Derived.Shelf.SlSortCmp.WholeK
import Derived.Shelf.Sort.Plain
namespace Go.X
open U
open Go.Proofs
abbrev bT:=true
abbrev bF:=false
abbrev vO:Value:=.int .i64 0
abbrev qy0:Ty:=.st [.int,.int]
abbrev qy1:Ty:=.ptr (.uint .u8)
abbrev qy2:Ty:=.ptr (.uint .u64)
abbrev qy3:Ty:=.slice (.slice .int)
abbrev qy4:Ty:=.st [.int,.int,.int]
abbrev qy5:Ty:=.st [.int,.int,.bool]
abbrev qy6:Ty:=.slice qy0
abbrev qy7:Ty:=.slice qy4
abbrev qy8:Ty:=.slice qy5
abbrev qy9:Ty:=.st [.int,.int,.bool,.uint .u8]
abbrev qy10:Ty:=.map .int qy4
abbrev qy11:Ty:=.slice qy6
abbrev qy12:Ty:=.st [.int,.int,.int,.int,.int]
abbrev qy13:Ty:=.st [.int,.int,.int,.int,.int,.int]
abbrev qy14:Ty:=.slice qy12
abbrev qy15:Ty:=.slice qy13
abbrev qy16:Ty:=.st [.slice .int,.int,.int,.slice .int,.bool,.int]
abbrev qy17:Ty:=.map qy0 qy12
abbrev qy18:Ty:=.slice qy16
abbrev qy19:Ty:=.st [qy13,.int,.int,.int]
abbrev qy20:Ty:=.slice qy19
abbrev qy21:Ty:=.st [.int,.int,.int,.int,.int,.int,.int,.int,.slice .int,qy6]
abbrev qy22:Ty:=.st [.int,qy18,qy8]
abbrev qy23:Ty:=.st [qy22,qy13,qy5]
abbrev qy24:Ty:=.ptr qy23
abbrev qy25:Ty:=.st [qy19,qy21,.int,.int,.slice .int,.int,.int,.bool,.int]
abbrev qy26:Ty:=.ptr qy25
abbrev qy27:Ty:=.map .int qy26
abbrev qy28:Ty:=.st [qy22,qy11,qy20,.int,.int,qy14]
abbrev qy29:Ty:=.st [qy28,.slice .int,qy3,.slice .int]
abbrev qy30:Ty:=.ptr qy29
abbrev qy31:Ty:=.st [qy28,.slice .int,.slice .int,qy21,qy7]
abbrev qy32:Ty:=.st [qy31,qy27]
def rr (i:Nat)(t:Ty)(n:Nat)(a:Bool)(f:List (Nat×Nat))(s:Bool)(e b:Nat)(z:List Value)(c m:Bool)(k:Nat)(q:Bool):TI:=⟨i,t,n,a,f,s,e,b,z,c,m,k,q,false,false,false⟩
def rf (i:Nat):TI:=⟨i,.unit,1,false,[],false,0,8,[.nilFunc],false,false,0,false,false,false,true⟩
def rq (i:Nat):TI:=⟨i,.unit,1,false,[],false,0,8,[.pointer none],false,false,0,false,false,true,false⟩
def ti:List TI:=[
 rf 1,
 rr 2 .int 1 bF [] bF 0 8 [vO] bF bF 0 bT,
 rr 3 .int 1 bF [] bF 0 8 [vO] bF bF 0 bT,
 rr 4 .bool 1 bF [] bF 0 1 [.bool false] bT bF 0 bF,
 rr 5 (.uint .u8) 1 bF [] bF 0 1 [.int .u8 0] bF bF 0 bF,
 rr 6 (.uint .u8) 1 bF [] bF 0 1 [.int .u8 0] bF bF 0 bF,
 rr 7 qy9 4 bT [(0,2),(1,3),(2,4),(3,6)] bF 0 24 [vO,vO,.bool false,.int .u8 0] bT bF 0 bT,
 rr 8 qy9 4 bT [(0,2),(1,3),(2,4),(3,6)] bF 0 24 [vO,vO,.bool false,.int .u8 0] bT bF 0 bT,
 rr 12 (.uint .u64) 1 bF [] bF 0 8 [.int .u64 0] bF bF 0 bF,
 rq 15,
 rq 16,
 rq 17,
 rr 18 .unit 1 bT [(0,17)] bF 0 8 [.pointer none] bF bF 0 bF,
 rr 19 .unit 1 bT [(0,17)] bF 0 8 [.pointer none] bF bF 0 bF,
 rr 21 (.uint .i32) 1 bF [] bF 0 4 [.int .i32 0] bF bF 0 bF,
 rr 22 qy18 1 bF [] bT 138 24 [.slice none 0 0] bF bF 0 bF,
 rr 23 qy8 1 bF [] bT 140 24 [.slice none 0 0] bF bF 0 bF,
 rr 24 qy22 3 bT [(0,3),(1,22),(2,23)] bF 0 56 [vO,.slice none 0 0,.slice none 0 0] bF bF 0 bF,
 rr 25 qy22 3 bT [(0,3),(1,22),(2,23)] bF 0 56 [vO,.slice none 0 0,.slice none 0 0] bF bF 0 bF,
 rr 26 qy11 1 bF [] bT 109 24 [.slice none 0 0] bF bF 0 bF,
 rr 27 qy20 1 bF [] bT 62 24 [.slice none 0 0] bF bF 0 bF,
 rr 28 qy14 1 bF [] bT 75 24 [.slice none 0 0] bF bF 0 bF,
 rr 29 qy28 8 bT [(0,25),(3,26),(4,27),(5,3),(6,3),(7,28)] bF 0 144 [vO,.slice none 0 0,.slice none 0 0,.slice none 0 0,.slice none 0 0,vO,vO,.slice none 0 0] bF bF 0 bF,
 rr 30 qy28 8 bT [(0,25),(3,26),(4,27),(5,3),(6,3),(7,28)] bF 0 144 [vO,.slice none 0 0,.slice none 0 0,.slice none 0 0,.slice none 0 0,vO,vO,.slice none 0 0] bF bF 0 bF,
 rr 31 (.slice .int) 1 bF [] bT 3 24 [.slice none 0 0] bF bF 0 bF,
 rr 32 qy6 1 bF [] bT 96 24 [.slice none 0 0] bF bF 0 bF,
 rr 33 qy21 10 bT [(0,3),(1,3),(2,3),(3,3),(4,3),(5,3),(6,3),(7,3),(8,31),(9,32)] bF 0 112 [vO,vO,vO,vO,vO,vO,vO,vO,.slice none 0 0,.slice none 0 0] bF bF 0 bF,
 rr 34 qy21 10 bT [(0,3),(1,3),(2,3),(3,3),(4,3),(5,3),(6,3),(7,3),(8,31),(9,32)] bF 0 112 [vO,vO,vO,vO,vO,vO,vO,vO,.slice none 0 0,.slice none 0 0] bF bF 0 bF,
 rr 35 qy7 1 bF [] bT 39 24 [.slice none 0 0] bF bF 0 bF,
 rr 36 qy31 21 bT [(0,30),(8,31),(9,31),(10,34),(20,35)] bF 0 328 [vO,.slice none 0 0,.slice none 0 0,.slice none 0 0,.slice none 0 0,vO,vO,.slice none 0 0,.slice none 0 0,.slice none 0 0,vO,vO,vO,vO,vO,vO,vO,vO,.slice none 0 0,.slice none 0 0,.slice none 0 0] bF bF 0 bF,
 rr 37 qy31 21 bT [(0,30),(8,31),(9,31),(10,34),(20,35)] bF 0 328 [vO,.slice none 0 0,.slice none 0 0,.slice none 0 0,.slice none 0 0,vO,vO,.slice none 0 0,.slice none 0 0,.slice none 0 0,vO,vO,vO,vO,vO,vO,vO,vO,.slice none 0 0,.slice none 0 0,.slice none 0 0] bF bF 0 bF,
 rr 38 qy4 3 bT [(0,3),(1,3),(2,3)] bF 0 24 [vO,vO,vO] bT bF 0 bT,
 rr 39 qy4 3 bT [(0,3),(1,3),(2,3)] bF 0 24 [vO,vO,vO] bT bF 0 bT,
 rf 40,
 rf 41,
 rf 42,
 rr 43 .int 1 bF [] bF 0 8 [vO] bF bF 0 bT,
 rf 44,
 rr 45 qy15 1 bF [] bT 51 24 [.slice none 0 0] bF bF 0 bF,
 rf 47,
 rf 49,
 rr 50 qy13 6 bT [(0,3),(1,3),(2,3),(3,3),(4,3),(5,3)] bF 0 48 [vO,vO,vO,vO,vO,vO] bT bF 0 bT,
 rr 51 qy13 6 bT [(0,3),(1,3),(2,3),(3,3),(4,3),(5,3)] bF 0 48 [vO,vO,vO,vO,vO,vO] bT bF 0 bT,
 rf 53,
 rf 54,
 rf 55,
 rr 56 qy4 3 bT [(0,3),(1,3),(2,3)] bF 0 24 [vO,vO,vO] bT bF 0 bT,
 rr 57 qy4 3 bT [(0,3),(1,3),(2,3)] bF 0 24 [vO,vO,vO] bT bF 0 bT,
 rf 58,
 rr 59 qy13 6 bT [(0,3),(1,3),(2,3),(3,3),(4,3),(5,3)] bF 0 48 [vO,vO,vO,vO,vO,vO] bT bF 0 bT,
 rr 60 qy13 6 bT [(0,3),(1,3),(2,3),(3,3),(4,3),(5,3)] bF 0 48 [vO,vO,vO,vO,vO,vO] bT bF 0 bT,
 rr 61 qy19 9 bT [(0,60),(6,3),(7,3),(8,3)] bF 0 72 [vO,vO,vO,vO,vO,vO,vO,vO,vO] bT bF 0 bT,
 rr 62 qy19 9 bT [(0,60),(6,3),(7,3),(8,3)] bF 0 72 [vO,vO,vO,vO,vO,vO,vO,vO,vO] bT bF 0 bT,
 rf 64,
 rf 65,
 rf 66,
 rf 68,
 rf 70,
 rf 71,
 rf 72,
 rf 73,
 rr 74 qy12 5 bT [(0,3),(1,3),(2,3),(3,3),(4,3)] bF 0 40 [vO,vO,vO,vO,vO] bT bF 0 bT,
 rr 75 qy12 5 bT [(0,3),(1,3),(2,3),(3,3),(4,3)] bF 0 40 [vO,vO,vO,vO,vO] bT bF 0 bT,
 rf 76,
 rf 77,
 rf 78,
 rf 79,
 rf 80,
 rf 81,
 rf 82,
 rr 83 qy27 1 bF [] bF 92 8 [.map none] bF bT 3 bF,
 rr 84 qy32 22 bT [(0,37),(21,83)] bF 0 336 [vO,.slice none 0 0,.slice none 0 0,.slice none 0 0,.slice none 0 0,vO,vO,.slice none 0 0,.slice none 0 0,.slice none 0 0,vO,vO,vO,vO,vO,vO,vO,vO,.slice none 0 0,.slice none 0 0,.slice none 0 0,.map none] bF bF 0 bF,
 rr 85 qy32 22 bT [(0,37),(21,83)] bF 0 336 [vO,.slice none 0 0,.slice none 0 0,.slice none 0 0,.slice none 0 0,vO,vO,.slice none 0 0,.slice none 0 0,.slice none 0 0,vO,vO,vO,vO,vO,vO,vO,vO,.slice none 0 0,.slice none 0 0,.slice none 0 0,.map none] bF bF 0 bF,
 rf 87,
 rf 88,
 rf 89,
 rf 90,
 rf 91,
 {rr 92 qy26 1 bF [] bF 0 8 [.pointer none] bF bF 0 bF with pt:=true},
 rf 93,
 rf 94,
 rr 95 qy0 2 bT [(0,3),(1,3)] bF 0 16 [vO,vO] bT bF 0 bT,
 rr 96 qy0 2 bT [(0,3),(1,3)] bF 0 16 [vO,vO] bT bF 0 bT,
 rr 97 qy25 26 bT [(0,62),(9,34),(19,3),(20,3),(21,31),(22,3),(23,3),(24,4),(25,3)] bF 0 256 [vO,vO,vO,vO,vO,vO,vO,vO,vO,vO,vO,vO,vO,vO,vO,vO,vO,.slice none 0 0,.slice none 0 0,vO,vO,.slice none 0 0,vO,vO,.bool false,vO] bF bF 0 bF,
 rr 98 qy25 26 bT [(0,62),(9,34),(19,3),(20,3),(21,31),(22,3),(23,3),(24,4),(25,3)] bF 0 256 [vO,vO,vO,vO,vO,vO,vO,vO,vO,vO,vO,vO,vO,vO,vO,vO,vO,.slice none 0 0,.slice none 0 0,vO,vO,.slice none 0 0,vO,vO,.bool false,vO] bF bF 0 bF,
 rf 99,
 rf 100,
 rf 101,
 {rr 102 qy30 1 bF [] bF 0 8 [.pointer none] bF bF 0 bF with pt:=true},
 rf 104,
 rr 105 (.uint .u64) 1 bF [] bF 0 8 [.int .u64 0] bF bF 0 bF,
 rf 106,
 rf 107,
 rf 108,
 rr 109 qy6 1 bF [] bT 135 24 [.slice none 0 0] bF bF 0 bF,
 rf 110,
 rf 111,
 rf 112,
 rf 113,
 rf 114,
 rf 115,
 rf 116,
 rf 117,
 rf 118,
 rf 119,
 rf 121,
 rf 122,
 rf 123,
 rf 124,
 rr 125 qy3 1 bF [] bT 31 24 [.slice none 0 0] bF bF 0 bF,
 rr 126 qy29 11 bT [(0,30),(8,31),(9,125),(10,31)] bF 0 216 [vO,.slice none 0 0,.slice none 0 0,.slice none 0 0,.slice none 0 0,vO,vO,.slice none 0 0,.slice none 0 0,.slice none 0 0,.slice none 0 0] bF bF 0 bF,
 rr 127 qy29 11 bT [(0,30),(8,31),(9,125),(10,31)] bF 0 216 [vO,.slice none 0 0,.slice none 0 0,.slice none 0 0,.slice none 0 0,vO,vO,.slice none 0 0,.slice none 0 0,.slice none 0 0,.slice none 0 0] bF bF 0 bF,
 rf 128,
 rf 129,
 rf 130,
 rr 131 qy15 1 bF [] bT 60 24 [.slice none 0 0] bF bF 0 bF,
 rf 133,
 rr 134 qy0 2 bT [(0,3),(1,3)] bF 0 16 [vO,vO] bT bF 0 bT,
 rr 135 qy0 2 bT [(0,3),(1,3)] bF 0 16 [vO,vO] bT bF 0 bT,
 rf 136,
 rr 137 qy16 6 bT [(0,31),(1,3),(2,3),(3,31),(4,4),(5,3)] bF 0 80 [.slice none 0 0,vO,vO,.slice none 0 0,.bool false,vO] bF bF 0 bF,
 rr 138 qy16 6 bT [(0,31),(1,3),(2,3),(3,31),(4,4),(5,3)] bF 0 80 [.slice none 0 0,vO,vO,.slice none 0 0,.bool false,vO] bF bF 0 bF,
 rr 139 qy5 3 bT [(0,3),(1,3),(2,4)] bF 0 24 [vO,vO,.bool false] bT bF 0 bT,
 rr 140 qy5 3 bT [(0,3),(1,3),(2,4)] bF 0 24 [vO,vO,.bool false] bT bF 0 bT,
 rf 141,
 rf 142,
 rf 143,
 rf 144,
 rr 145 qy10 1 bF [] bF 39 8 [.map none] bF bT 3 bF,
 rf 147,
 rf 148,
 rf 149,
 rf 150,
 rf 151,
 rf 152,
 rf 153,
 rf 154,
 rf 155,
 {rr 156 qy24 1 bF [] bF 0 8 [.pointer none] bF bF 0 bF with pt:=true},
 rf 158,
 rr 159 (.uint .u64) 1 bF [] bF 0 8 [.int .u64 0] bF bF 0 bF,
 rf 160,
 rr 161 qy17 1 bF [] bF 75 8 [.map none] bF bT 165 bF,
 rf 162,
 rf 163,
 rr 164 qy0 2 bT [(0,3),(1,3)] bF 0 16 [vO,vO] bT bF 0 bT,
 rr 165 qy0 2 bT [(0,3),(1,3)] bF 0 16 [vO,vO] bT bF 0 bT,
 rf 166,
 rf 167,
 rf 168,
 rf 169,
 rf 170,
 rf 171,
 rf 172,
 rr 173 .int 1 bF [] bF 0 8 [vO] bF bF 0 bT,
 rf 175,
 rf 176,
 rf 177,
 rf 178,
 rf 179,
 rr 180 (.uint .u32) 1 bF [] bF 0 4 [.int .u32 0] bF bF 0 bF,
 rf 181,
 rr 182 (.uint .u64) 1 bF [] bF 0 8 [.int .u64 0] bF bF 0 bF,
 rf 183,
 rf 184,
 rf 185,
 rf 186,
 rf 187,
 rf 188,
 rf 189,
 rf 190,
 rf 191,
 rf 192,
 rf 193,
 rf 194,
 rr 195 (.map .int .int) 1 bF [] bF 3 8 [.map none] bF bT 3 bF,
 rr 196 qy23 12 bT [(0,25),(3,60),(9,140)] bF 0 128 [vO,.slice none 0 0,.slice none 0 0,vO,vO,vO,vO,vO,vO,vO,vO,.bool false] bF bF 0 bF,
 rr 197 qy23 12 bT [(0,25),(3,60),(9,140)] bF 0 128 [vO,.slice none 0 0,.slice none 0 0,vO,vO,vO,vO,vO,vO,vO,vO,.bool false] bF bF 0 bF,
 rf 198,
 rf 199,
 rf 200,
 rf 201,
 rf 202,
 rf 203,
 rf 204,
 rf 205,
 rf 206,
 rr 207 (.uint .u64) 1 bF [] bF 0 8 [.int .u64 0] bF bF 0 bF,
 rf 208,
 rf 209,
 rf 210,
 {rr 211 (.ptr .int) 1 bF [] bF 0 8 [.pointer none] bF bF 0 bF with pt:=true},
 rf 212,
 rf 213,
 rf 214,
 rf 215,
 rf 216,
 rf 217,
 rf 218,
 rf 219,
 rf 220,
 rf 221,
 rf 222,
 rf 223,
 rf 224,
 rf 225,
 rf 226,
 rf 227,
 rf 228,
 rf 229,
 rf 230,
 rf 231,
 rf 232,
 rf 233,
 {rr 234 qy2 1 bF [] bF 0 8 [.pointer none] bF bF 0 bF with pt:=true},
 rf 236,
 rf 237,
 rf 238,
 rf 239,
 rf 240,
 rf 241,
 rf 242,
 rf 243,
 rf 244,
 rf 245,
 rf 247,
 rf 248,
 rf 249,
 rf 250,
 rf 251,
 rf 252,
 rf 253,
 rf 255,
 rf 257,
 rf 258,
 rf 259,
 rf 260,
 rf 261,
 rf 262,
 rf 263,
 rf 264,
 rf 265,
 rf 266,
 rr 270 .unit 0 bT [(0,269)] bF 0 0 [] bF bF 0 bF,
 rr 271 .unit 0 bT [(0,269)] bF 0 0 [] bF bF 0 bF,
 rr 272 (.uint .u8) 1 bF [] bF 0 1 [.int .u8 0] bF bF 0 bF,
 rr 273 (.uint .u8) 1 bF [] bF 0 1 [.int .u8 0] bF bF 0 bF,
 rf 274,
 {rr 275 qy1 1 bF [] bF 0 8 [.pointer none] bF bF 0 bF with pt:=true},
 rr 276 (.uint .i32) 1 bF [] bF 0 4 [.int .i32 0] bF bF 0 bF,
 rr 277 (.uint .i32) 1 bF [] bF 0 4 [.int .i32 0] bF bF 0 bF,
 rr 278 .unit 11 bT [(0,12),(1,12),(2,180),(3,272),(4,5),(5,5),(6,273),(7,274),(8,275),(9,276),(10,277)] bF 0 48 [.int .u64 0,.int .u64 0,.int .u32 0,.int .u8 0,.int .u8 0,.int .u8 0,.int .u8 0,.nilFunc,.pointer none,.int .i32 0,.int .i32 0] bF bF 0 bF,
 rr 279 .unit 11 bT [(0,12),(1,12),(2,180),(3,272),(4,5),(5,5),(6,273),(7,274),(8,275),(9,276),(10,277)] bF 0 48 [.int .u64 0,.int .u64 0,.int .u32 0,.int .u8 0,.int .u8 0,.int .u8 0,.int .u8 0,.nilFunc,.pointer none,.int .i32 0,.int .i32 0] bF bF 0 bF,
 rf 280,
 rf 282]
def strs:List Nat:=[9,10,11]
noncomputable abbrev PR:Program:=Tryz.prog
theorem W4:ti.all (jcF PR)=true:=by kernel_rfl
def ZW (P:Program) (k:Nat):Bool:=match P.underlying k with|some .string=>true|_=>false
theorem TS {P:Program} {l:List Nat} (a:l.all (ZW P)=true) (T:Nat) (h:ai l T=true):P.underlying T=some .string:=by
 have:=j8.1 a T ((qR _ _).1 h);unfold ZW at this
 split at this
 assumption
 cases this
theorem ZX:strs.all (ZW PR)=true:=by kernel_rfl
theorem Pq:∀T,ai strs T=true->PR.underlying T=some .string:=TS ZX
theorem mixed:PR.follows .mixedOrders=true:=by kernel_rfl
def jc2 (n:Nat) (fs:List (Nat×wi)):Ctx:=⟨n,ti,fs,fun _ _ _ _=>none,strs,false⟩
def ctx (n:Nat) (fs:List (Nat×wi)) (os:List (Nat×qi)):Ctx:=⟨n,ti,fs,jcW (jc2 n fs) os,strs,false⟩
def nf:List (Nat×wi)->Prop
 |[]=>True
 |p::r=>(p.2.own=false->wq PR p.1 p.2)/\nf r
def cz:List (Nat×qi)->Prop
 |[]=>True
 |p::r=>y7 PR p.1 p.2/\cz r
theorem dM:∀{l:List (Nat×wi)},nf l->∀f s,kR l f=some s->s.own=false->wq PR f s
 |[],_,f,s,h,_=>by simp[kR] at h
 | (j,x)::r,hk,f,s,h,ho=>by
  simp only[kR] at h
  cases a:Nat.beq j f with
  |true=>rw[a] at h;simp at h;subst h;have:=jb a;subst this;exact hk.1 ho
  |false=>rw[a] at h;exact dM hk.2 f s h ho
theorem o4:∀{l:List (Nat×qi)},cz l->∀f s,kR l f=some s->y7 PR f s
 |[],_,f,s,h=>by simp[kR] at h
 | (j,x)::r,hk,f,s,h=>by
  simp only[kR] at h
  cases a:Nat.beq j f with
  |true=>rw[a] at h;simp at h;subst h;have:=jb a;subst this;exact hk.1
  |false=>rw[a] at h;exact o4 hk.2 f s h
theorem TT {n:Nat} {fs:List (Nat×wi)} (h:nf fs):(jc2 n fs).ok PR:=
 ⟨O7 W4,dM h,Pq,rfl,fun _ _ _ _ _ a=>by cases a⟩
theorem oc {n:Nat} {fs:List (Nat×wi)} {os:List (Nat×qi)} (h:nf fs) (b:cz os):(ctx n fs os).ok PR:=
 ⟨O7 W4,dM h,Pq,rfl,fun _ _ _ _ _ a=>QE (TT h) (o4 b) a⟩
def gd (t:Ty) (σ:St) (s:Nat):t.Data:=match σ.get s with
 | .dat a d=>(match wR a t d with|some x=>x|none=>t.dflt)
 |_=>t.dflt
def gr (t:Ty) (σ:St) (o:Nat):List t.Data:=match σ.obj o with
 |some (.row _ a _ _ l)=>(match wR (.slice a) (.slice t) l with|some l'=>l'|none=>[])
 |_=>[]
def gfn (ps rs:List Ty) (σ:St) (s:Nat):(Ty.st ps).Data->(Ty.st rs).Data:=match σ.get s with
 | .fn a b _ F=>if h:a=ps/\b=rs then h.1▸h.2▸F else fun _=>(Ty.st rs).dflt
 |_=>fun _=>(Ty.st rs).dflt
def wt (fn:Func):Code:=match fn.body with|some c=>c|none=> .skip
theorem jdy {f:Nat} {fn:Func} {n:Nat} {fs:List (Nat×wi)} {os:List (Nat×qi)} {s:wi} {A:Ann} (h:ja9 (ctx n fs os) A fn (wt fn) s) (d:PR.funcs[f]? =some fn) (c:fn.body=some (wt fn)) (a:(fn.name== "runtime.NumGoroutine")=false)
 (e:fn.ntmps=n) (b:Nat.ble s.ps.length n=true) (hk:nf fs) (g:cz os):wq PR f s:=
 jbx (oc hk g) mixed d c a e (jy b) A h
theorem jbJ {f:Nat} {fn:Func} {n:Nat} {fs:List (Nat×wi)} {os:List (Nat×qi)} {s:qi} {A:Ann} (h:Tv (ctx n fs os) A fn (wt fn) s) (e:PR.funcs[f]? =some fn) (d:fn.body=some (wt fn)) (a:(fn.name== "runtime.NumGoroutine")=false)
 (g:fn.ntmps=n) (c:Nat.ble s.ps.length n=true) (b:y4 (Mn s.ps 0)=true) (hk:nf fs) (i:cz os):y7 PR f s:=
 jbA (oc hk i) mixed e d a g (jy c) b A h
abbrev qF:Prop:=false=false
theorem tZ:True:=True.intro
theorem iZ6 {x:Int} (a: -9223372036854775808<=x:=by omega) (b:x<=9223372036854775807:=by omega):kK x:=⟨a,b⟩
theorem kcC {f:Nat} {s:wi} {fs:List (Nat×wi)} (h:wq PR f s) (hk:nf fs):nf ((f,s)::fs):=⟨fun _=>h,hk⟩
theorem kcN:nf []:=trivial
theorem koC {f:Nat} {s:qi} {fs:List (Nat×qi)} (h:y7 PR f s) (hk:cz fs):cz ((f,s)::fs):=⟨h,hk⟩
theorem koN:cz []:=trivial
theorem vN (A:Ann) {f:Nat} {fn:Func} {fs:List (Nat×wi)} {os:List (Nat×qi)} {s:wi} {P:Prop} (h:P) (e:PR.funcs[f]? =some fn) (hk:nf fs) (g:cz os) (d:ja9 (ctx fn.ntmps fs os) A fn (wt fn) s=P:=by kernel_rfl) (c:fn.body=some (wt fn):=by kernel_rfl) (a:(fn.name== "runtime.NumGoroutine")=false:=by kernel_rfl) (b:Nat.ble s.ps.length fn.ntmps=true:=by kernel_rfl):wq PR f s:=jdy (d.mpr h) e c a rfl b hk g
theorem wb {f:Nat} {fn:Func} {fs:List (Nat×wi)} {os:List (Nat×qi)} {s:wi} {P:Prop} (h:P) (e:PR.funcs[f]? =some fn) (hk:nf fs) (g:cz os) (d:ja9 (ctx fn.ntmps fs os) (fun _=>none) fn (wt fn) s=P:=by kernel_rfl) (c:fn.body=some (wt fn):=by kernel_rfl) (a:(fn.name== "runtime.NumGoroutine")=false:=by kernel_rfl) (b:Nat.ble s.ps.length fn.ntmps=true:=by kernel_rfl):wq PR f s:=jdy (d.mpr h) e c a rfl b hk g
theorem xr (A:Ann) {f:Nat} {fn:Func} {fs:List (Nat×wi)} {os:List (Nat×qi)} {s:qi} {P:Prop} (h:P) (g:PR.funcs[f]? =some fn) (hk:nf fs) (i:cz os) (e:Tv (ctx fn.ntmps fs os) A fn (wt fn) s=P:=by kernel_rfl) (d:fn.body=some (wt fn):=by kernel_rfl) (a:(fn.name== "runtime.NumGoroutine")=false:=by kernel_rfl) (c:Nat.ble s.ps.length fn.ntmps=true:=by kernel_rfl) (b:y4 (Mn s.ps 0)=true:=by kernel_rfl):y7 PR f s:=jbJ (e.mpr h) g d a rfl c b hk i
theorem CD {f:Nat} {fn:Func} {fs:List (Nat×wi)} {os:List (Nat×qi)} {s:qi} {P:Prop} (h:P) (g:PR.funcs[f]? =some fn) (hk:nf fs) (i:cz os) (e:Tv (ctx fn.ntmps fs os) (fun _=>none) fn (wt fn) s=P:=by kernel_rfl) (d:fn.body=some (wt fn):=by kernel_rfl) (a:(fn.name== "runtime.NumGoroutine")=false:=by kernel_rfl) (c:Nat.ble s.ps.length fn.ntmps=true:=by kernel_rfl) (b:y4 (Mn s.ps 0)=true:=by kernel_rfl):y7 PR f s:=jbJ (e.mpr h) g d a rfl c b hk i
def LB (n:Nat) (fs:List (Nat×wi)) (os:List (Nat×qi)) (cs:List (Nat×oW)) (vs:List (Nat×Hd)):Ctx:=⟨n,ti,fs,jc1 (jc2 n fs) os cs vs,strs,false⟩
def TU:List (Nat×oW)->Prop
 |[]=>True
 |p::r=>Jp PR p.1 p.2/\TU r
def TV:List (Nat×Hd)->Prop
 |[]=>True
 |p::r=>VOK PR p.1 p.2/\TV r
theorem CE:∀{l:List (Nat×oW)},TU l->∀f s,kR l f=some s->Jp PR f s
 |[],_,f,s,h=>by simp[kR] at h
 | (j,x)::r,hk,f,s,h=>by
  simp only[kR] at h
  cases a:Nat.beq j f with
  |true=>rw[a] at h;simp at h;subst h;have:=jb a;subst this;exact hk.1
  |false=>rw[a] at h;exact CE hk.2 f s h
theorem CF:∀{l:List (Nat×Hd)},TV l->∀f s,kR l f=some s->VOK PR f s
 |[],_,f,s,h=>by simp[kR] at h
 | (j,x)::r,hk,f,s,h=>by
  simp only[kR] at h
  cases a:Nat.beq j f with
  |true=>rw[a] at h;simp at h;subst h;have:=jb a;subst this;exact hk.1
  |false=>rw[a] at h;exact CF hk.2 f s h
theorem MD {n:Nat} {fs:List (Nat×wi)} {os:List (Nat×qi)} {cs:List (Nat×oW)} {vs:List (Nat×Hd)} (h:nf fs) (c:cz os) (a:TU cs) (d:TV vs):(LB n fs os cs vs).ok PR:=
 ⟨O7 W4,dM h,Pq,rfl,fun _ _ _ _ _ b=>QG (TT h) (o4 c) (CE a) (CF d) b⟩
theorem jbK {f:Nat} {fn:Func} {n:Nat} {fs:List (Nat×wi)} {os:List (Nat×qi)} {s:oW} {A:Ann} (h:TL (ctx n fs os) A fn (wt fn) s) (d:PR.funcs[f]? =some fn) (c:fn.body=some (wt fn)) (a:(fn.name== "runtime.NumGoroutine")=false)
 (e:fn.ntmps=n) (b:Nat.ble s.ps.length n=true) (hk:nf fs) (g:cz os):Jp PR f s:=
 jbG (oc hk g) mixed d c a e (jy b) A h
end Go.X
namespace Go.X
open U
namespace L
theorem wB {α:Type} [Inhabited α] {l:List α} {i:Nat} (h:i<l.length):nth l i=l[i]:=by
 unfold nth;simp[h]
theorem kQ {α:Type} [Inhabited α] {l:List α} {i:Nat} (h:i<l.length):l.take (i+1)=l.take i++[nth l i]:=by
 rw[wB h];exact List.take_succ_eq_append_getElem h
theorem kx {α:Type} [Inhabited α] {l:List α} {i:Nat} (h:i<l.length):nth l i∈l:=by
 rw[wB h];exact List.getElem_mem h
theorem mem_iff {α:Type} [Inhabited α] {l:List α} {x:α}:x∈l↔∃i,i<l.length/\nth l i=x:=by
 constructor;intro h;obtain⟨i,hi,e⟩:=List.getElem_of_mem h;exact⟨i,hi,by rw[wB hi,e]⟩;rintro⟨i,hi,rfl⟩;exact kx hi
theorem all_false {α:Type} [Inhabited α] {l:List α} {i:Nat} {p:α->Bool} (h:i<l.length) (a:p (nth l i)=false):l.all p=false:=by
 rw[zX];exact⟨nth l i,kx h,by simp[a]⟩
theorem Fb {x:Int} (a: -9223372036854775808<=x) (b:x<=9223372036854775807):kK x:=⟨a,b⟩
end L
namespace BT
theorem two_nat (k:Nat):(2:Int)^k=((2^k:Nat):Int):=by simp
theorem div_nat (n k:Nat):(n:Int)/2^k=((n/2^k:Nat):Int):=by simp
theorem pow63 {k:Nat} (h:k<=62):2^k<2^63:=Nat.pow_lt_pow_right (by decide) (by omega)
theorem ofInt_nat {n:Nat} (a:n<2^63):(BitVec.ofInt 64 (n:Int)).toNat=n:=by
 simp only[BitVec.toNat_ofInt];omega
theorem wrap_nat {n:Nat} (h:n<2^63):IntKind.i64.wrap (n:Int)=(n:Int):=by
 unfold IntKind.wrap;simp[IntKind.signed,IntKind.bits];omega
theorem wrapU_nat {n:Nat} (h:n<2^63):IntKind.u64.wrap (n:Int)=(n:Int):=by
 unfold IntKind.wrap;simp[IntKind.signed,IntKind.bits];omega
theorem band_nat {a b:Nat} (c:a<2^63) (d:b<2^63):nQ (a:Int) (b:Int)=((a&&&b:Nat):Int):=by
 unfold nQ;rw[BitVec.toNat_and,ofInt_nat c,ofInt_nat d];exact wrap_nat (Nat.lt_of_le_of_lt Nat.and_le_left c)
theorem uand_nat {a b:Nat} (c:a<2^63) (d:b<2^63):yD (a:Int) (b:Int)=((a&&&b:Nat):Int):=by
 unfold yD;rw[BitVec.toNat_and,ofInt_nat c,ofInt_nat d];exact wrapU_nat (Nat.lt_of_le_of_lt Nat.and_le_left c)
theorem bor_nat {a b:Nat} (c:a<2^63) (d:b<2^63):bor (a:Int) (b:Int)=((a|||b:Nat):Int):=by
 unfold bor;rw[BitVec.toNat_or,ofInt_nat c,ofInt_nat d,wrap_nat (Nat.or_lt_two_pow c d)]
def q9 (s:Int):Prop:=0<=s/\s<2^62
def has (s:Int) (p:Nat):Bool:=s.toNat.testBit p
theorem nat_of {s:Int} (h:q9 s):∃n:Nat,s=(n:Int)/\n<2^62:=⟨s.toNat,by unfold q9 at h;omega,by unfold q9 at h;omega⟩
theorem lt63 {n:Nat} (h:n<2^62):n<2^63:=by omega
theorem has_shr {s:Int} (h:q9 s) (p:Nat):decide (nQ (s/2^p) 1=1)=has s p:=by
 obtain⟨n,rfl,b⟩:=nat_of h;unfold has;rw[ju,div_nat];have a:n/2^p<2^63:=Nat.lt_of_le_of_lt (Nat.div_le_self _ _) (lt63 b);rw[show(1:Int)=((1:Nat):Int) from rfl,band_nat a (by decide),Nat.and_one_is_mod,Nat.testBit_eq_decide_div_mod_eq];exact decide_eq_decide.2 ⟨fun h=>by omega,fun h=>by omega⟩
theorem has_ushr {s:Int} (h:q9 s) (p:Nat):decide (yD (s/2^p) 1=1)=has s p:=by
 obtain⟨n,rfl,b⟩:=nat_of h;unfold has;rw[ju,div_nat];have a:n/2^p<2^63:=Nat.lt_of_le_of_lt (Nat.div_le_self _ _) (lt63 b);rw[show(1:Int)=((1:Nat):Int) from rfl,uand_nat a (by decide),Nat.and_one_is_mod,Nat.testBit_eq_decide_div_mod_eq];exact decide_eq_decide.2 ⟨fun h=>by omega,fun h=>by omega⟩
theorem bit_num {s:Int} (h:q9 s) (p:Nat):nQ (s/2^p) 1=if has s p=true then 1 else 0:=by
 obtain⟨n,rfl,b⟩:=nat_of h;unfold has;rw[ju,div_nat];have a:n/2^p<2^63:=Nat.lt_of_le_of_lt (Nat.div_le_self _ _) (lt63 b);rw[show(1:Int)=((1:Nat):Int) from rfl,band_nat a (by decide),Nat.and_one_is_mod,Nat.testBit_eq_decide_div_mod_eq]
 split
 rename_i h;have:=ja h;omega;rename_i h;have:¬(n/2^p%2=1):=fun e=>h (jK e);omega
theorem tA (p:Nat):has 0 p=false:=by unfold has;simp
theorem Bf (k p:Nat):has ((2:Int)^k) p=decide (k=p):=by
 unfold has;rw[two_nat,ju,Nat.testBit_two_pow]
theorem has_bor {a b:Int} (c:q9 a) (d:q9 b) (p:Nat):has (bor a b) p=(has a p||has b p):=by
 obtain⟨n,rfl,f⟩:=nat_of c;obtain⟨m,rfl,e⟩:=nat_of d;unfold has;rw[bor_nat (lt63 f) (lt63 e)];simp only[ju,Nat.testBit_or]
theorem bor_set {a b:Int} (e:q9 a) (f:q9 b):q9 (bor a b):=by
 obtain⟨n,rfl,d⟩:=nat_of e;obtain⟨m,rfl,c⟩:=nat_of f;rw[bor_nat (lt63 d) (lt63 c)];have:n|||m<2^62:=Nat.or_lt_two_pow d c;unfold q9;omega
theorem D0:q9 0:=by unfold q9;omega
theorem na {k:Nat} (h:k<=61):q9 ((2:Int)^k):=by
 rw[two_nat];have:2^k<2^62:=Nat.pow_lt_pow_right (by decide) (by omega);obtain⟨q,a⟩:∃q,q=2^k:=⟨_,rfl⟩;rw[<-a] at this⊢;unfold q9;omega
theorem ext {a b:Int} (c:q9 a) (d:q9 b) (h:∀p,has a p=has b p):a=b:=by
 obtain⟨n,rfl,f⟩:=nat_of c;obtain⟨m,rfl,e⟩:=nat_of d;have:n=m:=kh (fun i=>by have:=h i;unfold has at this;simpa using this);rw[this]
theorem has_lt {s:Int} {k:Nat} (c:0<=s) (h:s<2^k) {p:Nat} (b:has s p=true):p<k:=by
 obtain⟨n,rfl⟩:∃n:Nat,s=(n:Int):=⟨s.toNat,by omega⟩;rw[two_nat] at h;unfold has at b;rw[ju] at b;have d:=Nat.ge_two_pow_of_testBit b;rcases Nat.lt_or_ge p k with a|a;exact a;have:=Nat.pow_le_pow_right (n:=2) (by decide) a;omega
theorem lt_of_has {s:Int} {k:Nat} (a:q9 s) (h:∀p,has s p=true->p<k):s<2^k:=by
 obtain⟨n,rfl,b⟩:=nat_of a;rw[two_nat];have:n<2^k:=Nat.lt_pow_two_of_testBit n (fun i hi=>by
  cases e:n.testBit i with
  |false=>rfl
  |true=>have:=h i (by unfold has;simpa using e);omega)
 omega
theorem or_two {n p:Nat} (h:n.testBit p=false):n+2^p=n|||2^p:=by
 have f:n=2^(p+1)*(n/2^(p+1))+n%2^(p+1):=(Nat.div_add_mod _ _).symm;have c:n%2^(p+1)<2^p:=by
  have b:n%2^(p+1)<2^(p+1):=Nat.mod_lt _ (Nat.pow_pos (by decide));rcases Nat.lt_or_ge (n%2^(p+1)) (2^p) with a|a
  .exact a
  .exfalso;have:(n%2^(p+1)).testBit p=true:=Nat.testBit_of_two_pow_le_and_two_pow_add_one_gt a b;rw[Nat.testBit_mod_two_pow,h] at this;simp at this
 apply kh;intro i;rw[Nat.testBit_or,Nat.testBit_two_pow];have e:n+2^p=2^(p+1)*(n/2^(p+1))+(2^p+n%2^(p+1)):=(by omega);have g:2^p+n%2^(p+1)<2^(p+1):=zA (Nat.add_lt_add_left c _) (by rw[Nat.pow_succ];omega);rw[e,Nat.testBit_two_pow_mul_add _ g]
 conv=>rhs;rw[f,Nat.testBit_two_pow_mul_add _ (Nat.mod_lt _ (Nat.pow_pos (by decide)))]
 have e2:2^p+n%2^(p+1)=2^p*1+n%2^(p+1):=(by omega);by_cases hi:i<p+1
 .rw[jd hi,jd hi,e2,Nat.testBit_two_pow_mul_add _ c];by_cases d:i<p
  .rw[jd d,zm (by omega),Bool.or_false]
  .have:i=p:=(by omega);subst this;rw[jc d,Nat.sub_self,jK rfl,Bool.or_true];simp
 .rw[jc hi,jc hi,zm (by omega),Bool.or_false]
theorem add_two {s:Int} (b:q9 s) {p:Nat} (c:p<=61) (h:has s p=false):s+2^p=bor s (2^p):=by
 obtain⟨n,rfl,a⟩:=nat_of b;rw[two_nat,bor_nat (lt63 a) (pow63 (by omega))];unfold has at h;rw[ju] at h;rw[<-or_two h];omega
def size (s:Int):Int:=(((List.range 62).countP (fun p=>has s p):Nat):Int)
theorem size_zero:size 0=0:=by
 unfold size;have:(List.range 62).countP (fun p=>has 0 p)=0:=zM.2 (fun p _=>by rw[tA];simp);rw[this];rfl
theorem size_le (s:Int):0<=size s/\size s<=62:=by
 have:=List.countP_le_length (l:=List.range 62) (p:=fun p=>has s p);rw[zp] at this;unfold size;omega
theorem has_half {s:Int} (a:q9 s) (p:Nat):has (s/2) p=has s (p+1):=by
 obtain⟨n,rfl,b⟩:=nat_of a;unfold has;have:((n:Int)/2).toNat=n/2:=(by omega);rw[this,ju,Nat.testBit_succ]
theorem size_half {s:Int} (d:q9 s):size s=s%2+size (s/2):=by
 obtain⟨n,e,i⟩:=nat_of d;have b:has (s/2) 61=false:=by
  rw[has_half d];subst e;unfold has;rw[ju];exact Nat.testBit_lt_two_pow i
 have j:(List.range 62)=0::(List.range 61).map (·+1):=by
  rw[show(62:Nat)=61+1 from rfl,List.range_succ_eq_map]
 have c:(List.range 62)=List.range 61++[61]:=(by rw[show(62:Nat)=61+1 from rfl,za]);have f:(has s 0=true)↔s%2=1:=by
  subst e;unfold has;rw[ju,Nat.testBit_zero];simp only[jr];omega
 have g:(List.range 62).countP (fun p=>has (s/2) p)=(List.range 61).countP (fun p=>has s (p+1)):=by
  rw[c,zS];simp only[ki,List.countP_nil,b];simp only[has_half d];simp
 unfold size;rw[g]
 conv=>lhs;rw[j]
 rw[ki,List.countP_map];have h:((fun p=>has s p)∘fun(x:Nat)=>x+1)=fun p=>has s (p+1):=rfl
 rw[h];by_cases a:has s 0=true
 .rw[jd a];have:=f.1 a;omega
 .rw[jc a];have:¬s%2=1:=fun e=>a (f.2 e);omega
theorem size_pos {s:Int} (d:q9 s):s≠0↔0<size s:=by
 constructor;intro h;obtain⟨n,rfl,c⟩:=nat_of d;obtain⟨i,hi⟩:=Nat.exists_testBit_of_ne_zero (x:=n) (by omega);have b:i<62:=by
  rcases Nat.lt_or_ge i 62 with a|a;exact a;have:=Nat.testBit_lt_two_pow (zA c (Nat.pow_le_pow_right (by decide) a));rw[this] at hi;cases hi
 unfold size;have:0<(List.range 62).countP (fun p=>has (n:Int) p):=List.countP_pos_iff.2 ⟨i,jC.2 b,by unfold has;simpa using hi⟩;omega;intro h e;rw[e,size_zero] at h;omega
end BT
namespace BT
theorem uor_nat {a b:Nat} (c:a<2^63) (d:b<2^63):uor (a:Int) (b:Int)=((a|||b:Nat):Int):=by
 unfold uor;rw[BitVec.toNat_or,ofInt_nat c,ofInt_nat d,wrapU_nat (Nat.or_lt_two_pow c d)]
theorem has_uor {a b:Int} (c:q9 a) (d:q9 b) (p:Nat):has (uor a b) p=(has a p||has b p):=by
 obtain⟨n,rfl,f⟩:=nat_of c;obtain⟨m,rfl,e⟩:=nat_of d;unfold has;rw[uor_nat (lt63 f) (lt63 e)];simp only[ju,Nat.testBit_or]
theorem uor_set {a b:Int} (e:q9 a) (f:q9 b):q9 (uor a b):=by
 obtain⟨n,rfl,d⟩:=nat_of e;obtain⟨m,rfl,c⟩:=nat_of f;rw[uor_nat (lt63 d) (lt63 c)];have:n|||m<2^62:=Nat.or_lt_two_pow d c;unfold q9;omega
theorem pred_odd (k:Nat):(2*k+1)&&&(2*k+1-1)=2*k:=by
 apply kh;intro i;rw[Nat.testBit_and,Nat.add_sub_cancel];cases i with
 |zero=>simp
 |succ i=>
  rw[Nat.testBit_succ,Nat.testBit_succ];have:(2*k+1)/2=k:=(by omega);have a:(2*k)/2=k:=(by omega);rw[this,a,Bool.and_self]
theorem pred_even (k:Nat) (_:k≠0):(2*k)&&&(2*k-1)=2*(k&&&(k-1)):=by
 apply kh;intro i;rw[Nat.testBit_and];cases i with
 |zero=>simp
 |succ i=>
  rw[Nat.testBit_succ,Nat.testBit_succ,Nat.testBit_succ];have:(2*k)/2=k:=(by omega);have a:(2*k-1)/2=k-1:=(by omega);have b:(2*(k&&&(k-1)))/2=k&&&(k-1):=(by omega);rw[this,a,b,Nat.testBit_and]
theorem size_dbl {k:Nat} (h:k<2^61):size ((2*k:Nat):Int)=size (k:Int):=by
 rw[size_half (s:=((2*k:Nat):Int)) (by unfold q9;omega)];have a:((2*k:Nat):Int)%2=0:=(by omega);have b:((2*k:Nat):Int)/2=(k:Int):=(by omega);rw[a,b];omega
theorem size_odd {k:Nat} (h:k<2^61):size ((2*k+1:Nat):Int)=1+size (k:Int):=by
 rw[size_half (s:=((2*k+1:Nat):Int)) (by unfold q9;omega)];have a:((2*k+1:Nat):Int)%2=1:=(by omega);have b:((2*k+1:Nat):Int)/2=(k:Int):=(by omega);rw[a,b]
theorem pred_nat:∀(n:Nat),n≠0->n<2^62->(n&&&(n-1))<n/\size ((n&&&(n-1):Nat):Int)+1=size (n:Int)
 |n,b,d=>by
  rcases Nat.mod_two_eq_zero_or_one n with e|e
  obtain⟨k,rfl⟩:∃k,n=2*k:=⟨n/2,by omega⟩
  have hk:k≠0:=by omega
  obtain⟨c,a⟩:=pred_nat k hk (by omega)
  rw[pred_even k hk]
  exact⟨by omega,by rw[size_dbl (by omega),size_dbl (by omega)];exact a⟩
  obtain⟨k,rfl⟩:∃k,n=2*k+1:=⟨n/2,by omega⟩
  rw[pred_odd]
  exact⟨by omega,by rw[size_dbl (by omega),size_odd (by omega)];omega⟩
termination_by n=>n
theorem pred {s:Int} (d:q9 s) (h:s≠0):q9 (yD s (s-1))/\yD s (s-1)<s/\size (yD s (s-1))+1=size s:=by
 obtain⟨n,rfl,a⟩:=nat_of d;have b:n≠0:=(by omega);have e:(n:Int)-1=((n-1:Nat):Int):=(by omega);rw[e,uand_nat (lt63 a) (by omega)];obtain⟨f,c⟩:=pred_nat n b a;exact⟨by unfold q9;omega,by omega,c⟩
end BT
namespace U
def eK {α:Type} (eq:α->α->Bool) (p:α):List α->List α
 |[]=>[]
 |y::r=>if eq y p=true then eK eq y r else y::eK eq y r
def aQ {α:Type} (eq:α->α->Bool):List α->List α
 |[]=>[]
 |x::r=>x::eK eq x r
def jaX {α:Type} (eq:α->α->Bool) (l:List α) (i:Nat):Prop:=1<=i/\i<=l.length/\aQ eq (l.take i)=l.take i
def oi {α:Type} (eq:α->α->Bool) (l:List α) (n:Nat):Int:=((aQ eq (l.take n)).length:Int)
def Oo {α:Type} (eq:α->α->Bool) (l:List α) (i k:Nat) (r:List α):Prop:=1<=k/\i+k<=l.length/\r.length=l.length/\aQ eq (l.take (i+k))=r.take (aQ eq (l.take (i+k))).length/\r.drop (i+k-1)=l.drop (i+k-1)/\(aQ eq (l.take (i+k))).length<i+k
end U
namespace L
theorem nodup_len {α:Type}:∀(a b:List α),a.Nodup->(∀x∈a,x∈b)->a.length<=b.length
 |[],_,_,_=>by simp
 |x::a,b,hn,h=>by
  obtain⟨e,f,rfl⟩:=List.append_of_mem (h x (by simp))
  rw[zw] at hn
  have:=nodup_len a (e++f) hn.2 (fun y d=>by
   have:=h y (by simp[d])
   rw[js,jk] at this
   rw[js]
   rcases this with c|c|c
   exact .inl c
   subst c;exact absurd d hn.1
   exact .inr c)
  simp at this⊢
  omega
theorem oq {α:Type} [DecidableEq α]:∀{a b:List α},a.Nodup->b.Nodup->(∀n,n∈a↔n∈b)->a.Perm b
 |[],b,_,_,h=>by
  have:b=[]:=by
   cases b with
   |nil=>rfl
   |cons x r=>exact absurd ((h x).2 (by simp)) (by simp)
  rw[this]
 |x::r,b,ha,hb,h=>by
  have i:x∈b:=(h x).1 (by simp);have f:=List.perm_cons_erase i;refine(List.Perm.cons x (oq (zw.1 ha).2 (hb.erase x) (fun n=> ?_))).trans f.symm;rw[hb.mem_erase_iff];constructor;intro c;exact⟨fun e=>by subst e;exact(zw.1 ha).1 c,(h n).1 (jm _ c)⟩;rintro⟨d,c⟩;rcases jk.1 ((h n).2 c) with e|g;exact absurd e d;exact g
theorem nodup_inj {α β:Type} {f:α->β}:∀{l:List α},(l.map f).Nodup->∀{x y:α},x∈l->y∈l->f x=f y->x=y
 |[],_,_,_,h,_,_=>by simp at h
 |a::r,hn,x,y,hx,hy,e=>by
  simp only[zg,zw] at hn
  rcases jk.1 hx with rfl|c
  rcases jk.1 hy with rfl|b
  rfl
  exact absurd (jT.2 ⟨y,b,e.symm⟩) hn.1
  rcases jk.1 hy with rfl|b
  exact absurd (jT.2 ⟨x,c,e⟩) hn.1
  exact nodup_inj hn.2 c b e
theorem nth_take {α:Type} [Inhabited α] {l:List α} {i n:Nat} (h:i<n):nth (l.take n) i=nth l i:=by
 unfold nth;rw[zc,zc,jR h]
theorem nth_drop {α:Type} [Inhabited α] {l r:List α} {a n:Nat} (h:l.drop a=r.drop a) (b:a<=n):nth l n=nth r n:=by
 have e:=jN (fun x=>x[n-a]?) h;simp only[zh] at e;rw[show a+(n-a)=n by omega] at e;unfold nth;rw[zc,zc,e]
theorem Bg {α β:Type} [Inhabited α] [Inhabited β] {f:α->β} {l:List α} {i:Nat} (h:i<l.length):nth (l.map f) i=f (nth l i):=by
 rw[wB (by simpa using h),wB h];simp
theorem ye {α:Type} [Inhabited α] {l:List α} {i j:Nat} {x:α} (h:i<l.length):nth (l.set i x) j=if i=j then x else nth l j:=by
 unfold nth;rw[zc,zc,List.getElem?_set]
 split
 rename_i e;subst e;simp[h];rfl
theorem ag {α:Type} [Inhabited α] {n i:Nat} {x:α} (h:i<n):nth (List.replicate n x) i=x:=by
 unfold nth;rw[zc,List.getElem?_replicate,jd h];rfl
theorem ext_nth {α:Type} [Inhabited α] {a b:List α} (h:a.length=b.length) (d:∀i,i<a.length->nth a i=nth b i):a=b:=by
 apply List.ext_getElem h;intro i c e;rw[<-wB c,<-wB e];exact d i c
theorem range_map_nth {α:Type} [Inhabited α] (l:List α):(List.range l.length).map (nth l)=l:=by
 apply ext_nth;simp;intro i hi;rw[Bg (by simpa using hi)];congr 1;rw[wB (by simpa using hi)];simp
section
variable {α:Type} [Inhabited α] {eq:α->α->Bool}
theorem compT_snoc (y:α):∀(r:List α) (p:α),eK eq p (r++[y])=eK eq p r++(if eq y (nth (p::r) r.length)=true then[] else[y])
 |[],p=>rfl
 |z::r,p=>by
  have e:nth (p::z::r) (z::r).length=nth (z::r) r.length:=rfl
  rw[e]
  simp only[jW,eK]
  split
  exact compT_snoc y r z
  rw[compT_snoc y r z];rfl
theorem comp_snoc (y:α) {l:List α} (h:l≠[]):aQ eq (l++[y])=aQ eq l++(if eq y (nth l (l.length-1))=true then[] else[y]):=by
 cases l with
 |nil=>exact absurd rfl h
 |cons x r=>
  show x::eK eq x (r++[y])=_;rw[compT_snoc];have:(x::r).length-1=r.length:=(by simp);rw[this];rfl
theorem comp_take {l:List α} {n:Nat} (b:1<=n) (a:n<l.length):aQ eq (l.take (n+1))=aQ eq (l.take n)++(if eq (nth l n) (nth l (n-1))=true then[] else[nth l n]):=by
 rw[L.kQ a,comp_snoc];have e:(l.take n).length-1=n-1:=(by rw[jX];omega);rw[e,nth_take (by omega)];intro e;have:=jN List.length e;rw[jX,zv] at this;omega
end
theorem comp_short {α:Type} {eq:α->α->Bool} {l:List α} (h:l.length<2):aQ eq l=l:=by
 match l,h with
 |[],_=>rfl
 |[x],_=>rfl
theorem comp_len {α:Type} {eq:α->α->Bool} (l:List α):(aQ eq l).length<=l.length:=by
 have:∀(r:List α) (p:α),(eK eq p r).length<=r.length:=by
  intro r
  induction r with
  |nil=>intro p;simp[eK]
  |cons y r a=>
   intro p;unfold eK
   split
   have:=a y;simp;omega;have:=a y;simp;omega
 cases l with
 |nil=>simp[aQ]
 |cons x r=>have:=this r x;simp[aQ];omega
theorem inv9_next {α:Type} [Inhabited α] {eq:α->α->Bool} {l r:List α} {i k:Nat} (hi:1<=i) (h:Oo eq l i k r) (g:i+k<l.length):
 (eq (nth r (i+k)) (nth r (i+k-1))=false->oi eq l (i+(k+1))=oi eq l (i+k)+1/\Oo eq l i (k+1) (r.set (oi eq l (i+k)).toNat (nth r (i+k))))/\
 (eq (nth r (i+k)) (nth r (i+k-1))=true->oi eq l (i+(k+1))=oi eq l (i+k)/\Oo eq l i (k+1) r):=by
 obtain⟨s,t,j,d,e,p⟩:=h;have o:nth r (i+k)=nth l (i+k):=nth_drop e (by omega);have e2:nth r (i+k-1)=nth l (i+k-1):=nth_drop e (by omega);have a:=comp_take (eq:=eq) (l:=l) (n:=i+k) (by omega) g;rw[show i+k+1=i+(k+1) by omega] at a;have m:r.drop (i+k)=l.drop (i+k):=by
  have:=jN (List.drop 1) e;rw[List.drop_drop,List.drop_drop,show i+k-1+1=i+k by omega] at this;exact this
 rw[o,e2];obtain⟨c,b⟩:∃c,c=aQ eq (l.take (i+k)):=⟨_,rfl⟩;rw[<-b] at a d p;have q:(oi eq l (i+k))=(c.length:Int):=(by unfold oi;rw[<-b]);rw[q];refine⟨fun f=> ?_,fun f=> ?_⟩;rw[jc (by rw[f];simp)] at a;refine⟨by unfold oi;rw[a];simp,by omega,by omega,by simpa using j,?_,?_,?_⟩;rw[a];simp only[ju,jJ,jY,zv];rw[List.take_add_one,List.getElem?_set_self (by omega)];rw[List.take_set_of_le (by omega),<-d];rfl;rw[show i+(k+1)-1=i+k by omega];simp only[ju];rw[List.drop_set_of_lt (by omega)];exact m;rw[a];simp;omega;rw[jd f,j9] at a;refine⟨by unfold oi;rw[a],by omega,by omega,j,?_,?_,?_⟩;rw[a];exact d;rw[show i+(k+1)-1=i+k by omega];exact m;rw[a];omega
theorem compT_sub {α:Type} {eq:α->α->Bool}:∀(r:List α) (p x:α),x∈eK eq p r->x∈r
 |[],_,_,h=>by simp[eK] at h
 |y::r,p,x,h=>by
  unfold eK at h
  split at h
  exact jm _ (compT_sub r y x h)
  rcases jk.1 h with rfl|h
  simp
  exact jm _ (compT_sub r y x h)
theorem comp_sub {α:Type} {eq:α->α->Bool} {l:List α} {x:α} (h:x∈aQ eq l):x∈l:=by
 cases l with
 |nil=>simp[aQ] at h
 |cons y r=>
  unfold aQ at h;rcases jk.1 h with rfl|h;simp;exact jm _ (compT_sub r y x h)
theorem compT_mem {α:Type} [DecidableEq α]:∀(r:List α) (p x:α),x∈r->x=p\/x∈eK (fun a b=>decide (a=b)) p r
 |y::r,p,x,h=>by
  unfold eK
  rcases jk.1 h with rfl|h
  by_cases e:x=p
  exact .inl e
  rw[jc (by simpa using e)];right;simp
  rcases compT_mem r y x h with rfl|c
  by_cases e:x=p
  exact .inl e
  rw[jc (by simpa using e)];right;simp
  right
  split
  exact c
  exact jm _ c
theorem comp_mem {α:Type} [DecidableEq α] {l:List α} {x:α}:x∈aQ (fun a b=>decide (a=b)) l↔x∈l:=by
 refine⟨comp_sub,fun h=> ?_⟩;cases l with
 |nil=>simp at h
 |cons y r=>
  unfold aQ;rcases jk.1 h with rfl|h;simp;rcases compT_mem r y x h with rfl|c;simp;exact jm _ c
theorem comp_asc {α:Type} [DecidableEq α] {lt:α->α->Bool}:∀{l:List α},qZ lt l->QH lt l->(aQ (fun a b=>decide (a=b)) l).Pairwise (fun a b=>lt a b=true):=by
 have i:∀(r:List α) (p:α),qZ lt (p::r)->QH lt (p::r)->(p::eK (fun a b=>decide (a=b)) p r).Pairwise (fun a b=>lt a b=true):=by
  intro r
  induction r with
  |nil=>intro p _ _;exact List.pairwise_singleton _ _
  |cons y r n=>
   intro p f j;have d:=zB.1 j;have k:qZ lt (y::r):=f.sub (fun z c=>jm _ c);have hi:=n y k d.2;unfold eK;by_cases e:y=p;rw[jd (by simpa using e)];subst e;exact hi;rw[jc (by simpa using e)];refine zB.2 ⟨fun z c=> ?_,hi⟩;have g:lt p y=true:=by
    cases h:lt p y with
    |true=>rfl
    |false=>exact absurd (f.total p y (by simp) (by simp) h (d.1 y (by simp))).symm e
   rcases jk.1 c with rfl|c;exact g;have m:=compT_sub r y z c;exact f.trans p y z (by simp) (by simp) (by simp[m]) g ((zB.1 hi).1 z c)
 intro l f j;cases l with
 |nil=>exact List.Pairwise.nil
 |cons p r=>exact i r p f j
theorem asc_nodup {α:Type} {lt:α->α->Bool} {l:List α} (hi:∀x,lt x x=false) (h:l.Pairwise (fun a b=>lt a b=true)):l.Nodup:=
 h.imp (fun{a b} h e=>by subst e;rw[hi] at h;cases h)
theorem filter_take {α:Type} [Inhabited α] {p:α->Bool} {l:List α} {i:Nat} (h:i<l.length):(l.take (i+1)).filter p=(l.take i).filter p++(if p (nth l i)=true then[nth l i] else[]):=by
 rw[kQ h,List.filter_append];congr 1;by_cases e:p (nth l i)=true<;>simp[e]
theorem cL {p:Nat->Bool} {n:Nat}:(List.range (n+1)).filter p=(List.range n).filter p++(if p n=true then[n] else[]):=by
 rw[za,List.filter_append];congr 1;by_cases e:p n=true<;>simp[e]
end L
end Go.X
namespace Go.X
open U
abbrev tSp:Ty:= .st [.int,.int]
abbrev tPe:Ty:= .st [.slice .int,.int,.int,.slice .int,.bool,.int]
abbrev tLw:Ty:= .st [.int,.int,.bool]
abbrev tCr:Ty:= .st [.int,.slice tPe,.slice tLw]
abbrev tJb:Ty:= .st [.int,.int,.int,.int,.int,.int]
abbrev tBk:Ty:= .st [tJb,.int,.int,.int]
abbrev tSh:Ty:= .st [.int,.int,.int,.int,.int]
abbrev tDy:Ty:= .st [tCr,.slice (.slice tSp),.slice tBk,.int,.int,.slice tSh]
abbrev SpD:Type:=Int×Int×Unit
abbrev PeD:Type:=List Int×Int×Int×List Int×Bool×Int×Unit
abbrev LwD:Type:=Int×Int×Bool×Unit
abbrev CrD:Type:=Int×List PeD×List LwD×Unit
abbrev JbD:Type:=Int×Int×Int×Int×Int×Int×Unit
abbrev BkD:Type:=JbD×Int×Int×Int×Unit
abbrev ShD:Type:=Int×Int×Int×Int×Int×Unit
abbrev DyD:Type:=CrD×List (List SpD)×List BkD×Int×Int×List ShD×Unit
namespace U
def lo (s:SpD):Int:=s.1
def hi (s:SpD):Int:=s.2.1
def kl (n a b:Int):Bool:=decide (a<=n)&&decide (n<=b)
def lv (p:PeD):List Int:=p.1
def fd (p:PeD):Int:=p.2.1
def cl (p:PeD):Int:=p.2.2.1
def yU (p:PeD):List Int:=p.2.2.2.1
def jcn (p:PeD):Bool:=p.2.2.2.2.1
def fe (p:PeD):Int:=p.2.2.2.2.2.1
def Wi (l:LwD):Int:=l.1
def jbe (l:LwD):Int:=l.2.1
def jdi (l:LwD):Bool:=l.2.2.1
def la (c:CrD):Int:=c.1
def kE (c:CrD):List PeD:=c.2.1
def v6 (c:CrD):List LwD:=c.2.2.1
def Sl (j:JbD):Int:=j.1
def LC (j:JbD):Int:=j.2.1
def Yg (j:JbD):Int:=j.2.2.1
def Yh (j:JbD):Int:=j.2.2.2.1
def i9 (j:JbD):Int:=j.2.2.2.2.1
def jbf (j:JbD):Int:=j.2.2.2.2.2.1
def y8 (b:BkD):JbD:=b.1
def jaY (b:BkD):Int:=b.2.1
def qx (b:BkD):Int:=b.2.2.1
def mY (b:BkD):Int:=b.2.2.2.1
def y9 (s:ShD):Int:=s.1
def IA (s:ShD):Int:=s.2.1
def Yi (s:ShD):Int:=s.2.2.1
def Lf (s:ShD):Int:=s.2.2.2.1
def oj (s:ShD):Int:=s.2.2.2.2.1
def kG (d:DyD):CrD:=d.1
def wn (d:DyD):List (List SpD):=d.2.1
def kC (d:DyD):List BkD:=d.2.2.1
def R9 (d:DyD):Int:=d.2.2.2.1
def jaZ (d:DyD):Int:=d.2.2.2.2.1
def qj (d:DyD):List ShD:=d.2.2.2.2.2.1
def ij (L:Int) (p:PeD):Bool:=decide (((lv p).length:Int)=L/\0<=fd p/\fd p<=255/\0<=cl p/\cl p<=255/\(yU p).length<=10/\0<=fe p/\fe p<=1000)&&((lv p).all (fun n=>kl n 0 5)&&(yU p).all (fun n=>kl n 0 99))
def eM (l:LwD):Bool:=kl (Wi l) 1 5&&kl (jbe l) 1 8
def kV (c:CrD):Bool:=decide (2<=la c/\la c<=5/\(kE c).length<=8/\(v6 c).length=4)&&((kE c).all (ij (la c))&&(v6 c).all eM)
def w6 (c:CrD) (j:JbD):Bool:=decide (0<=Sl j/\Sl j<=la c-1/\0<=LC j/\LC j<=la c-1/\Sl j≠LC j/\0<=Yg j/\Yg j<=99/\0<=Yh j/\Yh j<=7/\0<=i9 j/\i9 j<=3/\1<=jbf j/\jbf j<=8)
def qB (c:CrD) (j:JbD):Int:=if kV c=false then 30 else if w6 c j=false then 31 else 0
def tb (s:SpD):Bool:=decide (0<=lo s/\lo s<=hi s/\hi s<=300)
def bV (n:Nat) (r:List SpD):Bool:=decide (r.length=n)&&r.all tb
def mj (n:Nat) (b:BkD):Bool:=decide (0<=jaY b/\jaY b<=(n:Int)-1/\0<=qx b/\qx b<mY b/\mY b<=1440)
def ml (nb a:Nat) (s:ShD):Bool:=decide (0<=y9 s/\y9 s<=99/\0<=IA s/\IA s<=9999/\1<=Yi s/\Yi s<=2/\0<=Lf s/\Lf s<=(nb:Int)-1/\0<=oj s/\oj s<=(a:Int)-1)
def wK (d:DyD):Bool:=decide ((kC d).length<=4/\1<=(wn d).length/\(wn d).length<=5/\0<=R9 d/\R9 d<=300/\0<=jaZ d/\jaZ d<=1440/\(qj d).length<=30)&&
 ((wn d).all (bV (wn d).length)&&((kC d).all (mj (wn d).length)&&(qj d).all (ml (kC d).length (kE (kG d)).length)))
def DU (a b:ShD):Bool:=decide (y9 a=y9 b)&& !decide (a=b)
def Bd (l:List ShD) (i:Nat):Bool:=(l.take i).any (DU (nth l i))
def gw (l:List ShD) (n:Nat):Bool:=(List.range n).any (Bd l)
def aX (l:List ShD):Bool:=gw l l.length
def Lg (d:DyD):Bool:=(kC d).all (fun b=>w6 (kG d) (y8 b))
def dm (d:DyD):Int:=if kV (kG d)=false then 30 else if Lg d=false then 31 else if wK d=false then 50 else if aX (qj d)=true then 51 else 0
def Iq (l:List ShD) (i:Nat):Bool:= !((l.take i).any (fun x=>decide (x=nth l i)))
def Yj (l:List ShD) (n m:Nat):List ShD:=((List.range n).filter (fun i=>decide (y9 (nth l i)=(m:Int))&&Iq l i)).map (nth l)
def V3 (l:List ShD) (n:Nat):List ShD:=(List.range n).flatMap (Yj l l.length)
def E2 (l:List ShD):List ShD:=V3 l 100
def Lh (p:PeD) (a:Int):Bool:=(yU p).any (fun t=>decide (t=a))
def qb (s n:Int):Bool:=decide (nQ (s/2^n.toNat) 1=1)
def gx (c:CrD) (j:JbD) (p:Int):Bool:= !(Lh (nth (kE c) p.toNat) (Yg j))&&qb (fd (nth (kE c) p.toNat)) (Yh j)&&qb (cl (nth (kE c) p.toNat)) (i9 j)
def bk (d:DyD) (b:Int):BkD:=nth (kC d) b.toNat
def ja0 (d:DyD) (a b:Int):Int:=hi (nth (nth (wn d) (jaY (bk d a)).toNat) (jaY (bk d b)).toNat)
def cH (d:DyD) (a b:Int):Bool:=decide (qx (bk d a)<qx (bk d b)\/(qx (bk d a)=qx (bk d b)/\a<b))
def bW (d:DyD) (a b:Int):Int:=qx (bk d b)-mY (bk d a)-R9 d-ja0 d a b
def mm (d:DyD) (a b:Int):Bool:=if cH d b a=true then decide (0<=bW d b a) else decide (0<=bW d a b)
def Oq (d:DyD) (l:List Int):Int:=(l.map (fun b=>mY (bk d b)-qx (bk d b))).foldl (·+·) 0
def jco (d:DyD) (l:List Int):Bool:=(List.range l.length).all (fun i=>(l.take i).all (fun b=>mm d (nth l i) b))
def iB (d:DyD) (p:Int) (l:List Int):Bool:=l.all (fun b=>gx (kG d) (y8 (bk d b)) p)&&(jco d l&&decide (Oq d l<=jaZ d))
def y5 (a b:ShD):Bool:=decide (IA b<IA a\/(IA a=IA b/\y9 b<y9 a))
def Be (l:List ShD) (s:ShD):Bool:=decide (Yi s=1)&& !(l.any (fun t=>decide (Lf t=Lf s)&&decide (oj t=oj s)&&y5 t s))
def ja1 (a b:ShD):Bool:=y5 b a
def jdj (t:List Int) (p:Int) (n:Nat):List Int:=((List.range n).filter (fun b=>qb (nth t b) p)).map (fun(b:Nat)=>(b:Int))
def on (t:List Int) (p:Int):List Int:=jdj t p t.length
def Gl (d:DyD) (x:List Int×List Int) (s:ShD):List Int×List Int:=
 if iB d (oj s) (on x.1 (oj s)++[Lf s])=true then(x.1.set (Lf s).toNat (nth x.1 (Lf s).toNat+2^(oj s).toNat),x.2) else(x.1,x.2++[y9 s])
def jcp (c:CrD) (t:Int) (d a b:Int):Bool:=(List.range (kE c).length).any (fun i=>qb t (i:Int)&&decide (d<=nth (lv (nth (kE c) i)) a.toNat)&&decide (d<=nth (lv (nth (kE c) i)) b.toNat))
def eN (c:CrD) (j:JbD):LwD:=nth (v6 c) (i9 j).toNat
end U
inductive Rch (J:Nat->Nat->Bool) (n s:Nat):Nat->Prop where
 |base:Rch J n s s
 |step {a b:Nat}:Rch J n s a->b<n->J a b=true->Rch J n s b
theorem Rch.lt {J:Nat->Nat->Bool} {n s t:Nat} (a:s<n) (h:Rch J n s t):t<n:=by
 cases h with
 |base=>exact a
 |step _ h _=>exact h
theorem Rch.trans {J:Nat->Nat->Bool} {n s t u:Nat} (a:Rch J n s t) (b:Rch J n t u):Rch J n s u:=by
 induction b with
 |base=>exact a
 |step _ c d e=>exact .step e c d
theorem Rch.symm {J:Nat->Nat->Bool} {n s t:Nat} (c:∀a b,J a b=J b a) (f:s<n) (h:Rch J n s t):Rch J n t s:=by
 induction h with
 |base=>exact .base
 |step d i e g=>
  rename_i a b;have:Rch J n b a:= .step .base (d.lt f) (by rw[c];exact e);exact this.trans g
theorem Rch.closed {J:Nat->Nat->Bool} {n s t:Nat} {S:Nat->Prop} (i:s<n) (c:S s) (f:∀a b,a<n->S a->b<n->J a b=true->S b) (h:Rch J n s t):S t:=by
 induction h with
 |base=>exact c
 |step d e g j=>exact f _ _ (d.lt i) j e g
namespace U
def Yk (J:Nat->Nat->Bool) (r a:Nat) (out:List Int) (b:Nat):List Int:=if nth out a=(r:Int)/\nth out b<0/\J a b=true then out.set b ((r:Int)+1) else out
def jdk (J:Nat->Nat->Bool) (r a:Nat) (out:List Int) (k:Nat):List Int:=(List.range k).foldl (Yk J r a) out
def jdl (J:Nat->Nat->Bool) (n r:Nat) (out:List Int) (k:Nat):List Int:=(List.range k).foldl (fun o a=>jdk J r a o n) out
def yc (n s:Nat):List Int:=(List.replicate n (-1:Int)).set s 0
def AN (J:Nat->Nat->Bool) (n s k:Nat):List Int:=(List.range k).foldl (fun o r=>jdl J n r o n) (yc n s)
def td (J:Nat->Nat->Bool) (q:Nat) (x:List Int×List Int) (b:Nat):List Int×List Int:=if nth x.1 b<0/\J q b=true then(x.1.set b (nth x.1 q+1),x.2++[(b:Int)]) else x
def tg (J:Nat->Nat->Bool) (q:Nat) (x:List Int×List Int) (k:Nat):List Int×List Int:=(List.range k).foldl (td J q) x
def gy (J:Nat->Nat->Bool) (n:Nat) (x:List Int×List Int):List Int×List Int:=match x.2 with
 |[]=>x
 |q::_=>((tg J q.toNat x n).1,(tg J q.toNat x n).2.drop 1)
def gG (J:Nat->Nat->Bool) (n s:Nat):Nat->List Int×List Int
 |0=>(yc n s,[(s:Int)])
 |k+1=>gy J n (gG J n s k)
def jcq (J:Nat->Nat->Bool) (n s:Nat):List Int:=(gG J n s (n+1)).1
end U
theorem CG (n s:Nat):(yc n s).length=n:=by unfold yc;simp
theorem CH {n s x:Nat} (a:s<n) (b:x<n):nth (yc n s) x=if s=x then 0 else-1:=by
 unfold yc;rw[L.ye (by simpa using a),L.ag b]
structure Sj (J:Nat->Nat->Bool) (n s r a b:Nat) (out:List Int):Prop where
 len:out.length=n
 val:∀x,x<n->nth out x= -1\/(0<=nth out x/\nth out x<=(r:Int)+1)
 top:(a=0/\b=0)->∀x,x<n->nth out x<=(r:Int)
 zero:0<=nth out s
 rch:∀x,x<n->0<=nth out x->Rch J n s x
 lev:∀x,x<n->0<nth out x->∃y,y<n/\nth out y=nth out x-1
 cls:∀x y,x<n->y<n->0<=nth out x->(nth out x<(r:Int)\/(nth out x=(r:Int)/\(x<a\/(x=a/\y<b))))->J x y=true->0<=nth out y
theorem TW {J:Nat->Nat->Bool} {n s r a b:Nat} {out:List Int} (_:s<n) (t:a<n) (u:b<n) (h:Sj J n s r a b out):Sj J n s r a (b+1) (Yk J r a out b):=by
 unfold Yk
 split
 rename_i q;obtain⟨c1,c2,v⟩:=q;have p:b<out.length:=(by rw[h.len];exact u);have c:∀j,nth (out.set b ((r:Int)+1)) j=if b=j then(r:Int)+1 else nth out j:=fun j=>L.ye p
 have o:b≠a:=fun e=>by subst e;omega
 refine⟨by simpa using h.len,fun x g=> ?_,fun e=>by omega,?_,fun x g f=> ?_,fun x g f=> ?_,fun x y g k f d l=> ?_⟩;rw[c];split;right;omega;exact h.val x g;rw[c];split;omega;exact h.zero;rw[c] at f
 split at f
 rename_i e;subst e;exact .step (h.rch a t (by omega)) u v;exact h.rch x g f;rw[c] at f⊢
 split at f
 rename_i e;subst e;rw[jd rfl];exact⟨a,t,by rw[c,jc o];omega⟩;rename_i e;rw[jc e];obtain⟨y,k,e2⟩:=h.lev x g f;refine⟨y,k,?_⟩;rw[c,jc (fun e=>by subst e;omega)];exact e2;rw[c] at f d⊢
 split
 omega;rename_i z
 split at f
 rename_i e;rw[jd e] at d;omega;rename_i e;rw[jc e] at d;refine h.cls x y g k f ?_ l;rcases d with d|⟨d,i|⟨i,w⟩⟩;exact .inl d;exact .inr ⟨d,.inl i⟩;exact .inr ⟨d,.inr ⟨i,by omega⟩⟩;rename_i q;refine⟨h.len,h.val,fun e=>by omega,h.zero,h.rch,h.lev,fun x y g k f d l=> ?_⟩;rcases d with d|⟨d,i|⟨i,w⟩⟩;exact h.cls x y g k f (.inl d) l;exact h.cls x y g k f (.inr ⟨d,.inl i⟩) l;by_cases e:y=b;subst e;subst i;rcases Int.lt_or_le (nth out y) 0 with m|m;exact absurd ⟨d,m,l⟩ q;exact m;exact h.cls x y g k f (.inr ⟨d,.inr ⟨i,by omega⟩⟩) l
theorem YH {J:Nat->Nat->Bool} {n s r a:Nat} {out:List Int} (c:s<n) (b:a<n) (h:Sj J n s r a 0 out):∀k,k<=n->Sj J n s r a k (jdk J r a out k)
 |0,_=>h
 |k+1,hk=>by
  have:=TW c b (show k<n by omega) (YH c b h k (by omega))
  unfold jdk at this⊢
  rw[za,jL];exact this
theorem ZY {J:Nat->Nat->Bool} {n s r a:Nat} {out:List Int} (_:0<n) (h:Sj J n s r a n out):Sj J n s r (a+1) 0 out:=by
 refine⟨h.len,h.val,fun e=>by omega,h.zero,h.rch,h.lev,fun x y i c d b g=>h.cls x y i c d ?_ g⟩;rcases b with b|⟨b,f|⟨f,j⟩⟩;exact .inl b;by_cases e:x=a;exact .inr ⟨b,.inr ⟨e,c⟩⟩;exact .inr ⟨b,.inl (by omega)⟩;omega
theorem YI {J:Nat->Nat->Bool} {n s r:Nat} {out:List Int} (a:s<n) (h:Sj J n s r 0 0 out):∀k,k<=n->Sj J n s r k 0 (jdl J n r out k)
 |0,_=>h
 |k+1,hk=>by
  have:=ZY (by omega) (YH a (show k<n by omega) (YI a h k (by omega)) n (jj _))
  unfold jdl at this⊢
  rw[za,jL];exact this
theorem ZZ {J:Nat->Nat->Bool} {n s r:Nat} {out:List Int} (h:Sj J n s r n 0 out):Sj J n s (r+1) 0 0 out:=by
 refine⟨h.len,fun x a=> ?_,fun _ x a=> ?_,h.zero,h.rch,h.lev,fun x y a i d b g=>h.cls x y a i d ?_ g⟩;rcases h.val x a with e|⟨c,e2⟩;exact .inl e;exact .inr ⟨c,by omega⟩;rcases h.val x a with e|⟨c,e2⟩<;>omega
 rcases b with b|⟨b,f|⟨f,j⟩⟩;by_cases e:nth out x=(r:Int);exact .inr ⟨e,.inl a⟩;exact .inl (by omega);omega;omega
theorem YJ {J:Nat->Nat->Bool} {n s:Nat} (c:s<n):∀k,Sj J n s k 0 0 (AN J n s k)
 |0=>by
  have hi:∀x,x<n->nth (AN J n s 0) x=if s=x then 0 else-1:=fun x a=>CH c a
  refine⟨CG n s,fun x a=> ?_,fun _ x a=> ?_,by rw[hi s c,jd rfl];omega,fun x a b=> ?_,fun x a b=> ?_,fun x y a g b f d=> ?_⟩
  rw[hi x a];split<;>simp
  rw[hi x a];split<;>simp
  rw[hi x a] at b
  split at b
  rename_i e;subst e;exact .base
  omega
  rw[hi x a] at b;split at b<;>omega
  omega
 |k+1=>by
  have:=ZZ (YI c (YJ (J:=J) c k) n (jj _))
  unfold AN at this⊢
  rw[za,jL];exact this
theorem TX {J:Nat->Nat->Bool} {n s r a b:Nat} {out:List Int} (h:Sj J n s r a b out):∀(k:Nat) x,x<n->nth out x=(k:Int)->∀j,j<=k->∃y,y<n/\nth out y=(j:Int)
 |0,x,c,e,j,d=>⟨x,c,by rw[e];omega⟩
 |k+1,x,c,e,j,d=>by
  by_cases f:j=k+1
  exact⟨x,c,by rw[e];omega⟩
  obtain⟨y,g,e2⟩:=h.lev x c (by omega)
  exact TX h k y g (by rw[e2];omega) j (by omega)
theorem jbL {J:Nat->Nat->Bool} {n s x:Nat} (o:s<n) (u:x<n):nth (AN J n s n) x<0↔¬Rch J n s x:=by
 have h:=YJ (J:=J) o n;have i:∀y,y<n->nth (AN J n s n) y<(n:Int):=by
  intro y p;have c:=h.top ⟨rfl,rfl⟩ y p;rcases Int.lt_or_le (nth (AN J n s n) y) (n:Int) with l|l;exact l;exfalso;have e:nth (AN J n s n) y=(n:Int):=(by omega);have d:=TX h n y p e;have:=L.nodup_len ((List.range (n+1)).map (fun(j:Nat)=>(j:Int))) (AN J n s n) (List.Pairwise.map _ (fun a b f=>by intro e2;exact f (by omega)) List.nodup_range) (fun z v=>by
   obtain⟨j,g,rfl⟩:=jT.1 v;obtain⟨w,t,q⟩:=d j (by have:=jC.1 g;omega);rw[<-q];exact L.kx (by rw[h.len];exact t))
  rw[h.len] at this;simp at this;omega
 constructor;intro A k;have:=k.closed (S:=fun y=>0<=nth (AN J n s n) y) o h.zero (fun a b m c r g=>h.cls a b m r c (.inl (i a m)) g);have this:0<=nth (AN J n s n) x:=this;omega;intro k;rcases Int.lt_or_le (nth (AN J n s n) x) 0 with c|c;exact c;exact absurd (h.rch x u c) k
def Jv (out:List Int):Nat:=out.countP (fun z=>decide (z<0))
theorem Hf:∀{out:List Int} {b:Nat} {v:Int},b<out.length->nth out b<0->0<=v->Jv (out.set b v)+1=Jv out
 |[],b,v,h,_,_=>by simp at h
 |z::r,0,v,_,a,h2=>by
  have a:z<0:=a
  unfold Jv
  rw[List.set_cons_zero,ki,ki,jc (by simpa using h2),jd (by simpa using a)]
 |z::r,b+1,v,h,a,h2=>by
  have:=Hf (out:=r) (b:=b) (v:=v) (by simpa using h) a h2
  unfold Jv at this⊢
  rw[List.set_cons_succ,ki,ki]
  omega
structure jc3 (J:Nat->Nat->Bool) (n s:Nat) (ex:Nat->Nat->Prop) (x:List Int×List Int):Prop where
 len:x.1.length=n
 low:∀y,y<n->-1<=nth x.1 y/\nth x.1 y<=(n:Int)*2
 zero:0<=nth x.1 s
 rch:∀y,y<n->0<=nth x.1 y->Rch J n s y
 que:∀q,q∈x.2->0<=q/\q<(n:Int)/\0<=nth x.1 q.toNat
 cls:∀y z,y<n->z<n->0<=nth x.1 y->(y:Int)∉x.2\/ex y z->J y z=true->0<=nth x.1 z
def ME (n:Nat) (x:List Int×List Int):Prop:=∀y,y<n->nth x.1 y+(Jv x.1:Int)<=(n:Int)-1
theorem FY (J:Nat->Nat->Bool) (q:Nat) (x:List Int×List Int) (k:Nat):tg J q x (k+1)=td J q (tg J q x k) k:=by
 unfold tg;rw[za,jL];rfl
structure InI (J:Nat->Nat->Bool) (n s q k:Nat) (x0 x:List Int×List Int):Prop where
 i:jc3 J n s (fun y z=>y=q/\z<k) x
 le:ME n x
 mu:Jv x.1+x.2.length=Jv x0.1+x0.2.length
 pre:∃l,x.2=x0.2++l
 keep:∀y,y<n->0<=nth x0.1 y->nth x.1 y=nth x0.1 y
theorem Z0 {J:Nat->Nat->Bool} {n s q k:Nat} {x0 x:List Int×List Int} (M:s<n) (p:q<n) (w:0<=nth x0.1 q) (hk:k<n) (h:InI J n s q k x0 x):InI J n s q (k+1) x0 (td J q x k):=by
 have G:nth x.1 q=nth x0.1 q:=h.keep q p w;unfold td
 split
 rename_i t;obtain⟨c1,c2⟩:=t;have m:k<x.1.length:=(by rw[h.i.len];exact hk);have b:∀j,nth (x.1.set k (nth x.1 q+1)) j=if k=j then nth x.1 q+1 else nth x.1 j:=fun j=>L.ye m
 have E:=Hf (v:=nth x.1 q+1) m c1 (by omega);have F:=h.le q p;have u:k≠q:=fun e=>by subst e;omega
 obtain⟨l,C⟩:=h.pre;refine⟨⟨by simpa using h.i.len,fun y d=> ?_,?_,fun y d c=> ?_,fun z f=> ?_,fun y z d f c a g=> ?_⟩,fun y d=> ?_,?_,⟨l++[(k:Int)],by simp only[C,jI]⟩,fun y d c=> ?_⟩;simp only;rw[b];split;have:=h.i.low q p;omega;exact h.i.low y d;simp only;rw[b];split;omega;exact h.i.zero;simp only at c⊢;rw[b] at c
 split at c
 rename_i e;subst e;exact .step (h.i.rch q p (by omega)) hk c2;exact h.i.rch y d c;simp only at f⊢;rcases js.1 f with f|f;obtain⟨H,I,K⟩:=h.i.que z f;refine⟨H,I,?_⟩;rw[b];split;omega;exact K;simp at f;subst f;refine⟨by omega,by omega,?_⟩;rw[ju,b,jd rfl];omega;simp only at c a⊢;rw[b] at c⊢
 split
 omega;rename_i B;by_cases e:k=y;subst e;rcases a with a|⟨a,_⟩;exact absurd (jg _ (by simp)) a;exact absurd a u;rw[jc e] at c;refine h.i.cls y z d f c ?_ g;rcases a with a|⟨o,A⟩;exact .inl (fun D=>a (jh _ D));exact .inr ⟨o,by omega⟩;simp only;rw[b];split;omega;have:=h.le y d;omega;have:=h.mu;simp only[jJ,jY,zv];omega;have:=h.keep y d c;simp only;rw[b,jc (fun e=>by subst e;omega)];exact this;rename_i t;refine⟨⟨h.i.len,h.i.low,h.i.zero,h.i.rch,h.i.que,fun y z d f c a g=> ?_⟩,h.le,h.mu,h.pre,h.keep⟩;rcases a with a|⟨o,A⟩;exact h.i.cls y z d f c (.inl a) g;by_cases e:z=k;subst e;subst o;rcases Int.lt_or_le (nth x.1 z) 0 with r|r;exact absurd ⟨r,g⟩ t;exact r;exact h.i.cls y z d f c (.inr ⟨o,by omega⟩) g
theorem TY {J:Nat->Nat->Bool} {n s q:Nat} {x:List Int×List Int} (e:s<n) (d:q<n) (b:0<=nth x.1 q) (hi:jc3 J n s (fun _ _=>False) x) (a:ME n x):∀k,k<=n->InI J n s q k x (tg J q x k)
 |0,_=>⟨⟨hi.len,hi.low,hi.zero,hi.rch,hi.que,fun y z i j f c g=>hi.cls y z i j f (by rcases c with h|⟨_,h⟩;exact .inl h;omega) g⟩,a,rfl,⟨[],by simp[tg]⟩,fun _ _ _=>rfl⟩
 |k+1,hk=>by rw[FY];exact Z0 e d b (by omega) (TY e d b hi a k (by omega))
structure jbc (J:Nat->Nat->Bool) (n s:Nat) (x:List Int×List Int):Prop where
 i:jc3 J n s (fun _ _=>False) x
 le:ME n x
theorem W5 {J:Nat->Nat->Bool} {n s:Nat} {x:List Int×List Int} (k:s<n) (h:jbc J n s x):jbc J n s (gy J n x)/\(x.2≠[]->Jv (gy J n x).1+(gy J n x).2.length+1=Jv x.1+x.2.length):=by
 obtain⟨st,o⟩:=x;cases o with
 |nil=>exact⟨h,fun h=>absurd rfl h⟩
 |cons q r=>
  obtain⟨p,t,m⟩:=h.i.que q (by simp);have hi:=TY k (q:=q.toNat) (by omega) m h.i h.le n (jj _);obtain⟨l,d⟩:=hi.pre;have e2:(gy J n (st,q::r))=((tg J q.toNat (st,q::r) n).1,r++l):=by
   show((tg J q.toNat (st,q::r) n).1,(tg J q.toNat (st,q::r) n).2.drop 1)=_;rw[d];rfl
  rw[e2];have b:=hi.mu;rw[d] at b;refine⟨⟨⟨hi.i.len,hi.i.low,hi.i.zero,hi.i.rch,fun z c=>hi.i.que z (by rw[d];simp only at c⊢;exact jm _ c),fun y z j c f a g=> ?_⟩,hi.le⟩,fun _=> ?_⟩;rcases a with a|a;by_cases e:y=q.toNat;exact hi.i.cls y z j c f (.inr ⟨e,c⟩) g;refine hi.i.cls y z j c f (.inl ?_) g;rw[d];intro b;rcases jk.1 b with e2|b;omega;exact a b;exact a.elim;simp only[jW,jY] at b⊢;omega
theorem Pr {J:Nat->Nat->Bool} {n s:Nat} (f:s<n):jbc J n s (gG J n s 0)/\Jv (gG J n s 0).1+(gG J n s 0).2.length=n:=by
 have hi:∀x,x<n->nth (yc n s) x=if s=x then 0 else-1:=fun x i=>CH f i
 have h:Jv (yc n s)+1=n:=by
  have:=Hf (out:=List.replicate n (-1:Int)) (b:=s) (v:=0) (by simpa using f) (by rw[L.ag f];decide) (by decide);unfold yc;rw[this];unfold Jv;rw[List.countP_replicate];simp
 refine⟨⟨⟨CG n s,fun y d=> ?_,?_,fun y d c=> ?_,fun q g=> ?_,fun y z d k c a j=> ?_⟩,fun y d=> ?_⟩,?_⟩;show-1<=nth (yc n s) y/\_;rw[show nth (gG J n s 0).1 y=_ from hi y d,hi y d];split<;>omega
 show 0<=nth (yc n s) s;rw[hi s f,jd rfl];omega;have c:0<=nth (yc n s) y:=c;rw[hi y d] at c
 split at c
 rename_i e;subst e;exact .base;omega;have g:q∈[(s:Int)]:=g;simp at g;subst g;refine⟨by omega,by omega,?_⟩;show 0<=nth (yc n s) (s:Int).toNat;rw[ju,hi s f,jd rfl];omega;have c:0<=nth (yc n s) y:=c;rw[hi y d] at c
 split at c
 rename_i e;subst e;rcases a with a|a;exact absurd (show(s:Int)∈[(s:Int)] by simp) a;exact a.elim;omega;show nth (yc n s) y+(Jv (yc n s):Int)<=(n:Int)-1;rw[hi y d];split<;>omega
 show Jv (yc n s)+1=n;exact h
theorem CI {J:Nat->Nat->Bool} {n s:Nat} (b:s<n):∀k,jbc J n s (gG J n s k)/\((gG J n s k).2=[]\/Jv (gG J n s k).1+(gG J n s k).2.length+k=n)
 |0=>⟨(Pr b).1,.inr (Pr b).2⟩
 |k+1=>by
  obtain⟨d,a⟩:=CI b k
  obtain⟨f,g⟩:=W5 b d
  refine⟨f,?_⟩
  by_cases e:(gG J n s k).2=[]
  left
  show(gy J n (gG J n s k)).2=[]
  unfold gy
  split
  exact e
  rename_i c;rw[e] at c;cases c
  right
  have:=g e
  rcases a with a|a
  exact absurd a e
  show Jv (gy J n (gG J n s k)).1+(gy J n (gG J n s k)).2.length+(k+1)=n
  omega
theorem Z1 {J:Nat->Nat->Bool} {n s:Nat} (a:s<n):(gG J n s (n+1)).2=[]:=by
 rcases(CI (J:=J) a (n+1)).2 with h|h;exact h;omega
theorem W6 {J:Nat->Nat->Bool} {n s k:Nat} (h:(gG J n s k).2=[]):∀m,k<=m->gG J n s m=gG J n s k:=by
 intro m c
 induction m with
 |zero=>have:k=0:=by omega
        subst this;rfl
 |succ m b=>
  by_cases e:k=m+1;rw[e];have e2:=b (by omega);show gy J n (gG J n s m)=_;rw[e2];unfold gy
  split
  rfl;rename_i a;rw[h] at a;cases a
theorem jbM {J:Nat->Nat->Bool} {n s x:Nat} (e:s<n) (l:x<n):nth (jcq J n s) x<0↔¬Rch J n s x:=by
 have h:=(CI (J:=J) e (n+1)).1;have j:=Z1 (J:=J) e;constructor;intro m d;have:=d.closed (S:=fun y=>0<=nth (jcq J n s) y) e h.i.zero (fun a b f c g k=>h.i.cls a b f g c (.inl (by rw[j];simp)) k);have this:0<=nth (jcq J n s) x:=this;omega;intro d;rcases Int.lt_or_le (nth (jcq J n s) x) 0 with c|c;exact c;exact absurd (h.i.rch x l c) d
theorem Z2 {J:Nat->Nat->Bool} {n a b:Nat} (e:∀x y,J x y=J y x) (c:a<n) (d:b<n):nth (AN J n a n) b<0↔nth (jcq J n b) a<0:=by
 rw[jbL c d,jbM d c];exact not_congr ⟨fun h=>h.symm e c,fun h=>h.symm e d⟩
namespace U
def yq {α:Type} (p:α->Bool) (l:List α):Int:=match l.findIdx? p with|some i=>(i:Int)|none=> -1
def ko {α:Type} (F:α×Unit->Bool×Unit) (g:α):Bool:=(F (g,())).1
end U
def gfb (t:Ty) (σ:St) (s:Nat):(Ty.st [t]).Data->(Ty.st [.bool]).Data:=gfn [t] [.bool] σ s
theorem qV:∀(l:List Prop) {k:Prop},kI l->k->asks l k
 |[],_,_,hk=>hk
 |_::r,_,h,hk=>⟨h.1,qV r h.2 hk⟩
theorem vW {α:Type} [Inhabited α] {l:List α} {p:α->Bool} {i:Nat} (h:i<l.length) (a:∀b:Nat,b<i->p (nth l b)=false) (c:p (nth l i)=true):yq p l=i:=by
 have:l.findIdx? p=some i:=by
  rw[z6];refine⟨h,by rw[<-L.wB h];exact c,fun j d=> ?_⟩;have:=a j d;rw[L.wB (by omega)] at this;simp[this]
 unfold yq;rw[this]
theorem qC {α:Type} [Inhabited α] {l:List α} {p:α->Bool} {i:Nat} (h:l.length<=i) (a:∀b:Nat,b<i->p (nth l b)=false):yq p l= -1:=by
 have:l.findIdx? p=none:=by
  rw[List.findIdx?_eq_none_iff];intro x c;obtain⟨k,hk,rfl⟩:=L.mem_iff.1 c;exact a k (by omega)
 unfold yq;rw[this]
theorem fK {α:Type} (p:α->Bool) (l:List α):decide (0<=yq p l)=l.any p:=by
 rw[j7];unfold yq;simp only[jr]
 split
 rename_i i e;rw[z6] at e;obtain⟨h,a,_⟩:=e;exact⟨fun _=>ze.2 ⟨_,List.getElem_mem h,a⟩,fun _=>by omega⟩;rename_i e;rw[List.findIdx?_eq_none_iff] at e;refine⟨fun h=>by omega,fun h=> ?_⟩;obtain⟨x,b,a⟩:=ze.1 h;have:=e x b;exact absurd (a.symm.trans this) (by simp)
theorem rW {α:Type} (F:α×Unit->Bool×Unit) (l:List α):(!l.any (ko fun(x:α×Unit)=>(!ko F x.fst,())))=l.all (ko F):=by
 induction l with
 |nil=>rfl
 |cons a r b=>
  simp only[List.any_cons,List.all_cons,Bool.not_or,b];have:(!ko (fun(x:α×Unit)=>(!ko F x.fst,())) a)=ko F a:=by
   show(!(!ko F a))=_;rw[Bool.not_not]
  rw[this]
open Go.Proofs
namespace U
def th (s n:Int):Bool:=decide (yD (s/2^n.toNat) 1=1)
def jbg (b:Bool):Int:=if b=true then 1 else 0
def Li (c:CrD) (f g:Int->Bool) (p:PeD):Bool:=((((((decide (((lv p).length:Int)=la c)&&(lv p).all f)&&kl (fd p) 0 255)&&kl (cl p) 0 255)&&decide (((yU p).length:Int)<=10))&&(yU p).all g)&&kl (fe p) 0 1000)
end U
def MF:wi:=⟨[.val .int,.val .int,.val .int],[.bool],false,fun _=>[],fun d=>(kl d.1 d.2.1 d.2.2.1,())⟩
def MG:Prop:=∀(d:Int×Int×Int×Unit),(decide (d.2.1<=d.1)&&decide (d.1<=d.2.2.1),())=(kl d.1 d.2.1 d.2.2.1,())
def lM:wi:=⟨[.val (.uint .u64),.val .int],[.bool],false,fun d=>[0<=d.2.1,d.2.1<=64],fun d=>(th d.1 d.2.1,())⟩
def Jw:Prop:=∀(d:Int×Int×Unit),0<=d.2.1->d.2.1<=64->0<=d.2.1/\d.2.1<=64/\(decide (yD (d.1/(2:Int)^d.2.1.toNat) (1:Int)=1),())=(th d.1 d.2.1,())
def yA:wi:=⟨[.val (.uint .u64)],[.int],false,fun d=>[BT.q9 d.1],fun d=>(BT.size d.1,())⟩
def Hg:Ann:=fun r=>match r with
 |1=>some fun σ=>{X:=Int×Int,sl:=fun x=>[(0,.dat (.uint .u64) x.1),(2,.dat .int x.2)],ob:=fun _=>[],inv:=fun x=>BT.q9 x.1/\x.2+BT.size x.1=BT.size (gd (.uint .u64) σ 0),mu:=fun x=>x.1.toNat}
 |_=>none
def Hh:Prop:=∀(d:Int×Unit),BT.q9 d.1->(∃(x:Int×Int),((d.1=x.1/\0=x.2/\True)/\True)/\BT.q9 x.1/\x.2+BT.size x.1=BT.size d.1)/\∀(x:Int×Int),BT.q9 x.1/\x.2+BT.size x.1=BT.size d.1->(decide (x.1≠0)=true->kK (x.2+1)/\0<=x.1-1/\x.1-1<=18446744073709551615/\∃(a:Int×Int),((yD x.1 (x.1-1)=a.1/\x.2+1=a.2/\True)/\True)/\(BT.q9 a.1/\a.2+BT.size a.1=BT.size d.1)/\a.1.toNat<x.1.toNat)/\(decide (x.1≠0)=false->(x.2,())=(BT.size d.1,()))
def QI:wi:=⟨[.val .bool],[.int],false,fun _=>[],fun d=>(jbg d.1,())⟩
def QJ:Prop:=∀(d:Bool×Unit),(d.1=true->((1:Int),())=(jbg d.1,()))/\(d.1=false->((0:Int),())=(jbg d.1,()))
def o6:wi:=⟨[.val (.slice .int),.fn [.int] [.bool]],[.int],false,fun d=>[∀g∈d.1,kI (d.2.1.pre (g,()))],fun d=>(yq (ko (α:=Int) d.2.1.F) d.1,())⟩
def o7:Ann:=fun r=>match r with
 |2=>some fun σ=>{X:=Nat,sl:=fun i=>[(8,.dat .int (i:Int))],ob:=fun _=>[],inv:=fun i=>i<=(gd (.slice .int) σ 0).length/\∀b:Nat,b<i->ko (gfb .int σ 1) (nth (gd (.slice .int) σ 0) b)=false,mu:=fun i=>(gd (.slice .int) σ 0).length-i}
 |_=>none
def o8:Prop:=∀(d:List Int×FnD [Ty.int] [Ty.bool]×Unit),(∀(g:Int),g∈d.1->kI (d.2.1.1 (g,())))->d.1.length<4611686018427387904->(∃(x:Nat),((0=(x:Int)/\True)/\True)/\x<=d.1.length/\∀(b:Nat),b<x->ko d.2.1.2 (nth d.1 b)=false)/\∀(x:Nat),(x<=d.1.length/\∀(b:Nat),b<x->ko d.2.1.2 (nth d.1 b)=false)->(decide ((x:Int)<d.1.length)=true->0<=(x:Int)/\(x:Int)<d.1.length/\asks (d.2.1.1 (nth d.1 (x:Int).toNat,())) (((d.2.1.2 (nth d.1 (x:Int).toNat,())).1=true->((x:Int),())=(yq (ko d.2.1.2) d.1,()))/\((d.2.1.2 (nth d.1 (x:Int).toNat,())).1=false->kK ((x:Int)+1)/\∃(a:Nat),(((x:Int)+1=(a:Int)/\True)/\True)/\(a<=d.1.length/\∀(b:Nat),b<a->ko d.2.1.2 (nth d.1 b)=false)/\d.1.length-a<d.1.length-x)))/\(decide ((x:Int)<d.1.length)=false->((-1:Int),())=(yq (ko d.2.1.2) d.1,()))
def iI:wi:=⟨[.val (.slice .int),.fn [.int] [.bool]],[.bool],false,fun d=>[∀g∈d.1,kI (d.2.1.pre (g,()))],fun d=>(d.1.any (ko (α:=Int) d.2.1.F),())⟩
def iJ:Prop:=∀(d:List Int×FnD [Ty.int] [Ty.bool]×Unit),(∀(g:Int),g∈d.1->kI (d.2.1.1 (g,())))->(∀(g:Int),g∈d.1->kI (d.2.1.1 (g,())))/\(decide (0<=yq (ko d.2.1.2) d.1),())=(d.1.any (ko d.2.1.2),())
def o9:wi:=⟨[.val (.slice tLw),.fn [tLw] [.bool]],[.int],false,fun d=>[∀g∈d.1,kI (d.2.1.pre (g,()))],fun d=>(yq (ko (α:=LwD) d.2.1.F) d.1,())⟩
def pa:Ann:=fun r=>match r with
 |2=>some fun σ=>{X:=Nat,sl:=fun i=>[(8,.dat .int (i:Int))],ob:=fun _=>[],inv:=fun i=>i<=(gd (.slice tLw) σ 0).length/\∀b:Nat,b<i->ko (gfb tLw σ 1) (nth (gd (.slice tLw) σ 0) b)=false,mu:=fun i=>(gd (.slice tLw) σ 0).length-i}
 |_=>none
def pb:Prop:=∀(d:List LwD×FnD [tLw] [Ty.bool]×Unit),(∀(g:LwD),g∈d.1->kI (d.2.1.1 (g,())))->d.1.length<4611686018427387904->(∃(x:Nat),((0=(x:Int)/\True)/\True)/\x<=d.1.length/\∀(b:Nat),b<x->ko d.2.1.2 (nth d.1 b)=false)/\∀(x:Nat),(x<=d.1.length/\∀(b:Nat),b<x->ko d.2.1.2 (nth d.1 b)=false)->(decide ((x:Int)<d.1.length)=true->0<=(x:Int)/\(x:Int)<d.1.length/\asks (d.2.1.1 (nth d.1 (x:Int).toNat,())) (((d.2.1.2 (nth d.1 (x:Int).toNat,())).1=true->((x:Int),())=(yq (ko d.2.1.2) d.1,()))/\((d.2.1.2 (nth d.1 (x:Int).toNat,())).1=false->kK ((x:Int)+1)/\∃(a:Nat),(((x:Int)+1=(a:Int)/\True)/\True)/\(a<=d.1.length/\∀(b:Nat),b<a->ko d.2.1.2 (nth d.1 b)=false)/\d.1.length-a<d.1.length-x)))/\(decide ((x:Int)<d.1.length)=false->((-1:Int),())=(yq (ko d.2.1.2) d.1,()))
def iK:wi:=⟨[.val (.slice tLw),.fn [tLw] [.bool]],[.bool],false,fun d=>[∀g∈d.1,kI (d.2.1.pre (g,()))],fun d=>(d.1.any (ko (α:=LwD) d.2.1.F),())⟩
def iL:Prop:=∀(d:List LwD×FnD [tLw] [Ty.bool]×Unit),(∀(g:LwD),g∈d.1->kI (d.2.1.1 (g,())))->(∀(g:LwD),g∈d.1->kI (d.2.1.1 (g,())))/\(decide (0<=yq (ko d.2.1.2) d.1),())=(d.1.any (ko d.2.1.2),())
def iM:wi:=⟨[.val (.slice tPe),.fn [tPe] [.bool]],[.int],false,fun d=>[∀g∈d.1,kI (d.2.1.pre (g,()))],fun d=>(yq (ko (α:=PeD) d.2.1.F) d.1,())⟩
def iN:Ann:=fun r=>match r with
 |2=>some fun σ=>{X:=Nat,sl:=fun i=>[(8,.dat .int (i:Int))],ob:=fun _=>[],inv:=fun i=>i<=(gd (.slice tPe) σ 0).length/\∀b:Nat,b<i->ko (gfb tPe σ 1) (nth (gd (.slice tPe) σ 0) b)=false,mu:=fun i=>(gd (.slice tPe) σ 0).length-i}
 |_=>none
def iO:Prop:=∀(d:List PeD×FnD [tPe] [Ty.bool]×Unit),(∀(g:PeD),g∈d.1->kI (d.2.1.1 (g,())))->d.1.length<4611686018427387904->(∃(x:Nat),((0=(x:Int)/\True)/\True)/\x<=d.1.length/\∀(b:Nat),b<x->ko d.2.1.2 (nth d.1 b)=false)/\∀(x:Nat),(x<=d.1.length/\∀(b:Nat),b<x->ko d.2.1.2 (nth d.1 b)=false)->(decide ((x:Int)<d.1.length)=true->0<=(x:Int)/\(x:Int)<d.1.length/\asks (d.2.1.1 (nth d.1 (x:Int).toNat,())) (((d.2.1.2 (nth d.1 (x:Int).toNat,())).1=true->((x:Int),())=(yq (ko d.2.1.2) d.1,()))/\((d.2.1.2 (nth d.1 (x:Int).toNat,())).1=false->kK ((x:Int)+1)/\∃(a:Nat),(((x:Int)+1=(a:Int)/\True)/\True)/\(a<=d.1.length/\∀(b:Nat),b<a->ko d.2.1.2 (nth d.1 b)=false)/\d.1.length-a<d.1.length-x)))/\(decide ((x:Int)<d.1.length)=false->((-1:Int),())=(yq (ko d.2.1.2) d.1,()))
def cS:wi:=⟨[.val (.slice tPe),.fn [tPe] [.bool]],[.bool],false,fun d=>[∀g∈d.1,kI (d.2.1.pre (g,()))],fun d=>(d.1.any (ko (α:=PeD) d.2.1.F),())⟩
def cT:Prop:=∀(d:List PeD×FnD [tPe] [Ty.bool]×Unit),(∀(g:PeD),g∈d.1->kI (d.2.1.1 (g,())))->(∀(g:PeD),g∈d.1->kI (d.2.1.1 (g,())))/\(decide (0<=yq (ko d.2.1.2) d.1),())=(d.1.any (ko d.2.1.2),())
def xI:wi:=⟨[.val .int,.rfn [.int] [.bool]],[.bool],false,fun d=>[kI (d.2.1.pre (d.1,()))],fun d=>(!(ko (α:=Int) d.2.1.F d.1),())⟩
def xJ:Prop:=∀(d:Int×FnD [Ty.int] [Ty.bool]×Unit),kI (d.2.1.1 (d.1,()))->asks (d.2.1.1 (d.1,())) ((!(d.2.1.2 (d.1,())).1,())=(!ko d.2.1.2 d.1,()))
def Eh:wi:=⟨[.val (.slice .int),.fn [.int] [.bool]],[.bool],false,fun d=>[∀g∈d.1,kI (d.2.1.pre (g,()))],fun d=>(d.1.all (ko (α:=Int) d.2.1.F),())⟩
def Ei:Prop:=∀(d:List Int×FnD [Ty.int] [Ty.bool]×Unit),(∀(g:Int),g∈d.1->kI (d.2.1.1 (g,())))->(∀(g:Int),g∈d.1->kI [kI (d.2.1.1 (g,()))])/\(!d.1.any (ko fun(a:Int×Unit)=>(!ko d.2.1.2 a.1,())),())=(d.1.all (ko d.2.1.2),())
def xK:wi:=⟨[.val tLw,.rfn [tLw] [.bool]],[.bool],false,fun d=>[kI (d.2.1.pre (d.1,()))],fun d=>(!(ko (α:=LwD) d.2.1.F d.1),())⟩
def xL:Prop:=∀(d:LwD×FnD [tLw] [Ty.bool]×Unit),kI (d.2.1.1 (d.1,()))->asks (d.2.1.1 (d.1,())) ((!(d.2.1.2 (d.1,())).1,())=(!ko d.2.1.2 d.1,()))
def Ej:wi:=⟨[.val (.slice tLw),.fn [tLw] [.bool]],[.bool],false,fun d=>[∀g∈d.1,kI (d.2.1.pre (g,()))],fun d=>(d.1.all (ko (α:=LwD) d.2.1.F),())⟩
def Ek:Prop:=∀(d:List LwD×FnD [tLw] [Ty.bool]×Unit),(∀(g:LwD),g∈d.1->kI (d.2.1.1 (g,())))->(∀(g:LwD),g∈d.1->kI [kI (d.2.1.1 (g,()))])/\(!d.1.any (ko fun(a:LwD×Unit)=>(!ko d.2.1.2 a.1,())),())=(d.1.all (ko d.2.1.2),())
def pd:wi:=⟨[.val tPe,.rfn [tPe] [.bool]],[.bool],false,fun d=>[kI (d.2.1.pre (d.1,()))],fun d=>(!(ko (α:=PeD) d.2.1.F d.1),())⟩
def pe:Prop:=∀(d:PeD×FnD [tPe] [Ty.bool]×Unit),kI (d.2.1.1 (d.1,()))->asks (d.2.1.1 (d.1,())) ((!(d.2.1.2 (d.1,())).1,())=(!ko d.2.1.2 d.1,()))
def tU:wi:=⟨[.val (.slice tPe),.fn [tPe] [.bool]],[.bool],false,fun d=>[∀g∈d.1,kI (d.2.1.pre (g,()))],fun d=>(d.1.all (ko (α:=PeD) d.2.1.F),())⟩
def tV:Prop:=∀(d:List PeD×FnD [tPe] [Ty.bool]×Unit),(∀(g:PeD),g∈d.1->kI (d.2.1.1 (g,())))->(∀(g:PeD),g∈d.1->kI [kI (d.2.1.1 (g,()))])/\(!d.1.any (ko fun(a:PeD×Unit)=>(!ko d.2.1.2 a.1,())),())=(d.1.all (ko d.2.1.2),())
def Jx:wi:=⟨[.val .int],[.bool],false,fun _=>[],fun d=>(kl d.1 0 5,())⟩
def Jy:Prop:=∀(d:Int×Unit),(kl d.1 (0:Int) (5:Int),())=(kl d.1 (0:Int) (5:Int),())
def Jz:wi:=⟨[.val .int],[.bool],false,fun _=>[],fun d=>(kl d.1 0 99,())⟩
def JA:Prop:=∀(d:Int×Unit),(kl d.1 (0:Int) (99:Int),())=(kl d.1 (0:Int) (99:Int),())
def JB:wi:=⟨[.val tPe,.ref tCr,.rfn [.int] [.bool],.rfn [.int] [.bool]],[.bool],false,fun d=>[∀g∈U.lv d.1,kI (d.2.2.1.pre (g,())),∀g∈yU d.1,kI (d.2.2.2.1.pre (g,()))],fun d=>(Li d.2.1 (ko d.2.2.1.F) (ko d.2.2.2.1.F) d.1,())⟩
def JC:Prop:=∀(d:PeD×CrD×FnD [Ty.int] [Ty.bool]×FnD [Ty.int] [Ty.bool]×Unit),(∀(g:Int),g∈U.lv d.1->kI (d.2.2.1.1 (g,())))->(∀(g:Int),g∈yU d.1->kI (d.2.2.2.1.1 (g,())))->d.1.1.length<4611686018427387904->(decide ((d.1.1.length:Int)=d.2.1.1)=true->∀(g:Int),g∈d.1.1->kI (d.2.2.1.1 (g,())))/\(((decide ((d.1.1.length:Int)=d.2.1.1)&&d.1.1.all (ko d.2.2.1.2)&&kl d.1.2.1 (0:Int) (255:Int)&&kl d.1.2.2.1 (0:Int) (255:Int))=true->d.1.2.2.2.1.length<4611686018427387904)->((decide ((d.1.1.length:Int)=d.2.1.1)&&d.1.1.all (ko d.2.2.1.2)&&kl d.1.2.1 (0:Int) (255:Int)&&kl d.1.2.2.1 (0:Int) (255:Int)&&decide ((d.1.2.2.2.1.length:Int)<=10))=true->∀(g:Int),g∈d.1.2.2.2.1->kI (d.2.2.2.1.1 (g,())))/\(decide ((d.1.1.length:Int)=d.2.1.1)&&d.1.1.all (ko d.2.2.1.2)&&kl d.1.2.1 (0:Int) (255:Int)&&kl d.1.2.2.1 (0:Int) (255:Int)&&decide ((d.1.2.2.2.1.length:Int)<=10)&&d.1.2.2.2.1.all (ko d.2.2.2.1.2)&&kl d.1.q4.2.1 (0:Int) (1000:Int),())=(Li d.2.1 (ko d.2.2.1.2) (ko d.2.2.2.1.2) d.1,()))
def JD:wi:=⟨[.val tLw],[.bool],false,fun _=>[],fun d=>(eM d.1,())⟩
def JE:Prop:=∀(d:LwD×Unit),(kl d.1.1 (1:Int) (5:Int)&&kl d.1.2.1 (1:Int) (8:Int),())=(eM d.1,())
def JF:wi:=⟨[.val .int,.ref tCr],[.bool],false,fun d=>[kK (U.la d.2.1-1)],fun d=>(kl d.1 0 (U.la d.2.1-1),())⟩
def JG:Prop:=∀(d:Int×CrD×Unit),kK (U.la d.2.1-1)->kK (d.2.1.1-1)/\(kl d.1 (0:Int) (d.2.1.1-1),())=(kl d.1 (0:Int) (U.la d.2.1-1),())
def QK:wi:=⟨[.val tCr,.val tJb],[.int],false,fun _=>[],fun d=>(qB d.1 d.2.1,())⟩
abbrev jhp (d:CrD×JbD×Unit):=(!kl d.2.1.1 (0:Int) (U.la d.1-1)|| !kl d.2.1.2.1 (0:Int) (U.la d.1-1)||decide (d.2.1.1=d.2.1.2.1)|| !kl d.2.1.2.2.1 (0:Int) (99:Int)|| !kl d.2.1.2.2.2.1 (0:Int) (7:Int)|| !kl d.2.1.q4.1 (0:Int) (3:Int)|| !kl d.2.1.q4.2.1 (1:Int) (8:Int))
abbrev jfJ (d:CrD×JbD×Unit):=(8<(d.1.2.1.length:Int))
abbrev jhq:=(ko fun(a:LwD×Unit)=>(eM a.1,()))
def QL:Prop:=∀(d:CrD×JbD×Unit),((!!kl d.1.1 (2:Int) (5:Int))=true->d.1.2.1.length<4611686018427387904)->((!(!kl d.1.1 (2:Int) (5:Int)||decide (jfJ d)))=true->∀(g:PeD),g∈d.1.2.1->kI [∀(c:Int),c∈U.lv g->kI [],∀(c:Int),c∈yU g->kI []])/\(((!(!kl d.1.1 (2:Int) (5:Int)||decide (jfJ d)|| !d.1.2.1.all (ko fun(b:PeD×Unit)=>(Li d.1 (ko fun(b:Int×Unit)=>(kl b.1 (0:Int) (5:Int),())) (ko fun(b:Int×Unit)=>(kl b.1 (0:Int) (99:Int),())) b.1,()))))=true->d.1.2.2.1.length<4611686018427387904)->((!(!kl d.1.1 (2:Int) (5:Int)||decide (jfJ d)|| !d.1.2.1.all (ko fun(a:PeD×Unit)=>(Li d.1 (ko fun(a:Int×Unit)=>(kl a.1 (0:Int) (5:Int),())) (ko fun(a:Int×Unit)=>(kl a.1 (0:Int) (99:Int),())) a.1,()))||decide ((d.1.2.2.1.length:Int)≠4)))=true->∀(g:LwD),g∈d.1.2.2.1->kI [])/\((!kl d.1.1 (2:Int) (5:Int)||decide (jfJ d)|| !d.1.2.1.all (ko fun(a:PeD×Unit)=>(Li d.1 (ko fun(a:Int×Unit)=>(kl a.1 (0:Int) (5:Int),())) (ko fun(a:Int×Unit)=>(kl a.1 (0:Int) (99:Int),())) a.1,()))||decide ((d.1.2.2.1.length:Int)≠4)|| !d.1.2.2.1.all jhq)=true->((30:Int),())=(qB d.1 d.2.1,()))/\((!kl d.1.1 (2:Int) (5:Int)||decide (jfJ d)|| !d.1.2.1.all (ko fun(a:PeD×Unit)=>(Li d.1 (ko fun(a:Int×Unit)=>(kl a.1 (0:Int) (5:Int),())) (ko fun(a:Int×Unit)=>(kl a.1 (0:Int) (99:Int),())) a.1,()))||decide ((d.1.2.2.1.length:Int)≠4)|| !d.1.2.2.1.all jhq)=false->kK (U.la d.1-1)/\((!!kl d.2.1.1 (0:Int) (U.la d.1-1))=true->kK (U.la d.1-1))/\((jhp d)=true->((31:Int),())=(qB d.1 d.2.1,()))/\((jhp d)=false->((0:Int),())=(qB d.1 d.2.1,()))))
theorem QM:MG:=by
 intro d;rfl
theorem yS:wq PR 158 MF:=wb QM Tryz.func158 kcN koN
theorem MH:Jw:=by
 intro d a b;exact⟨a,b,rfl⟩
theorem JH:wq PR 208 lM:=wb MH Tryz.func208 kcN koN
theorem JI:Hh:=by
 rintro⟨s,⟨⟩⟩ e;refine⟨⟨(s,0),⟨⟨rfl,rfl,tZ⟩,tZ⟩,e,by simp⟩,?_⟩;rintro⟨x,n⟩ ⟨a,b⟩;have a:BT.q9 x:=a;have g:=BT.size_le s;have f:=BT.size_le x;refine⟨fun h=> ?_,fun h=> ?_⟩;have h:x≠0:=ja h;obtain⟨d,i,j⟩:=BT.pred a h;have c:=a;unfold BT.q9 at c;simp only at b⊢;exact⟨iZ6,by omega,by omega,(yD x (x-1),n+1),⟨⟨rfl,rfl,tZ⟩,tZ⟩,⟨d,(by omega:n+1+BT.size (yD x (x-1))=BT.size s)⟩,(by unfold BT.q9 at d;omega:(yD x (x-1)).toNat<x.toNat)⟩;have h:x=0:=(by simpa using h);subst h;simp only[BT.size_zero] at b;simp only at b⊢;rw[show n=BT.size s by omega]
theorem Hi:wq PR 160 yA:=vN Hg JI Tryz.func160 kcN koN
theorem TZ:QJ:=by
 rintro⟨b,⟨⟩⟩;exact⟨fun h=>by simp only at h;subst h;rfl,fun h=>by simp only at h;subst h;rfl⟩
theorem QN:wq PR 152 QI:=wb TZ Tryz.func152 kcN koN
theorem rX:o8:=by
 rintro⟨l,f,⟨⟩⟩ a g;refine⟨⟨0,⟨⟨rfl,tZ⟩,tZ⟩,jv _,fun b c=>by omega⟩,fun i hi=>⟨fun h=> ?_,fun h=> ?_⟩⟩;have h:i<l.length:=(by simpa using h);simp only[ju] at*;refine⟨by omega,by omega,qV _ (a _ (L.kx h)) ⟨fun c=> ?_,fun c=>⟨iZ6,i+1,⟨⟨by simp,tZ⟩,tZ⟩,⟨by omega,fun b d=> ?_⟩,by omega⟩⟩⟩;rw[vW (p:=ko (α:=Int) f.F) h hi.2 c];by_cases e:b=i;subst e;exact c;exact hi.2 b (by omega);have h:l.length<=i:=(by simpa using h);rw[qC (p:=ko (α:=Int) f.F) h hi.2]
theorem pf:wq PR 162 o6:=vN o7 rX Tryz.func162 kcN koN
theorem lN:iJ:=by
 rintro⟨l,f,⟨⟩⟩ a;refine⟨a,?_⟩;exact jN (·,()) (fK (ko (α:=Int) f.F) l)
theorem vZ:wq PR 115 iI:=wb lN Tryz.func115 (kcC pf kcN) koN
theorem rY:pb:=by
 rintro⟨l,f,⟨⟩⟩ a g;refine⟨⟨0,⟨⟨rfl,tZ⟩,tZ⟩,jv _,fun b c=>by omega⟩,fun i hi=>⟨fun h=> ?_,fun h=> ?_⟩⟩;have h:i<l.length:=(by simpa using h);simp only[ju] at*;refine⟨by omega,by omega,qV _ (a _ (L.kx h)) ⟨fun c=> ?_,fun c=>⟨iZ6,i+1,⟨⟨by simp,tZ⟩,tZ⟩,⟨by omega,fun b d=> ?_⟩,by omega⟩⟩⟩;rw[vW (p:=ko (α:=LwD) f.F) h hi.2 c];by_cases e:b=i;subst e;exact c;exact hi.2 b (by omega);have h:l.length<=i:=(by simpa using h);rw[qC (p:=ko (α:=LwD) f.F) h hi.2]
theorem pg:wq PR 231 o9:=vN pa rY Tryz.func231 kcN koN
theorem lO:iL:=by
 rintro⟨l,f,⟨⟩⟩ a;refine⟨a,?_⟩;exact jN (·,()) (fK (ko (α:=LwD) f.F) l)
theorem iP:wq PR 215 iK:=wb lO Tryz.func215 (kcC pg kcN) koN
theorem lP:iO:=by
 rintro⟨l,f,⟨⟩⟩ a g;refine⟨⟨0,⟨⟨rfl,tZ⟩,tZ⟩,jv _,fun b c=>by omega⟩,fun i hi=>⟨fun h=> ?_,fun h=> ?_⟩⟩;have h:i<l.length:=(by simpa using h);simp only[ju] at*;refine⟨by omega,by omega,qV _ (a _ (L.kx h)) ⟨fun c=> ?_,fun c=>⟨iZ6,i+1,⟨⟨by simp,tZ⟩,tZ⟩,⟨by omega,fun b d=> ?_⟩,by omega⟩⟩⟩;rw[vW (p:=ko (α:=PeD) f.F) h hi.2 c];by_cases e:b=i;subst e;exact c;exact hi.2 b (by omega);have h:l.length<=i:=(by simpa using h);rw[qC (p:=ko (α:=PeD) f.F) h hi.2]
theorem iQ:wq PR 230 iM:=vN iN lP Tryz.func230 kcN koN
theorem dN:cT:=by
 rintro⟨l,f,⟨⟩⟩ a;refine⟨a,?_⟩;exact jN (·,()) (fK (ko (α:=PeD) f.F) l)
theorem cU:wq PR 213 cS:=wb dN Tryz.func213 (kcC iQ kcN) koN
theorem CJ:xJ:=by
 intro d h;exact qV _ h rfl
theorem xM:wq PR 212 xI:=wb CJ Tryz.func212 kcN koN
theorem Hj:Ei:=by
 intro d h;exact⟨fun g a=>⟨h g a,tZ⟩,jN (·,()) (rW d.snd.fst.2 d.fst)⟩
theorem El:wq PR 174 Eh:=wb Hj Tryz.func174 (kcC vZ (kcC xM kcN)) koN
theorem CK:xL:=by
 intro d h;exact qV _ h rfl
theorem xN:wq PR 216 xK:=wb CK Tryz.func216 kcN koN
theorem Hk:Ek:=by
 intro d h;exact⟨fun g a=>⟨h g a,tZ⟩,jN (·,()) (rW d.snd.fst.2 d.fst)⟩
theorem Em:wq PR 178 Ej:=wb Hk Tryz.func178 (kcC iP (kcC xN kcN)) koN
theorem rZ:pe:=by
 intro d h;exact qV _ h rfl
theorem ph:wq PR 214 pd:=wb rZ Tryz.func214 kcN koN
theorem xO:tV:=by
 intro d h;exact⟨fun g a=>⟨h g a,tZ⟩,jN (·,()) (rW d.snd.fst.2 d.fst)⟩
theorem tW:wq PR 177 tU:=wb xO Tryz.func177 (kcC cU (kcC ph kcN)) koN
theorem MI:Jy:=fun _=>rfl
theorem JJ:wq PR 171 Jx:=wb MI Tryz.func171 (kcC yS kcN) koN
theorem MJ:JA:=fun _=>rfl
theorem JK:wq PR 172 Jz:=wb MJ Tryz.func172 (kcC yS kcN) koN
theorem MK:JC:=by
 unfold JC Prod.q4;rintro⟨p,c,f,g,⟨⟩⟩ a b _;exact⟨fun _=>a,fun _=>⟨fun _=>b,rfl⟩⟩
theorem JL:wq PR 173 JB:=wb MK Tryz.func173 (kcC yS (kcC El kcN)) koN
theorem ML:JE:=fun _=>rfl
theorem JM:wq PR 175 JD:=wb ML Tryz.func175 (kcC yS kcN) koN
theorem MM:JG:=fun _ h=>⟨h,rfl⟩
theorem JN:wq PR 176 JF:=wb MM Tryz.func176 (kcC yS kcN) koN
theorem Z3 (c:CrD) (p:PeD):Li c (fun x=>kl x 0 5) (fun x=>kl x 0 99) p=ij (U.la c) p:=by
 rw[j7];simp only[Li,ij,kl,ji,jr];constructor;rintro⟨⟨⟨⟨⟨⟨e,f⟩,a⟩,b⟩,k⟩,i⟩,d⟩;exact⟨⟨e,a.1,a.2,b.1,b.2,by omega,d.1,d.2⟩,f,i⟩;rintro⟨⟨e,a,g,b,h,k,d,j⟩,f,i⟩;exact⟨⟨⟨⟨⟨⟨e,f⟩,a,g⟩,b,h⟩,by omega⟩,i⟩,d,j⟩
theorem Z4 (c:CrD):(((((!kl c.1 2 5||decide (8<((c.2.1.length:Nat):Int)))|| !c.2.1.all (ij (U.la c)))||decide (((c.2.2.1.length:Nat):Int)≠4))|| !c.2.2.1.all eM))= !kV c:=by
 unfold kV;show _= !(decide (2<=c.1/\c.1<=5/\c.2.1.length<=8/\c.2.2.1.length=4)&&(c.2.1.all (ij (U.la c))&&c.2.2.1.all eM));cases c.2.1.all (ij (U.la c))<;>cases c.2.2.1.all eM<;>simp only[kl,Bool.not_true,Bool.not_false,Bool.or_true,Bool.or_false,Bool.and_true,Bool.and_false,Bool.true_or]
 rw[j7];simp only[zy,jP,Bool.and_eq_false_iff,jr,jE];omega
theorem jbN (c:CrD) (j:JbD):((((((!kl j.1 0 (U.la c-1)|| !kl j.2.1 0 (U.la c-1))||decide (j.1=j.2.1))|| !kl j.2.2.1 0 99)|| !kl j.2.2.2.1 0 7)|| !kl j.2.2.2.2.1 0 3)|| !kl j.2.2.2.2.2.1 1 8)= !w6 c j:=by
 have key:(w6 c j=false)↔¬(0<=j.1/\j.1<=U.la c-1/\0<=j.2.1/\j.2.1<=U.la c-1/\j.1≠j.2.1/\0<=j.2.2.1/\j.2.2.1<=99/\0<=j.2.2.2.1/\j.2.2.2.1<=7/\0<=j.2.2.2.2.1/\j.2.2.2.2.1<=3/\1<=j.2.2.2.2.2.1/\j.2.2.2.2.2.1<=8):=by
  unfold w6;exact jE
 rw[j7,jP,key];simp only[kl,zy,jP,Bool.and_eq_false_iff,jr,jE];omega
theorem T3:QL:=by
 unfold QL jhq jfJ jhp Prod.q4;rintro⟨c,j,⟨⟩⟩;have f:∀p,ko (fun(x:PeD×Unit)=>(Li c (ko fun(x:Int×Unit)=>(kl x.fst 0 5,())) (ko fun(x:Int×Unit)=>(kl x.fst 0 99,())) x.fst,())) p=ij (U.la c) p:=fun p=>Z3 c p
 have e2:(ko fun(x:LwD×Unit)=>(eM x.fst,()))=eM:=rfl;have d:=Z4 c;have e:=jbN c j;intro _;refine⟨fun _ g _=>⟨fun _ _=>tZ,fun _ _=>tZ,tZ⟩,fun _=> ?_⟩;simp only at d e⊢;rw[funext f,e2,d,e];refine⟨fun _ _ _=>tZ,fun h=> ?_,fun h=> ?_⟩;have h:kV c=false:=(by simpa using h);unfold qB;rw[jd h];have h:kV c=true:=(by simpa using h);have i:2<=U.la c/\U.la c<=5:=by
  unfold kV at h;simp only[ji,jr] at h;exact⟨h.1.1,h.1.2.1⟩
 have b:kK (U.la c-1):=iZ6;refine⟨b,fun _=>b,fun a=> ?_,fun a=> ?_⟩;have a:w6 c j=false:=(by simpa using a);unfold qB;rw[jc (by rw[h];simp),jd a];have a:w6 c j=true:=(by simpa using a);unfold qB;rw[jc (by rw[h];simp),jc (by rw[a];simp)]
theorem FZ:wq PR 137 QK:=wb T3 Tryz.func137 (kcC yS (kcC tW (kcC Em (kcC JJ (kcC JK (kcC JL (kcC JM (kcC JN kcN)))))))) koN
abbrev tTk:Ty:= .st [tCr,tJb,tLw]
abbrev TkD:Type:=CrD×JbD×LwD×Unit
namespace U
def tk (o:Option TkD):TkD:=kU (Ty.dflt tTk) o
def tc (t:TkD):CrD:=t.1
def tj (t:TkD):JbD:=t.2.1
def tl (t:TkD):LwD:=t.2.2.1
def Gm (c:CrD) (j:JbD):Option TkD:=if qB c j=0 then some (c,j,eN c j,()) else none
def bX (t:TkD):Prop:=kV (tc t)=true/\w6 (tc t) (tj t)=true/\tl t=eN (tc t) (tj t)
def Sa (a b c:Bool):Int:=jbg a+2*jbg b+4*jbg c
def vo (t:TkD) (p:PeD):Int:=Sa (Lh p (Yg (tj t))) (!qb (fd p) (Yh (tj t))) (!qb (cl p) (i9 (tj t)))
def tn (t:TkD) (p:PeD):List (Int×Int):=[(0,jbg (!Lh p (Yg (tj t)))),(1,nQ (fd p/2^(Yh (tj t)).toNat) 1),(2,nQ (cl p/2^(i9 (tj t)).toNat) 1)]
def aJ (all left:List (Int×Int)) (out:Int):Prop:=BT.q9 out/\left.Nodup/\(∀e∈left,e∈all)/\∀p:Nat,BT.has out p=true↔∃e∈all,e∉left/\e.2=0/\e.1.toNat=p
def yn (t:TkD) (s:Int) (n:Nat):List (Int×PeD×Unit):=((List.range n).filter (fun(i:Nat)=>th s (i:Int))).map (fun(i:Nat)=>((i:Int),nth (kE (tc t)) i,()))
def xA (t:TkD) (s:Int):List (Int×PeD×Unit):=yn t s (kE (tc t)).length
def jn (t:TkD) (a b:Int) (x:Int×PeD×Unit):Bool:=decide (Wi (tl t)<=min (nth (lv x.2.1) a.toNat) (nth (lv x.2.1) b.toNat))
def mn (t:TkD) (s a b:Int):Bool:=(xA t s).any (jn t a b)
def gz (t:TkD) (a b:Int) (q:List (Int×PeD×Unit)):Bool:=match q.getLast? with|some x=>jn t a b x|none=>false
end U
def CL:wi:=⟨[.val (.slice .int),.val .int],[.int],false,fun _=>[],fun d=>(yq (fun x=>decide (x=d.2.1)) d.1,())⟩
def CM:Ann:=fun r=>match r with
 |2=>some fun σ=>{X:=Nat,sl:=fun i=>[(8,.dat .int (i:Int))],ob:=fun _=>[],inv:=fun i=>i<=(gd (.slice .int) σ 0).length/\∀b:Nat,b<i->decide (nth (gd (.slice .int) σ 0) b=gd .int σ 1)=false,mu:=fun i=>(gd (.slice .int) σ 0).length-i}
 |_=>none
def CN:Prop:=∀(d:List Int×Int×Unit),d.1.length<4611686018427387904->(∃(x:Nat),((0=(x:Int)/\True)/\True)/\x<=d.1.length/\∀(b:Nat),b<x->decide (nth d.1 b=d.2.1)=false)/\∀(x:Nat),(x<=d.1.length/\∀(b:Nat),b<x->decide (nth d.1 b=d.2.1)=false)->(decide ((x:Int)<d.1.length)=true->0<=(x:Int)/\(x:Int)<d.1.length/\(decide (d.2.1=nth d.1 (x:Int).toNat)=true->((x:Int),())=(yq (fun(c:Int)=>decide (c=d.2.1)) d.1,()))/\(decide (d.2.1=nth d.1 (x:Int).toNat)=false->kK ((x:Int)+1)/\∃(a:Nat),(((x:Int)+1=(a:Int)/\True)/\True)/\(a<=d.1.length/\∀(b:Nat),b<a->decide (nth d.1 b=d.2.1)=false)/\d.1.length-a<d.1.length-x))/\(decide ((x:Int)<d.1.length)=false->((-1:Int),())=(yq (fun(c:Int)=>decide (c=d.2.1)) d.1,()))
def r8:wi:=⟨[.val (.slice .int),.val .int],[.bool],false,fun _=>[],fun d=>(d.1.any (fun x=>decide (x=d.2.1)),())⟩
def r9:Prop:=∀(d:List Int×Int×Unit),(decide (0<=yq (fun(a:Int)=>decide (a=d.2.1)) d.1),())=(d.1.any fun(b:Int)=>decide (b=d.2.1),())
def T4:wi:=⟨[.val tCr,.val tJb],[.ptr tTk,.int],false,fun _=>[],fun d=>(Gm d.1 d.2.1,qB d.1 d.2.1,())⟩
def T6:Prop:=∀(d:CrD×JbD×Unit),(decide (qB d.1 d.2.1≠0)=true->(none,qB d.1 d.2.1,())=(Gm d.1 d.2.1,qB d.1 d.2.1,()))/\(decide (qB d.1 d.2.1≠0)=false->0<=d.2.1.q4.1/\d.2.1.q4.1<(d.1.2.2.1.length:Int)/\(some (d.1,d.2.1,nth d.1.2.2.1 d.2.1.q4.1.toNat,()),(0:Int),())=(Gm d.1 d.2.1,qB d.1 d.2.1,()))
def LM (d:PD [.ref (.ptr tTk),.ref (.uint .u64)]) (xs:List (Ty.st [.int,tPe]).Data):Prop:=xs=xA (U.tk d.1) d.2.1
def QO (d:PD [.ref (.ptr tTk),.ref (.uint .u64)]):A2 (YS [.int,tPe]):=fun r=>match r with
 |1=>some fun _ _=>{X:=Nat,sl:=fun i=>[(12,.dat .int (i:Int))],ob:=fun _=>[],ys:=fun i=>(yn (U.tk d.1) d.2.1 i,true),inv:=fun i=>i<=(kE (U.tc (U.tk d.1))).length,mu:=fun i=>(kE (U.tc (U.tk d.1))).length-i}
 |_=>none
abbrev jfK (d:Option (CrD×JbD×LwD×Unit)×Int×Unit):=(kU (((0:Int),[],[],()),((0:Int),(0:Int),(0:Int),(0:Int),(0:Int),(0:Int),()),((0:Int),(0:Int),false,()),()) d.1)
abbrev jes (d:Option (CrD×JbD×LwD×Unit)×Int×Unit):=(kE (U.tc (U.tk d.1)))
abbrev jfL (x:Nat)(d:Option (CrD×JbD×LwD×Unit)×Int×Unit):=((x:Int),nth (jfK d).1.2.1 (x:Int).toNat,())
abbrev jgP (x:Nat)(a:Nat):=(((x:Int)+1=(a:Int)/\True)/\True)
def bL:Prop:=∀(d:Option (CrD×JbD×LwD×Unit)×Int×Unit) (l:Nat),d.1.isSome=true->(jes d).length<=60->d.1.isSome=true/\((jfK d).1.2.1.length<4611686018427387904->(∃(x:Nat),((0=(x:Int)/\True)/\True)/\([],true)=(yn (U.tk d.1) d.2.1 x,true)/\x<=(jes d).length)/\∀(x:Nat),x<=(jes d).length->(decide ((x:Int)<(jfK d).1.2.1.length)=true->0<=(x:Int)/\(x:Int)<(jfK d).1.2.1.length/\0<=(x:Int)/\(x:Int)<=64/\(th d.2.1 (x:Int)=true->l=l/\(∃(rest:List (Int×PeD×Unit)),yn (U.tk d.1) d.2.1 x++[(jfL x d)]++rest=xA (U.tk d.1) d.2.1)/\(((th d.2.1 (x:Int)&& !true)=true->true=true->yn (U.tk d.1) d.2.1 x++[(jfL x d)]=xA (U.tk d.1) d.2.1)/\((th d.2.1 (x:Int)&& !true)=false->kK ((x:Int)+1)/\∃(a:Nat),(jgP x a)/\(yn (U.tk d.1) d.2.1 x++[(jfL x d)],true)=(yn (U.tk d.1) d.2.1 a,true)/\a<=(jes d).length/\(jes d).length-a<(jes d).length-x))/\((th d.2.1 (x:Int)&& !false)=true->false=true->yn (U.tk d.1) d.2.1 x++[(jfL x d)]=xA (U.tk d.1) d.2.1)/\((th d.2.1 (x:Int)&& !false)=false->kK ((x:Int)+1)/\∃(a:Nat),(jgP x a)/\(yn (U.tk d.1) d.2.1 x++[(jfL x d)],false)=(yn (U.tk d.1) d.2.1 a,true)/\a<=(jes d).length/\(jes d).length-a<(jes d).length-x))/\(th d.2.1 (x:Int)=false->((th d.2.1 (x:Int)&& !false)=true->true=true->yn (U.tk d.1) d.2.1 x=xA (U.tk d.1) d.2.1)/\((th d.2.1 (x:Int)&& !false)=false->kK ((x:Int)+1)/\∃(a:Nat),(jgP x a)/\(yn (U.tk d.1) d.2.1 x,true)=(yn (U.tk d.1) d.2.1 a,true)/\a<=(jes d).length/\(jes d).length-a<(jes d).length-x)))/\(decide ((x:Int)<(jfK d).1.2.1.length)=false->true=true->yn (U.tk d.1) d.2.1 x=xA (U.tk d.1) d.2.1))
theorem iR:(WV (ctx 28 [(208,lM)] []) (wt Tryz.f207) [.int,tPe] [.ref (.ptr tTk),.ref (.uint .u64)] LM (fun d=>[d.1.isSome=true,(kE (U.tc (U.tk d.1))).length<=60]) (fun d _=>QO d) (fun d l=>hkY [.int,tPe] l [24] (fun q=>∃rest,LM d (q++rest)) (fun _=>none)))=bL:=by kernel_rfl
def we:oW:=⟨[.val (.ptr tTk),.val (.uint .u64)],fun _=>[],207,[.ptr tTk,.uint .u64],fun d=>(d.1,d.2.1,())⟩
def dO:Prop:=∀(d:Option (CrD×JbD×LwD×Unit)×Int×Unit),d=d
theorem nh:(TL (ctx 6 [] []) (fun _=>none) Tryz.f159 (wt Tryz.f159) we)=dO:=by kernel_rfl
def Ps (sv:SV):Option (Prop×(List (Ty.st [.int,tPe]).Data->Prop)):=match sv with
 | .clo 207 [.ep b t,.ep c s]=>(match wR b (.ptr tTk) t,wR c (.uint .u64) s with
  |some a,some d=>some ((a.isSome=true/\(kE (U.tc (U.tk a))).length<=60),fun xs=>xs=xA (U.tk a) d)
  |_,_=>none)
 |_=>none
def T7:Jl [.int,tPe]:={ps:=[.ref (.ptr tTk),.ref .int,.ref .int,.own (.box 4 [.dat .bool]) true],slots:=[4,6,7,8],dst:=34,pre:=fun _=>[],G:=fun d q=>((d.2.2.2.1.1||gz (U.tk d.1) d.2.1 d.2.2.1 q,()),()),stop:=fun d q=>gz (U.tk d.1) d.2.1 d.2.2.1 q,seq:=Ps}
def CO:Nat->Option ((ts:List Ty)×Jl ts):=fun r=>match r with
 |3=>some ⟨[.int,tPe],T7⟩
 |_=>none
def ir:wi:=⟨[.val (.ptr tTk),.val (.uint .u64),.val .int,.val .int],[.bool],false,
 fun d=>[d.1.isSome=true,bX (U.tk d.1),0<=d.2.2.1,d.2.2.1<U.la (U.tc (U.tk d.1)),0<=d.2.2.2.1,d.2.2.2.1<U.la (U.tc (U.tk d.1))],fun d=>(mn (U.tk d.1) d.2.1 d.2.2.1 d.2.2.2.1,())⟩
abbrev jhr (d:Option (CrD×JbD×LwD×Unit)×Int×Int×Int×Unit)(x:Int×PeD×Unit):=((kU (((0:Int),[],[],()),((0:Int),(0:Int),(0:Int),(0:Int),(0:Int),(0:Int),()),((0:Int),(0:Int),false,()),()) d.1).2.2.1.1<=min (nth x.2.1.1 d.2.2.1.toNat) (nth x.2.1.1 d.2.2.2.1.toNat))
abbrev jgQ (d:Option (CrD×JbD×LwD×Unit)×Int×Int×Int×Unit):=(fun(a:List (Int×PeD×Unit))=>gz (U.tk d.1) d.2.2.1 d.2.2.2.1 a)
def iu:Prop:=∀(d:Option (CrD×JbD×LwD×Unit)×Int×Int×Int×Unit),d.1.isSome=true->bX (U.tk d.1)->0<=d.2.2.1->d.2.2.1<U.la (U.tc (U.tk d.1))->0<=d.2.2.2.1->d.2.2.2.1<U.la (U.tc (U.tk d.1))->(d.1.isSome=true/\(kE (U.tc (U.tk d.1))).length<=60)/\True/\(d.1,d.2.2.1,d.2.2.2.1,(false||gz (U.tk d.1) d.2.2.1 d.2.2.2.1 [],()),())=(d.1,d.2.2.1,d.2.2.2.1,(false,()),())/\(∀(q:List (Int×PeD×Unit)) (x:Int×PeD×Unit) (rest:List (Int×PeD×Unit)),q++x::rest=xA (U.tk d.1) d.2.1->vY (jgQ d) q->0<=d.2.2.1/\d.2.2.1<(x.2.1.1.length:Int)/\0<=d.2.2.2.1/\d.2.2.2.1<(x.2.1.1.length:Int)/\d.1.isSome=true/\(decide (jhr d x)=true->gz (U.tk d.1) d.2.2.1 d.2.2.2.1 (q++[x])=true/\((true,()),())=((false||gz (U.tk d.1) d.2.2.1 d.2.2.2.1 (q++[x]),()),()))/\(decide (jhr d x)=false->gz (U.tk d.1) d.2.2.1 d.2.2.2.1 (q++[x])=false/\((false||gz (U.tk d.1) d.2.2.1 d.2.2.2.1 q,()),())=((false||gz (U.tk d.1) d.2.2.1 d.2.2.2.1 (q++[x]),()),())))/\(∀(xs:List (Int×PeD×Unit)),xs=xA (U.tk d.1) d.2.1->vY (jgQ d) xs->(false,())=(mn (U.tk d.1) d.2.1 d.2.2.1 d.2.2.2.1,()))/\∀(q:List (Int×PeD×Unit)) (x:Int×PeD×Unit) (rest:List (Int×PeD×Unit)),q++x::rest=xA (U.tk d.1) d.2.1->vY (jgQ d) q->gz (U.tk d.1) d.2.2.1 d.2.2.2.1 (q++[x])=true->(false||gz (U.tk d.1) d.2.2.1 d.2.2.2.1 (q++[x]),())=(mn (U.tk d.1) d.2.1 d.2.2.1 d.2.2.2.1,())
theorem pi:(Pp (LB 33 [] [] [(159,we)] []) ir (fun _ _=>none) (hkC (LB 33 [] [] [(159,we)] []) (fun _=>none) CO [] []) Tryz.f210 (wt Tryz.f210))=iu:=by kernel_rfl
theorem En:CN:=by
 rintro⟨l,x,⟨⟩⟩ d;refine⟨⟨0,⟨⟨rfl,tZ⟩,tZ⟩,jv _,fun b a=>by omega⟩,fun i hi=>⟨fun h=> ?_,fun h=> ?_⟩⟩;have h:i<l.length:=(by simpa using h);simp only[ju] at*;refine⟨by omega,by omega,fun a=> ?_,fun a=>⟨iZ6,i+1,⟨⟨by simp,tZ⟩,tZ⟩,⟨by omega,fun b c=> ?_⟩,by omega⟩⟩;rw[vW (p:=fun y=>decide (y=x)) h hi.2 (by have:=ja a;rw[<-this];exact jK rfl)];by_cases e:b=i;subst e;exact zm (fun e=>je a e.symm);exact hi.2 b (by omega);have h:l.length<=i:=(by simpa using h);rw[qC (p:=fun y=>decide (y=x)) h hi.2]
theorem CP:wq PR 111 CL:=vN CM En Tryz.func111 kcN koN
theorem tX:r9:=by
 rintro⟨l,x,⟨⟩⟩;exact jN (·,()) (fK (fun y=>decide (y=x)) l)
theorem cA:wq PR 76 r8:=wb tX Tryz.func76 (kcC CP kcN) koN
theorem pj {c:CrD} {j:JbD} (h:qB c j=0):kV c=true/\w6 c j=true:=by
 unfold qB at h
 split at h
 omega
 split at h
 omega;rename_i a b;exact⟨by simpa using a,by simpa using b⟩
theorem wX {c:CrD} (h:kV c=true):2<=U.la c/\U.la c<=5/\(kE c).length<=8/\(v6 c).length=4/\(∀p∈kE c,ij (U.la c) p=true)/\∀l∈v6 c,eM l=true:=by
 unfold kV at h;simp only[ji,jr,j8] at h;exact⟨h.1.1,h.1.2.1,h.1.2.2.1,h.1.2.2.2,h.2.1,h.2.2⟩
theorem lQ {c:CrD} {j:JbD} (h:w6 c j=true):(0<=Sl j/\Sl j<U.la c)/\(0<=LC j/\LC j<U.la c)/\Sl j≠LC j/\(0<=Yh j/\Yh j<=7)/\(0<=i9 j/\i9 j<=3)/\(1<=jbf j/\jbf j<=8):=by
 unfold w6 at h;have h:=ja h;obtain⟨d,m,e,n,f,_,_,g,i,k,l,a,b⟩:=h;exact⟨⟨d,by omega⟩,⟨e,by omega⟩,f,⟨g,i⟩,⟨k,l⟩,a,b⟩
theorem T8 {c:CrD} {j:JbD} (h:qB c j=0):Gm c j=some (c,j,eN c j,())/\bX (c,j,eN c j,()):=by
 obtain⟨a,b⟩:=pj h;exact⟨by unfold Gm;rw[jd h],a,b,rfl⟩
theorem W7:T6:=by
 unfold T6 Prod.q4;rintro⟨c,j,⟨⟩⟩;refine⟨fun h=> ?_,fun h=> ?_⟩;have h:qB c j≠0:=ja h;simp only;unfold Gm;rw[jc h];have h:qB c j=0:=(by simpa using h);obtain⟨b,d⟩:=pj h;obtain⟨_,_,_,a,_⟩:=wX b;obtain⟨_,_,_,_,hk,_⟩:=lQ d;have hk:0<=j.2.2.2.2.1/\j.2.2.2.2.1<=3:=hk;have a:c.2.2.1.length=4:=a;refine⟨hk.1,by simp only;omega,?_⟩;simp only;rw[(T8 h).1,h];rfl
theorem JO:wq PR 105 T4:=wb W7 Tryz.func105 (kcC FZ kcN) koN
theorem tY (t:TkD) (s:Int) (n:Nat):yn t s (n+1)=yn t s n++(if th s (n:Int)=true then[((n:Int),nth (kE (U.tc t)) n,())] else[]):=by
 unfold yn;rw[L.cL,zi]
 split<;>simp
theorem T9 (t:TkD) (s:Int) {n m:Nat} (h:n<=m):∃rest,yn t s n++rest=yn t s m:=by
 induction m with
 |zero=>
  have:n=0:=(by omega);subst this;exact⟨[],by simp⟩
 |succ m b=>
  by_cases e:n=m+1;subst e;exact⟨[],by simp⟩;obtain⟨r,a⟩:=b (by omega);rw[tY,<-a];exact⟨r++_,by rw[jI]⟩
theorem sa:bL:=by
 unfold bL jgP jfL jes jfK;rintro⟨(_|t),s,⟨⟩⟩ l i e;cases i;have e:(kE (U.tc t)).length<=60:=e;refine⟨rfl,fun _=>⟨⟨0,⟨⟨rfl,tZ⟩,tZ⟩,rfl,jv _⟩,fun x g=> ?_⟩⟩;have g:x<=(kE (U.tc t)).length:=g;have c:U.tk (some t)=t:=rfl;refine⟨fun h=> ?_,fun h=> ?_⟩;have h:x<(kE (U.tc t)).length:=by
  have:=ja h;have this:(x:Int)<(kE (U.tc t)).length:=this;omega
 have j:(x:Int)<(kE (U.tc t)).length:=(by omega);refine⟨by omega,j,by omega,by omega,fun b=> ?_,fun b=> ?_⟩;have d:yn t s (x+1)=yn t s x++[((x:Int),nth (kE (U.tc t)) x,())]:=(by rw[tY,jd b]);obtain⟨r,f⟩:=T9 t s (show x+1<=(kE (U.tc t)).length by omega);refine⟨rfl,⟨r,by rw[d] at f;exact f⟩,⟨fun a=>absurd a (by rw[Bool.not_true,Bool.and_false];simp),fun _=>⟨iZ6,x+1,⟨⟨by omega,tZ⟩,tZ⟩,?_,(show x+1<=(kE (U.tc t)).length by omega),(show(kE (U.tc t)).length-(x+1)<(kE (U.tc t)).length-x by omega)⟩⟩,
  fun _ a=>(by cases a),fun a=> ?_⟩
 rw[c,d];rfl;rw[Bool.not_false,Bool.and_true] at a;exact absurd b (by simp only at a⊢;rw[a];simp);have d:yn t s (x+1)=yn t s x:=by
  rw[tY,jc (by simp only at b⊢;rw[b];simp),j9]
 refine⟨fun a=> ?_,fun _=>⟨iZ6,x+1,⟨⟨by omega,tZ⟩,tZ⟩,?_,(show x+1<=(kE (U.tc t)).length by omega),(show(kE (U.tc t)).length-(x+1)<(kE (U.tc t)).length-x by omega)⟩⟩;rw[Bool.not_false,Bool.and_true] at a;exact absurd a (by simp only at b⊢;rw[b];simp);rw[c,d];have h:(kE (U.tc t)).length<=x:=by
  have:=je h;have this:¬(x:Int)<(kE (U.tc t)).length:=this;omega
 intro _;rw[show x=(kE (U.tc t)).length by omega];rfl
theorem MN {H:Imm} {lb:Array Value} {d:PD [.ref (.ptr tTk),.ref (.uint .u64)]} (g:pvs PR H [.ref (.ptr tTk),.ref (.uint .u64)] lb.toList d) (a:d.1.isSome=true) (b:(kE (U.tc (U.tk d.1))).length<=60):WT PR H [.int,tPe] (LM d) (.func (.func 207) #[] lb):=
 YG (C:=ctx 28 [(208,lM)] []) (oc ⟨fun _=>JH,tZ⟩ trivial) mixed Tryz.func207 (by kernel_rfl) (by kernel_rfl) (by kernel_rfl) (by kernel_rfl) (by decide) (iR.mpr sa) (fun d l B0 R h c e f=>jbH c f) g ⟨a,b,tZ⟩
theorem xP:dO:=by intro d;rfl
theorem dP:Jp PR 159 we:=jbK (nh.mpr xP) Tryz.func159 (by kernel_rfl) (by kernel_rfl) (by kernel_rfl) (by kernel_rfl) trivial trivial
theorem Z5:∀(f:Nat) (p:Nat×oY),kR ([]:List (Nat×Nat×oY)) f=some p->ROK PR f p.2:=fun _ _ h=>by cases h
theorem JP {sv:SV} {pr:Prop} {L:List (Ty.st [.int,tPe]).Data->Prop} {v:Value} {ρ:Env} (a:Ps sv=some (pr,L)) (b:pr) (g:SV.den PR ρ sv v):WT PR ρ.H [.int,tPe] L v:=by
 unfold Ps at a
 split at a
 case h_2=>cases a
 rename_i m t n s
 split at a
 case h_2=>cases a
 rename_i q p l f;simp only[jw,Prod.mk.injEq] at a;obtain⟨rfl,rfl⟩:=a;obtain⟨e,rfl⟩:=kB l;subst e;obtain⟨e2,rfl⟩:=kB f;subst e2;simp only[SV.den,SV.denL] at g;obtain⟨lb,rfl,x,r,k,h,y,o,c,i,j⟩:=g;exact MN (d:=(t,s,())) (by rw[k,c,j];exact⟨h,i,rfl⟩) b.1 b.2
theorem sd (t:TkD) (a b:Int) (q:List (Int×PeD×Unit)) (x:Int×PeD×Unit):gz t a b (q++[x])=U.jn t a b x:=by
 unfold gz;rw[List.getLast?_append];simp
theorem MO {t:TkD} {a b:Int} {q:List (Int×PeD×Unit)} (h:vY (fun q=>gz t a b q) q):q.any (U.jn t a b)=false:=by
 rw[zq];intro x c;obtain⟨u,v,rfl⟩:=List.append_of_mem c;have:=h u x v rfl;simp only[sd] at this;rw[this];simp
theorem QP {t:TkD} {s:Int} {x:Int×PeD×Unit} (h:x∈xA t s):x.2.1∈kE (U.tc t):=by
 unfold xA yn at h;obtain⟨i,hi,rfl⟩:=jT.1 h;have:=jC.1 (jO.1 hi).1;exact L.kx this
theorem Z6 {n:Int} {p:PeD} (h:ij n p=true):((U.lv p).length:Int)=n:=by
 unfold ij at h;simp only[ji,jr] at h;exact h.1.1
theorem CQ:iu:=by
 unfold iu jgQ jhr;rintro⟨(_|t),s,a,b,⟨⟩⟩ r l v f w g;cases r;obtain⟨c1,c2,A⟩:=l;have c1:kV (U.tc t)=true:=c1;obtain⟨B,C,D,E,p,F⟩:=wX c1;have k:(kE (U.tc t)).length<=60:=(by omega);have c:U.tk (some t)=t:=rfl;refine⟨⟨rfl,k⟩,tZ,rfl,fun q x rest i e=> ?_,fun xs j e=> ?_,fun q x rest i e d=> ?_⟩;have z:x∈xA t s:=(by rw[c] at i;rw[<-i];simp);have o:=Z6 (p _ (QP z));have o:((x.2.1.1.length:Nat):Int)=U.la (U.tc t):=o;have f:a<U.la (U.tc t):=f;have g:b<U.la (U.tc t):=g;have m:gz t a b q=false:=by
  cases n:q.getLast? with
  |none=>unfold gz;rw[n]
  |some y=>
   obtain⟨u,rfl⟩:=List.getLast?_eq_some_iff.1 n;have:=e u y [] rfl;exact this
 refine⟨v,by simp only;omega,w,by simp only;omega,rfl,fun h=> ?_,fun h=> ?_⟩;have h:U.jn t a b x=true:=h;have:gz t a b (q++[x])=true:=(by rw[sd];exact h);rw[c];simp only;exact⟨this,by rw[this];rfl⟩;have h:U.jn t a b x=false:=h;have:gz t a b (q++[x])=false:=(by rw[sd];exact h);rw[c];simp only;exact⟨this,by rw[this,m]⟩;rw[c] at j e;subst j;have:=MO e;simp only;rw[c];unfold mn;rw[this];rw[c] at i d⊢;simp only at d⊢;rw[d];unfold mn;rw[<-i];rw[sd] at d;simp[d]
theorem JQ:(LB 33 [] [] [(159,we)] []).ok PR:=MD trivial trivial ⟨dP,tZ⟩ trivial
theorem xQ:wq PR 210 ir:=
 TQ (body:=wt Tryz.f210) (C:=LB 33 [] [] [(159,we)] []) (hk:=hkC (LB 33 [] [] [(159,we)] []) (fun _=>none) CO [] []) JQ mixed Tryz.func210 (by kernel_rfl) (by kernel_rfl) (by kernel_rfl) (by decide)
  (fun B=>FW JQ mixed (fun k ts rs sv pr L v ρ hk c a b=>by
   unfold CO at hk
   split at hk
   case h_2=>cases hk
   simp only[jw] at hk
   cases hk
   exact JP c a b) Z5 B) (pi.mpr CQ)
namespace U
def gE (x:Int) (N n:Nat):List Int:=List.replicate n x++List.replicate (N-n) 0
def LD (t:TkD) (c:Int) (a b:Nat):Bool:=mn t c (a:Int) (b:Int)
def ik (t:TkD) (a:Int):List Int:=jcq (LD t a) (la (tc t)).toNat (LC (tj t)).toNat
def wu (t:TkD) (a:Int) (k:Nat):List Int×List Int:=gG (LD t a) (la (tc t)).toNat (LC (tj t)).toNat k
def yO (t:TkD) (a:Int) (x:List Int×List Int) (i:Nat):List Int×List Int:=tg (LD t a) (nth x.2 0).toNat x i
def jbh (t:TkD) (a:Int) (x:List Int×List Int) (lo:Nat):Prop:=jbc (LD t a) (la (tc t)).toNat (LC (tj t)).toNat x/\x.2≠[]/\x.2.length<=10/\lo<=10
end U
def glo (σ:St) (s:Nat):Nat:=match σ.get s with
 | .osl _ _ lo _=>lo
 |_=>0
def Hl:wi:=⟨[.val (.uint .u64),.val (.uint .u64)],[.uint .u64,.uint .u64],false,fun d=>[0<=d.1,d.1<=1000,0<=d.2.1,d.2.1<=1000],fun d=>((0:Int),d.1*d.2.1,())⟩
abbrev jeZ (d:Int×Int×Unit):=(d.1/(2:Int)^Int.toNat 32*yD d.2.1 (4294967295:Int)+yD d.1 (4294967295:Int)*yD d.2.1 (4294967295:Int)/(2:Int)^Int.toNat 32)
abbrev jet (d:Int×Int×Unit):=(d.2.1/(2:Int)^Int.toNat 32)
abbrev jgR (d:Int×Int×Unit):=(yD (jeZ d) (4294967295:Int)+yD d.1 (4294967295:Int)*(jet d))
def Hm:Prop:=∀(d:Int×Int×Unit),0<=d.1->d.1<=1000->0<=d.2.1->d.2.1<=1000->(0:Int)<=32/\(32:Int)<=64/\(0:Int)<=32/\(32:Int)<=64/\0<=yD d.1 (4294967295:Int)*yD d.2.1 (4294967295:Int)/\yD d.1 (4294967295:Int)*yD d.2.1 (4294967295:Int)<=18446744073709551615/\0<=d.1/(2:Int)^Int.toNat 32*yD d.2.1 (4294967295:Int)/\d.1/(2:Int)^Int.toNat 32*yD d.2.1 (4294967295:Int)<=18446744073709551615/\(0:Int)<=32/\(32:Int)<=64/\0<=d.1/(2:Int)^Int.toNat 32*yD d.2.1 (4294967295:Int)+yD d.1 (4294967295:Int)*yD d.2.1 (4294967295:Int)/(2:Int)^Int.toNat 32/\d.1/(2:Int)^Int.toNat 32*yD d.2.1 (4294967295:Int)+yD d.1 (4294967295:Int)*yD d.2.1 (4294967295:Int)/(2:Int)^Int.toNat 32<=18446744073709551615/\(0:Int)<=32/\(32:Int)<=64/\0<=yD d.1 (4294967295:Int)*(jet d)/\yD d.1 (4294967295:Int)*(jet d)<=18446744073709551615/\0<=yD (jeZ d) (4294967295:Int)+yD d.1 (4294967295:Int)*(jet d)/\yD (jeZ d) (4294967295:Int)+yD d.1 (4294967295:Int)*(jet d)<=18446744073709551615/\0<=d.1/(2:Int)^Int.toNat 32*(jet d)/\d.1/(2:Int)^Int.toNat 32*(jet d)<=18446744073709551615/\0<=d.1/(2:Int)^Int.toNat 32*(jet d)+(jeZ d)/(2:Int)^Int.toNat 32/\d.1/(2:Int)^Int.toNat 32*(jet d)+(jeZ d)/(2:Int)^Int.toNat 32<=18446744073709551615/\(0:Int)<=32/\(32:Int)<=64/\0<=d.1/(2:Int)^Int.toNat 32*(jet d)+(jeZ d)/(2:Int)^Int.toNat 32+(jgR d)/(2:Int)^Int.toNat 32/\d.1/(2:Int)^Int.toNat 32*(jet d)+(jeZ d)/(2:Int)^Int.toNat 32+(jgR d)/(2:Int)^Int.toNat 32<=18446744073709551615/\0<=d.1*d.2.1/\d.1*d.2.1<=18446744073709551615/\(d.1/(2:Int)^Int.toNat 32*(jet d)+(jeZ d)/(2:Int)^Int.toNat 32+(jgR d)/(2:Int)^Int.toNat 32,d.1*d.2.1,())=((0:Int),d.1*d.2.1,())
def MP:wi:=⟨[.val (.uint .u64),.val (.uint .u64)],[.uint .u64,.uint .u64],false,fun d=>[0<=d.1,d.1<=1000,0<=d.2.1,d.2.1<=1000],fun d=>((0:Int),d.1*d.2.1,())⟩
def MQ:Prop:=∀(d:Int×Int×Unit),0<=d.1->d.1<=1000->0<=d.2.1->d.2.1<=1000->(false=true->False)/\(qF->0<=d.1/\d.1<=1000/\0<=d.2.1/\d.2.1<=1000/\((0:Int),d.1*d.2.1,())=((0:Int),d.1*d.2.1,()))
def xR:qi:=⟨[.val (.slice .int),.val .int],[.cl (.row 3 .int .no)],fun d=>[d.1.length=1,0<=d.2.1,d.2.1<=1000],fun d=>((List.replicate d.2.1.toNat (nth d.1 0),()),())⟩
def xS:Ann:=fun r=>match r with
 |8=>some fun σ=>{X:=Nat,sl:=fun n=>[(8,.dat .int (n:Int))],ob:=fun n=>[(7,some (.row 3 .int false .no (gE (nth (gd (.slice .int) σ 0) 0) (gd .int σ 1).toNat n)))],inv:=fun n=>n<=(gd .int σ 1).toNat/\(1<=n\/(gd .int σ 1).toNat=0),mu:=fun n=>(gd .int σ 1).toNat-n}
 |_=>none
abbrev jey (d:List Int×Int×Unit):=(d.1.length:Int)
abbrev jfM (d:List Int×Int×Unit):=(List.replicate ((jey d)*d.2.1).toNat (0:Int))
abbrev jfN (d:List Int×Int×Unit)(x:Nat):=(gE (nth d.1 0) d.2.1.toNat x)
abbrev jfe (d:List Int×Int×Unit)(x:Nat):=(↑(jfN d x).length:Int)
abbrev jgS (x:Nat)(d:List Int×Int×Unit):=(List.take ((x:Int).toNat-Int.toNat 0) (List.drop (Int.toNat 0) (jfN d x)))
abbrev jgl (d:List Int×Int×Unit)(x:Nat):=((jfe d x).toNat-(x:Int).toNat)
abbrev jhs (d:List Int×Int×Unit):=(decide ((0:Int)<0)||decide (9223372036854775807<(jey d)*d.2.1))
def xT:Prop:=∀(d:List Int×Int×Unit),d.1.length=1->0<=d.2.1->d.2.1<=1000->(decide (d.2.1<0)=true->False)/\(decide (d.2.1<0)=false->d.1.length<4611686018427387904->0<=(jey d)/\(jey d)<=18446744073709551615/\0<=d.2.1/\d.2.1<=18446744073709551615/\0<=(jey d)/\(jey d)<=1000/\0<=d.2.1/\d.2.1<=1000/\((jhs d)=true->False)/\((jhs d)=false->kK ((jey d)*d.2.1)/\0<=(jey d)*d.2.1/\(jey d)*d.2.1=(jey d)*d.2.1/\((jey d)*d.2.1).toNat*8<=140737488355328/\0+(jfM d).length<=(jfM d).length/\(∃(x:Nat),(((↑(List.take (jfM d).length d.1).length:Int)=(x:Int)/\True)/\Sg (jfM d) 0 (jfM d).length d.1=gE (nth d.1 0) d.2.1.toNat x/\True)/\x<=d.2.1.toNat/\(1<=x\/d.2.1.toNat=0))/\∀(x:Nat),x<=d.2.1.toNat/\(1<=x\/d.2.1.toNat=0)->(jfN d x).length<4611686018427387904->(decide ((x:Int)<(jfe d x))=true->0<=(x:Int)/\(x:Int)<=(jfe d x)/\(jfe d x)<=(jfe d x)/\(0:Int)<=0/\0<=(x:Int)/\(x:Int)<=(jfe d x)/\(x:Int).toNat+(jgl d x)<=(jfN d x).length/\kK ((x:Int)+(List.take (jgl d x) (jgS x d)).length)/\∃(a:Nat),(((x:Int)+(List.take (jgl d x) (jgS x d)).length=(a:Int)/\True)/\Sg (jfN d x) (x:Int).toNat (jgl d x) (jgS x d)=gE (nth d.1 0) d.2.1.toNat a/\True)/\(a<=d.2.1.toNat/\(1<=a\/d.2.1.toNat=0))/\d.2.1.toNat-a<d.2.1.toNat-x)/\(decide ((x:Int)<(jfe d x))=false->(gE (nth d.1 0) d.2.1.toNat x,())=(List.replicate d.2.1.toNat (nth d.1 0),())/\()=())))
def yB:wi:=⟨[.val (.ptr tTk),.val (.uint .u64)],[.slice .int],false,fun d=>[d.1.isSome=true,bX (U.tk d.1)],fun d=>(ik (U.tk d.1) d.2.1,())⟩
def Hn:Ann:=fun r=>match r with
 |4=>some fun σ=>{X:=Nat×List Int,sl:=fun x=>[(6,.osl 6 .int x.2.length (wu (U.tk (gd (.ptr tTk) σ 0)) (gd (.uint .u64) σ 1) x.1).2.length)],ob:=fun x=>[(5,some (.row 3 .int false .no (wu (U.tk (gd (.ptr tTk) σ 0)) (gd (.uint .u64) σ 1) x.1).1)),(6,some (.row 3 .int false .no (x.2++(wu (U.tk (gd (.ptr tTk) σ 0)) (gd (.uint .u64) σ 1) x.1).2)))],inv:=fun x=>x.2.length<=x.1/\x.1<=(U.la (U.tc (U.tk (gd (.ptr tTk) σ 0)))).toNat,mu:=fun x=>(U.la (U.tc (U.tk (gd (.ptr tTk) σ 0)))).toNat+1-x.1}
 |7=>some fun σ=>{X:=Nat×List Int,sl:=fun x=>[(28,.any),(35,.dat .int (x.1:Int)),(6,.osl 6 .int x.2.length (yO (U.tk (gd (.ptr tTk) σ 0)) (gd (.uint .u64) σ 1) (gr .int σ 5,(gr .int σ 6).drop (glo σ 6)) x.1).2.length)],ob:=fun x=>[(5,some (.row 3 .int false .no (yO (U.tk (gd (.ptr tTk) σ 0)) (gd (.uint .u64) σ 1) (gr .int σ 5,(gr .int σ 6).drop (glo σ 6)) x.1).1)),(6,some (.row 3 .int false .no (x.2++(yO (U.tk (gd (.ptr tTk) σ 0)) (gd (.uint .u64) σ 1) (gr .int σ 5,(gr .int σ 6).drop (glo σ 6)) x.1).2)))],inv:=fun x=>x.1<=(gr .int σ 5).length/\x.2.length<=glo σ 6/\jbh (U.tk (gd (.ptr tTk) σ 0)) (gd (.uint .u64) σ 1) (gr .int σ 5,(gr .int σ 6).drop (glo σ 6)) (glo σ 6),mu:=fun x=>(gr .int σ 5).length-x.1}
 |2000011=>some fun _=>{X:=Unit,sl:=fun _=>[],ob:=fun _=>[],inv:=fun _=>True,mu:=fun _=>0}
 |_=>none
abbrev jeS (d:Option (CrD×JbD×LwD×Unit)×Int×Unit):=(kU (((0:Int),[],[],()),((0:Int),(0:Int),(0:Int),(0:Int),(0:Int),(0:Int),()),((0:Int),(0:Int),false,()),()) d.1)
abbrev jec (d:Option (CrD×JbD×LwD×Unit)×Int×Unit)(x:Nat×List Int):=(wu (U.tk d.1) d.2.1 x.1)
abbrev jfo (d:Option (CrD×JbD×LwD×Unit)×Int×Unit)(x:Nat×List Int):=((jec d x).1,List.drop x.2.length (x.2++(jec d x).2))
abbrev jd5 (d:Option (CrD×JbD×LwD×Unit)×Int×Unit)(x:Nat×List Int)(a:Nat×List Int):=(yO (U.tk d.1) d.2.1 (jfo d x) a.1)
abbrev jeF (d:Option (CrD×JbD×LwD×Unit)×Int×Unit)(x:Nat×List Int)(a:Nat×List Int):=(nth (jd5 d x a).1 (a.1:Int).toNat<0)
abbrev je0 (a:Nat×List Int):=(a.2.length+Int.toNat 0)
abbrev jfp (d:Option (CrD×JbD×LwD×Unit)×Int×Unit)(x:Nat×List Int)(a:Nat×List Int):=(yO (U.tk d.1) d.2.1 (jfo d x) a.1)
def Ho:Prop:=∀(d:Option (CrD×JbD×LwD×Unit)×Int×Unit),d.1.isSome=true->bX (U.tk d.1)->d.1.isSome=true/\[(-1:Int)].length=1/\(0:Int)<=(jeS d).1.1/\(jeS d).1.1<=1000/\d.1.isSome=true/\(0:Int)<=(jeS d).2.1.2.1/\(jeS d).2.1.2.1<(↑(List.replicate (jeS d).1.1.toNat (nth [(-1:Int)] 0)).length:Int)/\d.1.isSome=true/\(∃(x:Nat×List Int),(((x.2.length=0/\(jec d x).2.length=[(jeS d).2.1.2.1].length)/\True)/\(List.replicate (jeS d).1.1.toNat (nth [(-1:Int)] 0)).set (jeS d).2.1.2.1.toNat 0=(jec d x).1/\[(jeS d).2.1.2.1]=x.2++(jec d x).2/\True)/\x.2.length<=x.1/\x.1<=(U.la (U.tc (U.tk d.1))).toNat)/\∀(x:Nat×List Int),x.2.length<=x.1/\x.1<=(U.la (U.tc (U.tk d.1))).toNat->(jec d x).2.length<4611686018427387904->(decide ((0:Int)<(jec d x).2.length)=true->(jec d x).1.length<4611686018427387904->(∃(a:Nat×List Int),((0=(a.1:Int)/\(x.2.length=a.2.length/\(jec d x).2.length=(jd5 d x a).2.length)/\True)/\(jec d x).1=(jd5 d x a).1/\x.2++(jec d x).2=a.2++(jd5 d x a).2/\True)/\a.1<=(jec d x).1.length/\a.2.length<=x.2.length/\jbh (U.tk d.1) d.2.1 (jfo d x) x.2.length)/\∀(a:Nat×List Int),a.1<=(jec d x).1.length/\a.2.length<=x.2.length/\jbh (U.tk d.1) d.2.1 (jfo d x) x.2.length->(decide ((a.1:Int)<(jec d x).1.length)=true->0<=(a.1:Int)/\(a.1:Int)<(jd5 d x a).1.length/\(decide (jeF d x a)=true->(0:Int)<=0)/\(decide (jeF d x a)=true->(0:Int)<(jd5 d x a).2.length)/\(decide (jeF d x a)=true->d.1.isSome=true)/\(decide (jeF d x a)=true->bX (U.tk d.1))/\(decide (jeF d x a)=true->0<=nth (a.2++(jd5 d x a).2) (je0 a))/\(decide (jeF d x a)=true->nth (a.2++(jd5 d x a).2) (je0 a)<U.la (U.tc (U.tk d.1)))/\(decide (jeF d x a)=true->0<=(a.1:Int))/\(decide (jeF d x a)=true->(a.1:Int)<U.la (U.tc (U.tk d.1)))/\((decide (jeF d x a)&&mn (U.tk d.1) d.2.1 (nth (a.2++(jd5 d x a).2) (je0 a)) (a.1:Int))=true->(0:Int)<=0/\(0:Int)<(jd5 d x a).2.length/\0<=nth (a.2++(jd5 d x a).2) (je0 a)/\nth (a.2++(jd5 d x a).2) (je0 a)<(↑(jd5 d x a).1.length:Int)/\kK (nth (jd5 d x a).1 (nth (a.2++(jd5 d x a).2) (je0 a)).toNat+1)/\0<=(a.1:Int)/\(a.1:Int)<(jd5 d x a).1.length/\a.2.length+(jd5 d x a).2.length=(a.2++(jd5 d x a).2).length/\0<(jd5 d x a).2.length/\a.2.length+(jd5 d x a).2.length+[(a.1:Int)].length<4611686018427387904/\((jd5 d x a).2.length+[(a.1:Int)].length)*8<=140737488355328/\∀(pre:List Int),pre.length<=a.2.length->kK ((a.1:Int)+1)/\∃(b:Nat×List Int),(((a.1:Int)+1=(b.1:Int)/\(pre.length=b.2.length/\(jd5 d x a).2.length+[(a.1:Int)].length=(jfp d x b).2.length)/\True)/\pre++List.drop a.2.length (a.2++(jd5 d x a).2)++[(a.1:Int)]=b.2++(jfp d x b).2/\(jd5 d x a).1.set (a.1:Int).toNat (nth (jd5 d x a).1 (nth (a.2++(jd5 d x a).2) (je0 a)).toNat+1)=(jfp d x b).1/\True)/\(b.1<=(jec d x).1.length/\b.2.length<=x.2.length/\jbh (U.tk d.1) d.2.1 (jfo d x) x.2.length)/\(jec d x).1.length-b.1<(jec d x).1.length-a.1)/\((decide (jeF d x a)&&mn (U.tk d.1) d.2.1 (nth (a.2++(jd5 d x a).2) (je0 a)) (a.1:Int))=false->kK ((a.1:Int)+1)/\∃(b:Nat×List Int),(((a.2.length=b.2.length/\(jd5 d x a).2.length=(jfp d x b).2.length)/\(a.1:Int)+1=(b.1:Int)/\True)/\a.2++(jd5 d x a).2=b.2++(jfp d x b).2/\(jd5 d x a).1=(jfp d x b).1/\True)/\(b.1<=(jec d x).1.length/\b.2.length<=x.2.length/\jbh (U.tk d.1) d.2.1 (jfo d x) x.2.length)/\(jec d x).1.length-b.1<(jec d x).1.length-a.1))/\(decide ((a.1:Int)<(jec d x).1.length)=false->(0:Int)<=1/\(1:Int)<=(jd5 d x a).2.length/\(↑(jd5 d x a).2.length:Int)<=(jd5 d x a).2.length/\∃(b:Nat×List Int),(((a.2.length+Int.toNat 1=b.2.length/\(↑(jd5 d x a).2.length:Int).toNat-Int.toNat 1=(wu (U.tk d.1) d.2.1 b.1).2.length)/\True)/\(jd5 d x a).1=(wu (U.tk d.1) d.2.1 b.1).1/\a.2++(jd5 d x a).2=b.2++(wu (U.tk d.1) d.2.1 b.1).2/\True)/\(b.2.length<=b.1/\b.1<=(U.la (U.tc (U.tk d.1))).toNat)/\(U.la (U.tc (U.tk d.1))).toNat+1-b.1<(U.la (U.tc (U.tk d.1))).toNat+1-x.1))/\(decide ((0:Int)<(jec d x).2.length)=false->((jec d x).1,())=(ik (U.tk d.1) d.2.1,()))
theorem Hp {x:Int} (a:0<=x) (b:x<=4294967295):yD x 4294967295=x:=by
 obtain⟨n,rfl⟩:∃n:Nat,x=(n:Int):=⟨x.toNat,by omega⟩;rw[show(4294967295:Int)=((4294967295:Nat):Int) from rfl,BT.uand_nat (by omega) (by omega),show(4294967295:Nat)=2^32-1 from rfl,Nat.and_two_pow_sub_one_eq_mod,Nat.mod_eq_of_lt (by omega)]
theorem JR:Hm:=by
 unfold Hm jgR jet jeZ;rintro⟨x,y,⟨⟩⟩ b c a d;simp only at b c a d;have f:=Hp b (by omega);have g:=Hp a (by omega);have e:=Hp (x:=0) (by omega) (by omega);have h:x/2^Int.toNat 32=0:=Int.ediv_eq_zero_of_lt b (by show x<2^32;omega);have i:y/2^Int.toNat 32=0:=Int.ediv_eq_zero_of_lt a (by show y<2^32;omega);have k:0<=x*y:=Int.mul_nonneg b a;have l:x*y<=1000*1000:=Int.mul_le_mul c d a (by omega);have c1:x*y/2^Int.toNat 32=0:=Int.ediv_eq_zero_of_lt k (by show x*y<2^32;omega);have j:(0:Int)/2^Int.toNat 32=0:=Int.zero_ediv _;simp only[f,g,h,i,Int.zero_mul,Int.mul_zero,Int.add_zero,c1,e,j]
 and_intros<;>first|omega|rfl|trivial
theorem Hq:wq PR 237 Hl:=wb JR Tryz.func237 kcN koN
theorem QQ:MQ:=by
 rintro⟨x,y,⟨⟩⟩ a b c d;exact⟨fun h=>(by cases h),fun _=>⟨a,b,c,d,rfl⟩⟩
theorem MR:wq PR 229 MP:=wb QQ Tryz.func229 (kcC Hq kcN) koN
theorem Hr {x:Int} {N n:Nat} (h:n<=N):(gE x N n).length=N:=by
 unfold gE;simp;omega
theorem JS {x:Int} {N n:Nat} (_:n<=N):(gE x N n).take n=List.replicate n x:=by
 unfold gE;rw[List.take_append_of_le_length (by simp),zD (by simp)]
theorem Ua {x:Int} {N n:Nat} (h:n<=N):Sg (gE x N n) n (N-n) (List.replicate n x)=gE x N (n+min (N-n) n):=by
 unfold Sg;rw[JS h,List.take_replicate,jV];unfold gE;rw[List.drop_append,jV,List.drop_of_length_le (by simp),j0,List.drop_replicate,<-List.replicate_append_replicate];congr 2;omega
theorem CR:xT:=by
 unfold xT jhs jgl jgS jfe jfN jfM jey;rintro⟨l,n,⟨⟩⟩ b g e;simp only at b g e;obtain⟨N,rfl⟩:∃N:Nat,n=(N:Int):=⟨n.toNat,by omega⟩;obtain⟨y,rfl⟩:∃y,l=[y]:=by
  cases l with
  |nil=>simp at b
  |cons y r=>cases r with
   |nil=>exact⟨y,rfl⟩
   |cons z r=>simp at b
 have c:(([y].length:Nat):Int)*(N:Int)=(N:Int):=(by simp);have f:nth [y] 0=y:=rfl
 dsimp only
 refine⟨fun h=> ?_,fun _ _=>⟨by simp,by simp,by omega,by omega,by simp,by simp,by omega,e,fun h=> ?_,fun _=> ?_⟩⟩;have:=ja h;omega;rw[c] at h;have h:(9223372036854775807:Int)<(N:Int):=(by simpa using h);omega;rw[c,f];simp only[ju,jV];refine⟨iZ6,by omega,tZ,by omega,by omega,⟨min 1 N,⟨⟨?_,tZ⟩,?_,tZ⟩,by omega,by omega⟩,fun x a i=>⟨fun h=> ?_,fun h=> ?_⟩⟩;rw[jX];simp only[jY,zv];omega;rcases zQ N with d|d;subst d;rfl;obtain⟨M,rfl⟩:∃M,N=M+1:=⟨N-1,by omega⟩;have:min 1 (M+1)=1:=(by omega);rw[this];simp[Sg,gE,List.replicate_succ];have h:=ja h;rw[Hr a.1] at h;simp only[Hr a.1,Int.toNat_zero,List.drop_zero,Nat.sub_zero,JS a.1,List.take_replicate,jV];refine⟨by omega,by omega,by omega,by omega,by omega,by omega,by omega,iZ6,x+min (N-x) x,⟨⟨by omega,tZ⟩,Ua a.1,tZ⟩,⟨by omega,by omega⟩,by omega⟩;have h:=je h;rw[Hr a.1] at h;have h:x=N:=(by have:=a.1;omega);subst h;refine⟨?_,tZ⟩;unfold gE;rw[Nat.sub_self];simp
theorem xU:y7 PR 209 xR:=xr xS CR Tryz.func209 (kcC MR kcN) koN
theorem Z7 {a b:List Int}:nth (a++b) (a.length+Int.toNat 0)=nth b 0:=by
 unfold nth;simp only[zc,Int.toNat_zero,zH];rw[jx (jj _),Nat.sub_self]
theorem JT {t:TkD} {s:Int} (a:bX t):2<=U.la (U.tc t)/\U.la (U.tc t)<=5/\0<=LC (U.tj t)/\LC (U.tj t)<U.la (U.tc t):=by
 obtain⟨c1,c2,_⟩:=a;obtain⟨b,c,_⟩:=wX c1;obtain⟨_,⟨d,e⟩,_⟩:=lQ c2;exact⟨b,c,d,e⟩
theorem JU:Ho:=by
 unfold Ho jfp je0 jeF jd5 jfo jec jeS;rintro⟨(_|t),s,⟨⟩⟩ h0 m;cases h0;have m:bX t:=m;obtain⟨l1,l2,j1,j2⟩:=JT (s:=s) m;have w:U.tk (some t)=t:=rfl;obtain⟨n,A⟩:∃n,n=(U.la (U.tc t)).toNat:=⟨_,rfl⟩;obtain⟨v,hv⟩:∃v,v=(LC (U.tj t)).toNat:=⟨_,rfl⟩;have Z:v<n:=(by omega);have X:∀k,jbc (LD t s) n v (wu t s k)/\((wu t s k).2=[]\/Jv (wu t s k).1+(wu t s k).2.length+k=n):=by
  intro k;rw[A,hv] at*;exact CI Z k
 refine⟨rfl,rfl,(by omega:0<=U.la (U.tc t)),(by omega:U.la (U.tc t)<=1000),rfl,j1,?_,rfl,⟨(0,[]),⟨⟨⟨rfl,rfl⟩,tZ⟩,rfl,?_,tZ⟩,jj _,jv _⟩,fun x hx S=>⟨fun j T=> ?_,fun h=> ?_⟩⟩;show LC (U.tj t)<(((List.replicate (U.la (U.tc t)).toNat (nth [(-1:Int)] 0)).length:Nat):Int);rw[jV];omega;show[LC (U.tj t)]=[]++[(((LC (U.tj t)).toNat:Nat):Int)];rw[j0,Int.toNat_of_nonneg j1];obtain⟨k,pre⟩:=x;obtain⟨W,H⟩:=hx;simp only[w,List.drop_left] at W H j T S⊢;rw[<-A] at H⊢;obtain⟨B,o⟩:=X k;have j:0<(wu t s k).2.length:=(by have:=ja j;omega);have d:(wu t s k).2≠[]:=fun e=>by rw[e] at j;simp at j
 have F:=B.i.len;rcases o with o|o;exact absurd o d;have p:wu t s (k+1)=gy (LD t s) n (wu t s k):=(by rw[A];rfl);generalize V:wu t s k=x0 at*;obtain⟨g,r0,a⟩:∃q r,x0.2=q::r:=by
  cases I:x0.2 with
  |nil=>exact absurd I d
  |cons q r=>exact⟨q,r,rfl⟩
 obtain⟨L,g2,g3⟩:=B.i.que g (by rw[a];simp);have y:nth x0.2 0=g:=(by rw[a];rfl);have hla:((n:Nat):Int)=U.la (U.tc t):=(by omega);have f:jbh t s (x0.1,x0.2) pre.length:=by
  unfold jbh;rw[<-A,<-hv];exact⟨B,d,by simp only;omega,by omega⟩
 refine⟨⟨(0,pre),⟨⟨rfl,⟨rfl,rfl⟩,tZ⟩,rfl,rfl,tZ⟩,jv _,jj _,f⟩,?_⟩;rintro⟨i,p5⟩ ⟨hi,Q,_⟩;simp only at hi Q;have C:InI (LD t s) n v g.toNat i x0 (yO t s (x0.1,x0.2) i):=by
  have:=TY (J:=LD t s) Z (q:=g.toNat) (by omega) g3 B.i B.le i (by omega);unfold yO;simp only[y];exact this
 have c:yO t s (x0.1,x0.2) (i+1)=td (LD t s) g.toNat (yO t s (x0.1,x0.2) i) i:=by
  unfold yO;simp only[y];exact FY _ _ _ _
 have D:i=n->wu t s (k+1)=((yO t s (x0.1,x0.2) i).1,(yO t s (x0.1,x0.2) i).2.drop 1):=by
  intro e;subst e;rw[p];have:gy (LD t s) i x0=((tg (LD t s) g.toNat x0 i).1,(tg (LD t s) g.toNat x0 i).2.drop 1):=by
   clear p c C f F d B X V;obtain⟨st,qu⟩:=x0;simp only at a;subst a;rfl
  rw[this];unfold yO;simp only[y]
 generalize hFI:yO t s (x0.1,x0.2) i=u at*;obtain⟨l,P⟩:=C.pre;have hQ:nth u.2 0=g:=(by rw[P,a];rfl);have G:0<u.2.length:=(by rw[P,a];simp);have hmu:=C.mu;have hFl:=C.i.len;have E:∀i:Nat,LD t s g.toNat i=mn t s g (i:Int):=by
  intro i;unfold LD;rw[Int.toNat_of_nonneg L]
 simp only[Z7,hQ];simp only[ju];refine⟨fun h=> ?_,fun h=> ?_⟩;have h:i<n:=(by have:=ja h;omega);refine⟨by omega,by omega,fun _=>by omega,fun _=>by omega,fun _=>rfl,fun _=>m,fun _=>L,fun _=>by omega,fun _=>by omega,fun _=>by omega,fun z=> ?_,fun z=> ?_⟩;rw[ji] at z;have h3:=ja z.1;have Y:=C.i.low g.toNat (by omega);have b:yO t s (x0.1,x0.2) (i+1)=(u.1.set i (nth u.1 g.toNat+1),u.2++[(i:Int)]):=by
  rw[c];unfold td;rw[jd ⟨h3,by rw[E];exact z.2⟩]
 refine⟨by omega,by omega,L,by omega,iZ6,by omega,by omega,by simp,G,by simp only[jY,zv];omega,by simp only[jY,zv];omega,fun K R=>⟨iZ6,(i+1,K),⟨⟨by simp,⟨rfl,?_⟩,tZ⟩,?_,?_,tZ⟩,⟨by simp only;omega,by simp only;omega,f⟩,by simp only;omega⟩⟩;rw[b];simp;rw[b,jI];rw[b];have b:yO t s (x0.1,x0.2) (i+1)=u:=by
  rw[c];unfold td;rw[jc (fun N=>by
   rw[E] at N;rw[N.2,jK N.1] at z;cases z)]
 refine⟨iZ6,(i+1,p5),⟨⟨⟨rfl,?_⟩,by simp,tZ⟩,?_,?_,tZ⟩,⟨by simp only;omega,by simp only;omega,f⟩,by simp only;omega⟩;rw[b];rw[b];rw[b];have h:i=n:=(by have:=je h;omega);have O:=D h;have M:u.2=g::(r0++l):=(by rw[P,a];rfl);refine⟨by omega,by omega,by omega,(k+1,p5++[g]),⟨⟨⟨?_,?_⟩,tZ⟩,?_,?_,tZ⟩,⟨by simp only[jJ,jY,zv];omega,by simp only;omega⟩,by simp only;omega⟩;simp only[jJ,jY,zv];rfl;rw[O];simp only[z8];rfl;rw[O];rw[O,M];simp;simp only[w] at h⊢;have h:(wu t s x.1).2=[]:=by
  have:=je h;exact zk (by omega)
 have hk:x.1<=n:=(by have:=hx.2;rw[w,<-A] at this;exact this);have h1:gG (LD t s) (U.la (U.tc t)).toNat (LC (U.tj t)).toNat ((U.la (U.tc t)).toNat+1)=wu t s x.1:=W6 (k:=x.1) h _ (by rw[<-A];omega);show((wu t s x.1).1,())=((gG (LD t s) (U.la (U.tc t)).toNat (LC (U.tj t)).toNat ((U.la (U.tc t)).toNat+1)).1,());rw[h1]
theorem Hs:wq PR 161 yB:=vN Hn JU Tryz.func161 (kcC xQ kcN) (koC xU koN)
namespace U
def ck (t:TkD) (o:Int) (q:List (Int×PeD×Unit)):Int:=q.foldl (fun o x=>uor o (vo t x.2.1)) o
def eQ (q:List (Int×PeD×Unit)):Bool:=q.any (fun x=>jcn x.2.1)
def E3 (b:Bool) (o k:Int):Int:=if b=true then uor o k else o
def qS (t:TkD) (s:Int):Int:=E3 (decide (nth (ik t s) (Sl (tj t)).toNat<0)) (E3 (jdi (tl t)&& !eQ (xA t s)) (E3 (decide (BT.size s≠max (jbf (tj t)) (jbe (tl t)))) (ck t 0 (xA t s)) 8) 16) 32
def Ir (c:CrD) (n:Int):Bool:=kl n 0 (2^(kE c).length-1)
def aK (c:CrD) (j:JbD) (n:Int):Int:=if qB c j≠0 then qB c j else if Ir c n=true then 0 else 1
def jbi (c:CrD) (j:JbD) (n:Int):Int:=if aK c j n=0 then qS (c,j,eN c j,()) n else 0
def bY (c:CrD) (j:JbD) (n:Nat):List Int:=((List.range n).filter (fun i=>decide (vo (c,j,eN c j,()) (nth (kE c) i)=0))).map (fun(i:Nat)=>(i:Int))
def cI (c:CrD) (j:JbD):List Int:=if qB c j=0 then bY c j (kE c).length else[]
end U
def vl:wi:=⟨[.val (.ptr tTk),.val tPe],[.uint .u64],false,fun d=>[d.1.isSome=true,bX (U.tk d.1)],fun d=>(vo (U.tk d.1) d.2.1,())⟩
def Ub:Jl [.int,tPe]:={ps:=[.ref (.ptr tTk),.own (.box 159 [.dat (.uint .u64)]) true,.own (.box 4 [.dat .bool]) true],slots:=[2,4,5],dst:=65,pre:=fun d=>[d.1.isSome=true,bX (U.tk d.1)],G:=fun d q=>((ck (U.tk d.1) d.2.1.1 q,()),(d.2.2.1.1||eQ q,()),()),seq:=Ps}
def CS:Nat->Option ((ts:List Ty)×Jl ts):=fun r=>match r with
 |4=>some ⟨[.int,tPe],Ub⟩
 |_=>none
def iv:wi:=⟨[.val (.ptr tTk),.val (.uint .u64)],[.uint .u64],false,fun d=>[d.1.isSome=true,bX (U.tk d.1),BT.q9 d.2.1],fun d=>(qS (U.tk d.1) d.2.1,())⟩
abbrev jeg (d:Option (CrD×JbD×LwD×Unit)×Int×Unit):=(kU (((0:Int),[],[],()),((0:Int),(0:Int),(0:Int),(0:Int),(0:Int),(0:Int),()),((0:Int),(0:Int),false,()),()) d.1)
abbrev je1 (d:Option (CrD×JbD×LwD×Unit)×Int×Unit):=(nth (ik (U.tk d.1) d.2.1) (jeg d).2.1.1.toNat<0)
abbrev jeT (d:Option (CrD×JbD×LwD×Unit)×Int×Unit):=(qS (U.tk d.1) d.2.1,())
abbrev jgT:=(fun(a:List (Int×PeD×Unit))=>false)
abbrev jgm (d:Option (CrD×JbD×LwD×Unit)×Int×Unit):=(↑(ik (U.tk d.1) d.2.1).length:Int)
def iw:Prop:=∀(d:Option (CrD×JbD×LwD×Unit)×Int×Unit),d.1.isSome=true->bX (U.tk d.1)->BT.q9 d.2.1->(d.1.isSome=true/\(kE (U.tc (U.tk d.1))).length<=60)/\(d.1.isSome=true/\bX (U.tk d.1)/\True)/\(d.1,(ck (U.tk d.1) (0:Int) [],()),(false||eQ [],()),())=(d.1,((0:Int),()),(false,()),())/\(∀(q:List (Int×PeD×Unit)) (x:Int×PeD×Unit) (rest:List (Int×PeD×Unit)),q++x::rest=xA (U.tk d.1) d.2.1->vY jgT q->d.1.isSome=true/\bX (U.tk d.1)/\qF/\((uor (ck (U.tk d.1) (0:Int) q) (vo (U.tk d.1) x.2.1),()),(false||eQ q||x.2.1.q4.1,()),())=((ck (U.tk d.1) (0:Int) (q++[x]),()),(false||eQ (q++[x]),()),()))/\(∀(xs:List (Int×PeD×Unit)),xs=xA (U.tk d.1) d.2.1->vY jgT xs->BT.q9 d.2.1/\d.1.isSome=true/\d.1.isSome=true/\(decide (BT.size d.2.1≠max (jeg d).2.1.q4.2.1 (jeg d).2.2.1.2.1)=true->d.1.isSome=true/\(((jeg d).2.2.1.2.2.1&& !(false||eQ xs))=true->d.1.isSome=true/\bX (U.tk d.1)/\d.1.isSome=true/\(0:Int)<=(jeg d).2.1.1/\(jeg d).2.1.1<(jgm d)/\(decide (je1 d)=true->(uor (uor (uor (ck (U.tk d.1) (0:Int) xs) (8:Int)) (16:Int)) (32:Int),())=(jeT d))/\(decide (je1 d)=false->(uor (uor (ck (U.tk d.1) (0:Int) xs) (8:Int)) (16:Int),())=(jeT d)))/\(((jeg d).2.2.1.2.2.1&& !(false||eQ xs))=false->d.1.isSome=true/\bX (U.tk d.1)/\d.1.isSome=true/\(0:Int)<=(jeg d).2.1.1/\(jeg d).2.1.1<(jgm d)/\(decide (je1 d)=true->(uor (uor (ck (U.tk d.1) (0:Int) xs) (8:Int)) (32:Int),())=(jeT d))/\(decide (je1 d)=false->(uor (ck (U.tk d.1) (0:Int) xs) (8:Int),())=(jeT d))))/\(decide (BT.size d.2.1≠max (jeg d).2.1.q4.2.1 (jeg d).2.2.1.2.1)=false->d.1.isSome=true/\(((jeg d).2.2.1.2.2.1&& !(false||eQ xs))=true->d.1.isSome=true/\bX (U.tk d.1)/\d.1.isSome=true/\(0:Int)<=(jeg d).2.1.1/\(jeg d).2.1.1<(jgm d)/\(decide (je1 d)=true->(uor (uor (ck (U.tk d.1) (0:Int) xs) (16:Int)) (32:Int),())=(jeT d))/\(decide (je1 d)=false->(uor (ck (U.tk d.1) (0:Int) xs) (16:Int),())=(jeT d)))/\(((jeg d).2.2.1.2.2.1&& !(false||eQ xs))=false->d.1.isSome=true/\bX (U.tk d.1)/\d.1.isSome=true/\(0:Int)<=(jeg d).2.1.1/\(jeg d).2.1.1<(jgm d)/\(decide (je1 d)=true->(uor (ck (U.tk d.1) (0:Int) xs) (32:Int),())=(jeT d))/\(decide (je1 d)=false->(ck (U.tk d.1) (0:Int) xs,())=(jeT d)))))/\∀(q:List (Int×PeD×Unit)) (x:Int×PeD×Unit) (rest:List (Int×PeD×Unit)),q++x::rest=xA (U.tk d.1) d.2.1->vY jgT q->false=true->(ck (U.tk d.1) (0:Int) (q++[x]),())=(jeT d)
theorem pk:(Pp (LB 64 [(106,vl),(160,yA),(161,yB)] [] [(159,we)] []) iv (fun _ _=>none) (hkC (LB 64 [(106,vl),(160,yA),(161,yB)] [] [(159,we)] []) (fun _=>none) CS [] []) Tryz.f113 (wt Tryz.f113))=iw:=by kernel_rfl
def Uc:wi:=⟨[.val tCr,.val tJb,.val .int],[.ptr tTk,.int],false,fun _=>[],fun d=>(Gm d.1 d.2.1,aK d.1 d.2.1 d.2.2.1,())⟩
abbrev jfq (d:CrD×JbD×Int×Unit):=(qB d.1 d.2.1=0)
abbrev jht (d:CrD×JbD×Int×Unit):=(decide (jfq d)&& !kl d.2.2.1 (0:Int) ((1:Int)*2^(d.1.2.1.length:Int).toNat-1))
def Ud:Prop:=∀(d:CrD×JbD×Int×Unit),(decide (jfq d)=true->d.1.2.1.length<4611686018427387904)->(decide (jfq d)=true->0<=(d.1.2.1.length:Int))/\(decide (jfq d)=true->(d.1.2.1.length:Int)<=64)/\(decide (jfq d)=true->kK ((1:Int)*2^(d.1.2.1.length:Int).toNat))/\(decide (jfq d)=true->kK ((1:Int)*2^(d.1.2.1.length:Int).toNat-1))/\((jht d)=true->(Gm d.1 d.2.1,(1:Int),())=(Gm d.1 d.2.1,aK d.1 d.2.1 d.2.2.1,()))/\((jht d)=false->(Gm d.1 d.2.1,qB d.1 d.2.1,())=(Gm d.1 d.2.1,aK d.1 d.2.1 d.2.2.1,()))
def MS:wi:=⟨[.val tCr,.val tJb,.val .int],[.int,.int],false,fun _=>[],fun d=>(jbi d.1 d.2.1 d.2.2.1,aK d.1 d.2.1 d.2.2.1,())⟩
def MT:Prop:=∀(d:CrD×JbD×Int×Unit),(decide (aK d.1 d.2.1 d.2.2.1≠0)=true->((0:Int),aK d.1 d.2.1 d.2.2.1,())=(jbi d.1 d.2.1 d.2.2.1,aK d.1 d.2.1 d.2.2.1,()))/\(decide (aK d.1 d.2.1 d.2.2.1≠0)=false->0<=d.2.2.1/\d.2.2.1<=18446744073709551615/\(Gm d.1 d.2.1).isSome=true/\bX (U.tk (Gm d.1 d.2.1))/\BT.q9 d.2.2.1/\kK (qS (U.tk (Gm d.1 d.2.1)) d.2.2.1)/\(qS (U.tk (Gm d.1 d.2.1)) d.2.2.1,(0:Int),())=(jbi d.1 d.2.1 d.2.2.1,aK d.1 d.2.1 d.2.2.1,()))
def W8:wi:=⟨[.val tCr,.val tJb],[.slice .int,.int],false,fun _=>[],fun d=>(cI d.1 d.2.1,qB d.1 d.2.1,())⟩
def W9:Ann:=fun r=>match r with
 |6=>some fun σ=>{X:=Nat,sl:=fun i=>[(23,.dat .int (i:Int)),(8,.own 8 .int)],ob:=fun i=>[(8,some (.row 3 .int false .yes (bY (gd tCr σ 0) (gd tJb σ 1) i)))],inv:=fun i=>i<=(kE (gd tCr σ 0)).length,mu:=fun i=>(kE (gd tCr σ 0)).length-i}
 |_=>none
def Xa:Prop:=∀(d:CrD×JbD×Unit),(decide (qB d.1 d.2.1≠0)=true->([],qB d.1 d.2.1,())=(cI d.1 d.2.1,qB d.1 d.2.1,()))/\(decide (qB d.1 d.2.1≠0)=false->d.1.2.1.length<4611686018427387904->(∃(x:Nat),((0=(x:Int)/\True/\True)/\bY d.1 d.2.1 x=[]/\True)/\x<=(kE d.1).length)/\∀(x:Nat),x<=(kE d.1).length->(decide ((x:Int)<d.1.2.1.length)=true->0<=(x:Int)/\(x:Int)<d.1.2.1.length/\(Gm d.1 d.2.1).isSome=true/\bX (U.tk (Gm d.1 d.2.1))/\(decide (vo (U.tk (Gm d.1 d.2.1)) (nth d.1.2.1 (x:Int).toNat)=0)=true->((bY d.1 d.2.1 x).length+[(x:Int)].length)*8<=140737488355328/\kK ((x:Int)+1)/\∃(a:Nat),(((x:Int)+1=(a:Int)/\True/\True)/\bY d.1 d.2.1 x++[(x:Int)]=bY d.1 d.2.1 a/\True)/\a<=(kE d.1).length/\(kE d.1).length-a<(kE d.1).length-x)/\(decide (vo (U.tk (Gm d.1 d.2.1)) (nth d.1.2.1 (x:Int).toNat)=0)=false->kK ((x:Int)+1)/\∃(a:Nat),((True/\(x:Int)+1=(a:Int)/\True)/\bY d.1 d.2.1 x=bY d.1 d.2.1 a/\True)/\a<=(kE d.1).length/\(kE d.1).length-a<(kE d.1).length-x))/\(decide ((x:Int)<d.1.2.1.length)=false->(bY d.1 d.2.1 x,(0:Int),())=(cI d.1 d.2.1,qB d.1 d.2.1,())))
theorem Ue (a b c:Bool):0<=Sa a b c/\Sa a b c<=7:=by
 unfold Sa jbg;cases a<;>cases b<;>cases c<;>simp
theorem CT (t:TkD) (p:PeD):0<=vo t p/\vo t p<=7:=Ue _ _ _
theorem JV {s:Int} (h:0<=s/\s<=1000):BT.q9 s:=by unfold BT.q9;omega
theorem Uf {a b:Int} (c:0<=a/\a<64) (d:0<=b/\b<64):0<=uor a b/\uor a b<64:=by
 obtain⟨n,rfl⟩:∃n:Nat,a=(n:Int):=⟨a.toNat,by omega⟩;obtain⟨m,rfl⟩:∃m:Nat,b=(m:Int):=⟨b.toNat,by omega⟩;rw[BT.uor_nat (by omega) (by omega)];have:n|||m<2^6:=Nat.or_lt_two_pow (by omega) (by omega);omega
theorem MU (t:TkD):∀(q:List (Int×PeD×Unit)) (o:Int),(0<=o/\o<64)->0<=ck t o q/\ck t o q<64
 |[],o,h=>h
 |x::q,o,h=>by
  have:=CT t x.2.1
  exact MU t q _ (Uf h ⟨by omega,by omega⟩)
theorem CU {b:Bool} {o k:Int} (h:0<=o/\o<64) (hk:0<=k/\k<64):0<=E3 b o k/\E3 b o k<64:=by
 unfold E3
 split
 exact Uf h hk;exact h
theorem QR (t:TkD) (s:Int):0<=qS t s/\qS t s<64:=by
 unfold qS;exact CU (CU (CU (MU t _ _ (by omega)) (by omega)) (by omega)) (by omega)
theorem Ug (t:TkD) (o:Int) (q:List (Int×PeD×Unit)) (x:Int×PeD×Unit):ck t o (q++[x])=uor (ck t o q) (vo t x.2.1):=by
 unfold ck;rw[jL];rfl
theorem Xb {t:TkD} {s:Int} (a:bX t):((ik t s).length:Int)=U.la (U.tc t):=by
 obtain⟨f,g,c,d⟩:=JT (s:=s) a;have b:(LC (U.tj t)).toNat<(U.la (U.tc t)).toNat:=(by omega);have:=(CI (J:=LD t s) b ((U.la (U.tc t)).toNat+1)).1.i.len;have e:(ik t s).length=(U.la (U.tc t)).toNat:=this;omega
theorem CV:iw:=by
 unfold iw jgm jgT jeT je1 jeg Prod.q4;rintro⟨(_|t),s,⟨⟩⟩ n a c;cases n;have a:bX t:=a;have c:BT.q9 s:=c;obtain⟨c1,c2,_⟩:=id a;obtain⟨_,_,p,_⟩:=wX c1;obtain⟨⟨m,r⟩,_⟩:=lQ c2;have o:=Xb (s:=s) a;have f:U.tk (some t)=t:=rfl;have b:0<=Sl (U.tj t)/\Sl (U.tj t)<(((ik t s).length:Nat):Int):=⟨m,by omega⟩;refine⟨⟨rfl,(by omega:(kE (U.tc t)).length<=60)⟩,⟨rfl,a,tZ⟩,rfl,fun q x rest u _=>⟨rfl,a,rfl,?_⟩,fun xs g _=>⟨c,rfl,rfl,?_⟩,fun q x rest _ _ h=>by cases h⟩;simp only[f,Ug];unfold eQ;simp only[List.any_append,List.any_cons,List.any_nil,Bool.or_false,Bool.false_or];rfl;simp only[f] at g⊢;subst g;have key:∀(j k l:Bool),decide (BT.size s≠max (jbf (U.tj t)) (jbe (U.tl t)))=j->(jdi (U.tl t)&& !eQ (xA t s))=k->decide (nth (ik t s) (Sl (U.tj t)).toNat<0)=l->
  E3 l (E3 k (E3 j (ck t 0 (xA t s)) 8) 16) 32=qS t s:=by
  intro j k l i e d;unfold qS;rw[i,e,d]
 refine⟨fun i=>⟨rfl,fun e=>⟨rfl,a,rfl,b.1,b.2,fun d=> ?_,fun d=> ?_⟩,fun e=>⟨rfl,a,rfl,b.1,b.2,fun d=> ?_,fun d=> ?_⟩⟩,fun i=>⟨rfl,fun e=>⟨rfl,a,rfl,b.1,b.2,fun d=> ?_,fun d=> ?_⟩,fun e=>⟨rfl,a,rfl,b.1,b.2,fun d=> ?_,fun d=> ?_⟩⟩⟩<;>
  (rw[Bool.false_or] at e;have:=key _ _ _ i e d;rw[<-this];rfl)
theorem Ht {c:CrD} (h:kV c=true):(0:Int)<2^(kE c).length/\(2:Int)^(kE c).length<=256:=by
 obtain⟨_,_,a,_⟩:=wX h;rw[BT.two_nat];have b:2^(kE c).length<=2^8:=Nat.pow_le_pow_right (by decide) a;have d:0<2^(kE c).length:=Nat.pow_pos (by decide);omega
theorem Xc:Ud:=by
 unfold Ud jht jfq;rintro⟨c,j,n,⟨⟩⟩ _;have e:∀l:Nat,(1:Int)*2^((l:Int)).toNat=2^l:=fun l=>by rw[Int.one_mul,ju]
 simp only[e];refine⟨fun _=>by omega,fun h=> ?_,fun h=> ?_,fun h=> ?_,fun h=> ?_,fun h=> ?_⟩;have:=(wX (pj (ja h)).1).2.2.1;have this:c.2.1.length<=8:=this;omega;have:=Ht (pj (ja h)).1;have this:(0:Int)<2^c.2.1.length/\(2:Int)^c.2.1.length<=256:=this;exact iZ6;have:=Ht (pj (ja h)).1;have this:(0:Int)<2^c.2.1.length/\(2:Int)^c.2.1.length<=256:=this;exact iZ6;rw[ji] at h;have a:=ja h.1;have b:Ir c n=false:=by
  have d:kl n 0 (2^c.2.1.length-1)=false:=(by simpa using h.2);exact d
 unfold aK;rw[jc (by omega),jc (by rw[b];simp)];unfold aK;by_cases a:qB c j=0;rw[jK a,Bool.true_and] at h;have b:Ir c n=true:=by
  have d:kl n 0 (2^c.2.1.length-1)=true:=(by simpa using h);exact d
 rw[jc (by omega),jd b,a];rw[jd a]
theorem Uh:wq PR 112 Uc:=wb Xc Tryz.func112 (kcC JO (kcC yS kcN)) koN
theorem QS {c:CrD} {j:JbD} {n:Int} (h:aK c j n=0):qB c j=0/\0<=n/\n<2^(kE c).length:=by
 unfold aK at h
 split at h
 rename_i b;omega;rename_i b
 split at h
 rename_i a;unfold Ir kl at a;simp only[ji,jr] at a;exact⟨by omega,a.1,by omega⟩;omega
theorem QT:MT:=by
 rintro⟨c,j,n,⟨⟩⟩;refine⟨fun h=> ?_,fun h=> ?_⟩;have h:aK c j n≠0:=ja h;simp only;unfold jbi;rw[jc h];have h:aK c j n=0:=(by simpa using h);obtain⟨d,e,f⟩:=QS h;obtain⟨b,e2⟩:=T8 d;have i:=Ht (pj d).1;have a:U.tk (Gm c j)=(c,j,eN c j,()):=(by rw[b];rfl);have g:=QR (c,j,eN c j,()) n;simp only[a];refine⟨e,by omega,by rw[b];rfl,e2,JV ⟨e,by omega⟩,iZ6,?_⟩;unfold jbi;rw[jd h,h]
theorem F0 (c:CrD) (j:JbD) (n:Nat):bY c j (n+1)=bY c j n++(if vo (c,j,eN c j,()) (nth (kE c) n)=0 then[(n:Int)] else[]):=by
 unfold bY;rw[L.cL,zi];by_cases h:vo (c,j,eN c j,()) (nth (kE c) n)=0;rw[jd (jK h),jd h];rfl;rw[jc (by simpa using h),jc h];rfl
theorem Ui (c:CrD) (j:JbD) (n:Nat):(bY c j n).length<=n:=by
 unfold bY;rw[zf];exact jD (kc _ _) (by simp)
theorem Z8:Xa:=by
 rintro⟨c,j,⟨⟩⟩;refine⟨fun h=> ?_,fun h _=>⟨⟨0,⟨⟨rfl,tZ,tZ⟩,rfl,tZ⟩,jv _⟩,fun x f=>⟨fun a=> ?_,fun a=> ?_⟩⟩⟩;have h:qB c j≠0:=ja h;simp only;unfold cI;rw[jc h];have h:qB c j=0:=(by simpa using h);obtain⟨e,e2⟩:=T8 h;have d:U.tk (Gm c j)=(c,j,eN c j,()):=(by rw[e];rfl);have a:x<(kE c).length:=by
  have a:=ja a;have a:(x:Int)<(kE c).length:=a;omega
 have g:(x:Int)<(kE c).length:=(by omega);have i:=(wX (pj h).1).2.2.1;have k:=Ui c j x;simp only[d,ju];refine⟨by omega,g,by rw[e];rfl,e2,fun b=>⟨by simp only[jY,zv];omega,iZ6,x+1,⟨⟨by simp,tZ,tZ⟩,?_,tZ⟩,a,by omega⟩,fun b=>⟨iZ6,x+1,⟨⟨tZ,by simp,tZ⟩,?_,tZ⟩,a,by omega⟩⟩;have b:vo (c,j,eN c j,()) (nth (kE c) x)=0:=ja b;rw[F0,jd b];have b:¬vo (c,j,eN c j,()) (nth (kE c) x)=0:=je b;rw[F0,jc b,j9];have h:qB c j=0:=(by simpa using h);have a:(kE c).length<=x:=by
  have a:=je a;have a:¬(x:Int)<(kE c).length:=a;omega
 have f:x<=(kE c).length:=f;simp only;unfold cI;rw[jd h,h,show x=(kE c).length by omega]
def CW:Ann:=fun r=>match r with
 |2=>some fun σ=>{X:=List (Int×Int)×Int,sl:=fun x=>[(4,.dat (.uint .u64) x.2)],ob:=fun x=>[(37,some (.iter .int .int x.1 none))],inv:=fun x=>aJ (tn (U.tk (gd (.ptr tTk) σ 0)) (gd tPe σ 1)) x.1 x.2,mu:=fun x=>x.1.length}
 |_=>none
abbrev jff (d:Option (CrD×JbD×LwD×Unit)×PeD×Unit):=(kU (((0:Int),[],[],()),((0:Int),(0:Int),(0:Int),(0:Int),(0:Int),(0:Int),()),((0:Int),(0:Int),false,()),()) d.1)
def CX:Prop:=∀(d:Option (CrD×JbD×LwD×Unit)×PeD×Unit),d.1.isSome=true->bX (U.tk d.1)->d.1.isSome=true/\d.1.isSome=true/\(0:Int)<=(jff d).2.1.2.2.2.1/\(jff d).2.1.2.2.2.1<=64/\d.1.isSome=true/\(0:Int)<=(jff d).2.1.q4.1/\(jff d).2.1.q4.1<=64/\[(0:Int),(1:Int),(2:Int)].Nodup/\∀(l:List (Int×Int)),l.Perm [((0:Int),jbg !d.2.1.2.2.2.1.any fun(e:Int)=>decide (e=(jff d).2.1.2.2.1)),((1:Int),nQ (d.2.1.2.1/(2:Int)^(jff d).2.1.2.2.2.1.toNat) (1:Int)),((2:Int),nQ (d.2.1.2.2.1/(2:Int)^(jff d).2.1.q4.1.toNat) (1:Int))]->(((∃(x:List (Int×Int)×Int),((0=x.2/\True)/\l=x.1/\True)/\aJ (tn (U.tk d.1) d.2.1) x.1 x.2)/\∀(x:List (Int×Int)×Int),aJ (tn (U.tk d.1) d.2.1) x.1 x.2->(x.1=[]->(false=true->False)/\(qF->(x.2,())=(vo (U.tk d.1) d.2.1,())))/\∀(pre:List (Int×Int)) (a:Int×Int) (b:List (Int×Int)),x.1=pre++a::b->(true=true->(decide (a.2=0)=true->0<=a.1/\a.1<=64/\(0:Int)<=1*2^a.1.toNat/\(1:Int)*2^a.1.toNat<=18446744073709551615/\∃(c:List (Int×Int)×Int),((uor x.2 ((1:Int)*2^a.1.toNat)=c.2/\True)/\pre++b=c.1/\True)/\aJ (tn (U.tk d.1) d.2.1) c.1 c.2/\c.1.length<x.1.length)/\(decide (a.2=0)=false->∃(c:List (Int×Int)×Int),((x.2=c.2/\True)/\pre++b=c.1/\True)/\aJ (tn (U.tk d.1) d.2.1) c.1 c.2/\c.1.length<x.1.length))/\(true=false->(x.2,())=(vo (U.tk d.1) d.2.1,())))/\True)/\True
theorem Xd (z:Int):nQ z 1=0\/nQ z 1=1:=by
 unfold nQ;rw[BitVec.toNat_and];have a:(BitVec.ofInt 64 1).toNat=1:=rfl;rw[a,Nat.and_one_is_mod];rcases Nat.mod_two_eq_zero_or_one (BitVec.ofInt 64 z).toNat with h|h;rw[h];exact .inl rfl;rw[h];exact .inr rfl
theorem Pt (s n:Int):(nQ (s/2^n.toNat) 1=0)↔(!qb s n)=true:=by
 unfold qb;rcases Xd (s/2^n.toNat) with h|h<;>rw[h]<;>simp
theorem Xe (a b c:Bool) (p:Nat):BT.has (Sa a b c) p=true↔(a=true/\p=0)\/(b=true/\p=1)\/(c=true/\p=2):=by
 match p with
 |0=>cases a<;>cases b<;>cases c<;>decide
 |1=>cases a<;>cases b<;>cases c<;>decide
 |2=>cases a<;>cases b<;>cases c<;>decide
 |p+3=>
  have h:=Ue a b c;have:BT.has (Sa a b c) (p+3)=false:=by
   cases d:BT.has (Sa a b c) (p+3) with
   |false=>rfl
   |true=>have:=BT.has_lt (k:=3) h.1 (by omega) d;omega
  rw[this];simp
theorem Xf (t:TkD) (p:PeD) (k:Nat):(∃e∈tn t p,e.2=0/\e.1.toNat=k)↔BT.has (vo t p) k=true:=by
 unfold vo;rw[Xe];have c:jbg (!Lh p (Yg (U.tj t)))=0↔Lh p (Yg (U.tj t))=true:=by
  unfold jbg;cases Lh p (Yg (U.tj t))<;>simp
 have e2:=Pt (U.fd p) (Yh (U.tj t));have d:=Pt (U.cl p) (i9 (U.tj t));unfold tn;simp only[jk,List.not_mem_nil,or_false];rw[<-c,<-e2,<-d];constructor;rintro⟨e,(rfl|rfl|rfl),a,b⟩;exact .inl ⟨a,b.symm⟩;exact .inr (.inl ⟨a,b.symm⟩);exact .inr (.inr ⟨a,b.symm⟩);rintro(⟨a,b⟩|⟨a,b⟩|⟨a,b⟩);exact⟨_,.inl rfl,a,b.symm⟩;exact⟨_,.inr (.inl rfl),a,b.symm⟩;exact⟨_,.inr (.inr rfl),a,b.symm⟩
theorem Xg {t:TkD} {p:PeD} {e:Int×Int} (h:e∈tn t p):0<=e.1/\e.1<=2:=by
 unfold tn at h;simp only[jk,List.not_mem_nil,or_false] at h;rcases h with rfl|rfl|rfl<;>simp
theorem QU (t:TkD) (p:PeD):(tn t p).Nodup:=by
 unfold tn;simp
theorem MV {t:TkD} {p:PeD} {l:List (Int×Int)} (h:l.Perm (tn t p)):aJ (tn t p) l 0:=by
 refine⟨BT.D0,h.symm.nodup (QU t p),fun e c=>h.mem_iff.1 c,fun k=> ?_⟩;rw[BT.tA];constructor;intro h;cases h;rintro⟨e,a,b,_⟩;exact absurd (h.mem_iff.2 a) b
theorem QV {t:TkD} {p:PeD} {s:Int} (h:aJ (tn t p) [] s):s=vo t p:=by
 obtain⟨a,_,_,c⟩:=h;refine BT.ext a (JV (by have:=CT t p;omega)) (fun k=> ?_);rw[j7,c,<-Xf];constructor;rintro⟨e,a,_,b⟩;exact⟨e,a,b⟩;rintro⟨e,a,b⟩;exact⟨e,a,by simp,b⟩
theorem F3 {all pre a:List (Int×Int)} {e:Int×Int} {s j:Int} (h:aJ all (pre++e::a) s) (p:BT.q9 j) (hk:∀k,BT.has j k=true↔BT.has s k=true\/(e.2=0/\e.1.toNat=k)):aJ all (pre++a) j:=by
 obtain⟨q,m,l,n⟩:=h;have i:(e::(pre++a)).Nodup:=List.perm_middle.nodup m;have b:∀x,x∈pre++e::a↔x=e\/x∈pre++a:=fun x=>by rw[List.perm_middle.mem_iff,jk]
 rw[zw] at i;refine⟨p,i.2,fun x c=>l x ((b x).2 (.inr c)),fun k=> ?_⟩;rw[hk,n];constructor;rintro(⟨x,d,f,g⟩|⟨d,f⟩);exact⟨x,d,fun c=>f ((b x).2 (.inr c)),g⟩;exact⟨e,l e ((b e).2 (.inl rfl)),i.1,d,f⟩;rintro⟨x,d,f,g⟩;by_cases c:x=e;subst c;exact .inr g;exact .inl ⟨x,d,fun o=>by rcases(b x).1 o with h|h;exact c h;exact f h,g⟩
theorem Eo:CX:=by
 unfold CX jff Prod.q4;rintro⟨(_|t),p,⟨⟩⟩ s d;cases s;have d:bX t:=d;have r:U.tk (some t)=t:=rfl;obtain⟨c1,c2,_⟩:=id d;obtain⟨_,_,_,⟨m,o⟩,⟨n,q⟩,_⟩:=lQ c2;have m:0<=t.2.1.2.2.2.1:=m;have o:t.2.1.2.2.2.1<=7:=o;have n:0<=t.2.1.2.2.2.2.1:=n;have q:t.2.1.2.2.2.2.1<=3:=q;refine⟨rfl,rfl,m,by simp only[kU];omega,rfl,n,by simp only[kU];omega,by decide,fun l w=>⟨⟨⟨⟨(l,0),⟨⟨rfl,tZ⟩,rfl,tZ⟩,MV w⟩,fun x b=>⟨fun h=>⟨fun h=>(by cases h),fun _=> ?_⟩,fun pre e a h=>⟨fun _=> ?_,fun h=>(by cases h)⟩⟩⟩,tZ⟩,tZ⟩⟩;rw[h] at b;rw[QV b];rw[h] at b;have u:e∈tn t p:=b.2.2.1 e (by simp);have hk:=Xg u;obtain⟨k,g,v⟩:∃k:Nat,e.1=(k:Int)/\k<=2:=⟨e.1.toNat,by omega,by omega⟩;have y:(1:Int)*2^k=2^k:=Int.one_mul _;have c:(pre++a).length<x.1.length:=(by rw[h];simp);have i:BT.q9 ((2:Int)^k):=BT.na (by omega);refine⟨fun f=> ?_,fun f=> ?_⟩;have f:e.2=0:=ja f;rw[g,ju,y];refine⟨by omega,by omega,by unfold BT.q9 at i;omega,by unfold BT.q9 at i;omega,(pre++a,uor x.2 (2^k)),⟨⟨rfl,tZ⟩,rfl,tZ⟩,F3 b (BT.uor_set b.1 i) (fun j=> ?_),c⟩;rw[BT.has_uor b.1 i,BT.Bf,zy,jr,g,ju];simp[f];have f:¬e.2=0:=je f;exact⟨(pre++a,x.2),⟨⟨rfl,tZ⟩,rfl,tZ⟩,F3 b b.1 (fun j=>by simp[f]),c⟩
theorem lR:wq PR 106 vl:=vN CW Eo Tryz.func106 (kcC cA (kcC QN kcN)) koN
theorem JW:(LB 64 [(106,vl),(160,yA),(161,yB)] [] [(159,we)] []).ok PR:=MD ⟨fun _=>lR,fun _=>Hi,fun _=>Hs,tZ⟩ trivial ⟨dP,tZ⟩ trivial
theorem xV:wq PR 113 iv:=
 TQ (body:=wt Tryz.f113) (C:=LB 64 [(106,vl),(160,yA),(161,yB)] [] [(159,we)] []) (hk:=hkC (LB 64 [(106,vl),(160,yA),(161,yB)] [] [(159,we)] []) (fun _=>none) CS [] []) JW mixed Tryz.func113 (by kernel_rfl) (by kernel_rfl) (by kernel_rfl) (by decide)
  (fun B=>FW JW mixed (fun k ts rs sv pr L v ρ hk c a b=>by
   unfold CS at hk
   split at hk
   case h_2=>cases hk
   simp only[jw] at hk
   cases hk
   exact JP c a b) Z5 B) (pk.mpr CV)
theorem MW:wq PR 77 MS:=wb QT Tryz.func77 (kcC Uh (kcC xV kcN)) koN
theorem Xh:wq PR 74 W8:=vN W9 Z8 Tryz.func74 (kcC JO (kcC lR kcN)) koN
namespace U
def ca (a b:Int):Int:=if a<b then-1 else if b<a then 1 else 0
def yd (l:List Int):Int:=match l.find? (fun n=>decide (n≠0)) with|some n=>n|none=>0
end U
structure fL {α:Type} (c:α->α->Int):Prop where
 anti:∀a b,c b a= -(c a b)
 trans:∀a b d,c a b<=0->c b d<=0->c a d<=0
section
variable {α:Type} {c c1 c2:α->α->Int}
theorem fL.refl (h:fL c) (a:α):c a a=0:=by have:=h.anti a a;omega
theorem fL.lt_le (h:fL c) {a b d:α} (g:c a b<0) (f:c b d<=0):c a d<0:=by
 have i:=h.trans a b d (by omega) f;have j:=h.anti a d;have k:=h.anti a b;by_cases e:c a d=0;have:=h.trans b d a f (by omega);omega;omega
theorem fL.le_lt (h:fL c) {a b d:α} (f:c a b<=0) (g:c b d<0):c a d<0:=by
 have i:=h.trans a b d f (by omega);have j:=h.anti a d;have k:=h.anti b d;by_cases e:c a d=0;have:=h.trans d a b (by omega) f;omega;omega
theorem fL.eq_eq (h:fL c) {a b d:α} (e:c a b=0) (f:c b d=0):c a d=0:=by
 have g:=h.trans a b d (by omega) (by omega);have i:=h.anti a d;have j:=h.anti a b;have k:=h.anti b d;have:=h.trans d b a (by omega) (by omega);omega
def Sk (c1 c2:α->α->Int) (a b:α):Int:=if c1 a b≠0 then c1 a b else c2 a b
theorem pm (c:fL c1) (g:fL c2):fL (Sk c1 c2) where
 anti a b:=by
  have i:=c.anti a b;have h:=g.anti a b;unfold Sk;by_cases e:c1 a b=0;rw[jc (by omega),jc (by omega)];exact h;rw[jd (by omega),jd e];exact i
 trans a b d:=by
  unfold Sk;by_cases e:c1 a b=0;rw[jc (by omega)];by_cases f:c1 b d=0;rw[jc (by omega),jc (by have:=c.eq_eq e f;omega)];exact g.trans a b d;rw[jd f];intro _ k;have:=c.le_lt (a:=a) (b:=b) (d:=d) (by omega) (by omega);rw[jd (by omega)];omega;rw[jd e];intro k;by_cases f:c1 b d=0;rw[jc (by omega)];intro _;have:=c.lt_le (a:=a) (b:=b) (d:=d) (by omega) (by omega);rw[jd (by omega)];omega;rw[jd f];intro h;have:=c.lt_le (a:=a) (b:=b) (d:=d) (by omega) (by omega);rw[jd (by omega)];omega
theorem od {β:Type} (h:fL c) (f:β->α):fL (fun a b=>c (f a) (f b)):=⟨fun a b=>h.anti (f a) (f b),fun a b d=>h.trans (f a) (f b) (f d)⟩
end
theorem lS:fL ca:=by
 constructor;intro a b;unfold ca;split<;>split<;>(try split)<;>(try split)<;>omega
 intro a b d;unfold ca;split<;>split<;>(try split)<;>(try split)<;>(try split)<;>(try split)<;>omega
theorem Uj {a b:Int}:ca a b<0↔a<b:=by
 unfold ca
 split
 simp;omega
 split<;>simp<;>omega
theorem ab {a b:Int}:ca a b=0↔a=b:=by
 unfold ca
 split
 simp;omega
 split
 simp;omega;simp;omega
theorem ww (x:Int) (l:List Int):yd (x::l)=if x≠0 then x else yd l:=by
 unfold yd;by_cases e:x=0;simp[List.find?,e];simp[List.find?,e]
theorem qM (x:Int):yd [x]=x:=by
 rw[ww]
 split
 rfl;rename_i h;have:x=0:=(by omega);rw[this];rfl
theorem A4 {t:Ty} {c:t.Data->t.Data->Int} (d:fL c) {l:List t.Data} (h:∀x y,x∈l->y∈l->c x y=0->x=y):qZ (ku t fun x=>(c x.1 x.2.1,())) l where
 irrefl x _:=by
  unfold ku;have:=d.refl x;simp only[this];rfl
 trans x y z _ _ _ b a:=by
  unfold ku at*;have b:=ja b;have a:=ja a;exact jK (d.lt_le b (by have a:c y z<0:=a;show c y z<=0;omega))
 total x y hx hy b a:=by
  unfold ku at*;have b:¬c x y<0:=je b;have a:¬c y x<0:=je a;have:=d.anti x y;exact h x y hx hy (by omega)
end Go.X
namespace Go.X
open U
namespace M
theorem mput_cons {kt:Ty} {β:Type} (k:kt.Data) (v:β) (e:kt.Data×β) (r:List (kt.Data×β)):fa kt k v (e::r)=if @decide (k=e.1) (kt.decEq k e.1)=true then(k,v)::r else e::fa kt k v r:=rfl
theorem mfind_cons {kt:Ty} {β:Type} (k:kt.Data) (e:kt.Data×β) (r:List (kt.Data×β)):kN kt k (e::r)=if @decide (k=e.1) (kt.decEq k e.1)=true then some e.2 else kN kt k r:=rfl
theorem mfind_none {kt:Ty} {β:Type} {k:kt.Data}:∀{l:List (kt.Data×β)},k∉l.map (·.1)->kN kt k l=none
 |[],_=>rfl
 |e::r,h=>by
  simp only[zg,jk,not_or] at h
  rw[mfind_cons,jc (fun a=>h.1 (@ja _ (kt.decEq k e.1) a))]
  exact mfind_none h.2
theorem dec_self {kt:Ty} (k:kt.Data): @decide (k=k) (kt.decEq k k)=true:= @jK _ (kt.decEq k k) rfl
theorem mput_fst {kt:Ty} {β:Type} (k:kt.Data) (v:β):∀m:List (kt.Data×β),(fa kt k v m).map (·.1)=m.map (·.1)\/(k∉m.map (·.1)/\(fa kt k v m).map (·.1)=m.map (·.1)++[k])
 |[]=> .inr ⟨by simp,rfl⟩
 |e::r=>by
  rw[mput_cons]
  by_cases h: @decide (k=e.1) (kt.decEq k e.1)=true
  rw[jd h]
  have h:k=e.1:= @ja _ (kt.decEq k e.1) h
  left
  simp[h]
  rw[jc h]
  have h:¬k=e.1:=fun a=>h (@jK _ (kt.decEq k e.1) a)
  rcases mput_fst k v r with d|⟨b,c⟩
  left;simp only[zg,d]
  right
  refine⟨?_,by simp only[zg,c,jW]⟩
  rw[zg,jk]
  rintro(a|a)
  exact h a
  exact b a
theorem pS {kt:Ty} {β:Type} (k:kt.Data) (v:β):∀l:List (kt.Data×β),kN kt k (fa kt k v l)=some v
 |[]=>by
  rw[show fa kt k v []=[(k,v)] from rfl,mfind_cons,jd (dec_self k)]
 |e::r=>by
  rw[mput_cons]
  by_cases h: @decide (k=e.1) (kt.decEq k e.1)=true
  rw[jd h,mfind_cons,jd (dec_self k)]
  rw[jc h,mfind_cons,jc h]
  exact pS k v r
theorem dl {kt:Ty} {β:Type} {k k':kt.Data} (a:k'≠k) (v:β):∀l:List (kt.Data×β),kN kt k' (fa kt k v l)=kN kt k' l
 |[]=>by
  rw[show fa kt k v []=[(k,v)] from rfl,mfind_cons,jc (fun e=>a (@ja _ (kt.decEq k' k) e))]
 |e::r=>by
  rw[mput_cons]
  by_cases h: @decide (k=e.1) (kt.decEq k e.1)=true
  rw[jd h]
  have h:k=e.1:= @ja _ (kt.decEq k e.1) h
  have c:¬@decide (k'=e.1) (kt.decEq k' e.1)=true:=fun b=>a ((@ja _ (kt.decEq k' e.1) b).trans h.symm)
  rw[mfind_cons,mfind_cons,jc c,jc (fun e=>a (@ja _ (kt.decEq k' k) e))]
  rw[jc h,mfind_cons,mfind_cons,dl a v r]
theorem eX {kt:Ty} {β:Type} {k:kt.Data} {v:β}:∀{l:List (kt.Data×β)},(l.map (·.1)).Nodup->(kN kt k l=some v↔(k,v)∈l)
 |[],_=>by simp[kN]
 |e::r,h=>by
  simp only[zg,zw] at h
  rw[mfind_cons]
  by_cases hk: @decide (k=e.1) (kt.decEq k e.1)=true
  rw[jd hk]
  have hk:k=e.1:= @ja _ (kt.decEq k e.1) hk
  subst hk
  rw[jk]
  constructor
  intro a;simp at a;exact .inl (by rw[<-a])
  rintro(a|a)
  rw[<-a]
  exact absurd (jT.2 ⟨_,a,rfl⟩) h.1
  rw[jc hk]
  have hk:¬k=e.1:=fun b=>hk (@jK _ (kt.decEq k e.1) b)
  rw[eX h.2,jk]
  constructor
  exact .inr
  rintro(a|a)
  exact absurd (by rw[<-a]) hk
  exact a
end M
end Go.X
namespace Go.Proofs
open Go.Shelf
theorem xlay {t:Type} {a:Option t} {b c:t} (h:a=some b) (e:b=c:=by kernel_rfl):a=some c:=h.trans (congrArg some e)
def Tryz.sortSh_ren:Go.Shelf.Ren:=⟨fun|6=>107|15=>93|14=>153|28=>130|29=>131|20=>187|21=>188|22=>189|23=>190|24=>191|25=>192|26=>193|27=>194|46=>220|47=>167|48=>168|49=>221|50=>222|57=>232|n=>n,fun|22=>28|24=>75|25=>163|3=>3|39=>105|0=>0|53=>180|55=>182|4=>4|46=>174|45=>173|50=>63|5=>5|9=>9|66=>207|70=>211|76=>234|77=>235|n=>n,fun|n=>n⟩
theorem Tryz.sortSh:Go.Proofs.SlLaysF0.n6 Tryz.prog Tryz.sortSh_ren:={
 mixed:=by kernel_rfl
 f6:=⟨Tryz.f107.name,by decide,xlay Tryz.func107⟩
 f14:=⟨Tryz.f153.name,by decide,xlay Tryz.func153⟩
 f15:=xlay Tryz.func93
 f20:=⟨Tryz.f187.name,by decide,xlay Tryz.func187⟩
 f21:=⟨Tryz.f188.name,by decide,xlay Tryz.func188⟩
 f22:=⟨Tryz.f189.name,by decide,xlay Tryz.func189⟩
 f23:=⟨Tryz.f190.name,by decide,xlay Tryz.func190⟩
 f24:=⟨Tryz.f191.name,by decide,xlay Tryz.func191⟩
 f25:=⟨Tryz.f192.name,by decide,xlay Tryz.func192⟩
 f26:=⟨Tryz.f193.name,by decide,xlay Tryz.func193⟩
 f27:=⟨Tryz.f194.name,by decide,xlay Tryz.func194⟩
 f28:=xlay Tryz.func130
 f29:=xlay Tryz.func131
 f46:=⟨Tryz.f220.name,by decide,xlay Tryz.func220⟩
 f47:=xlay Tryz.func167
 f48:=xlay Tryz.func168
 f49:=⟨Tryz.f221.name,by decide,xlay Tryz.func221⟩
 f50:=⟨Tryz.f222.name,by decide,xlay Tryz.func222⟩
 f57:=⟨Tryz.f232.name,by decide,xlay Tryz.func232⟩
 t0:=Tryz.underlying0
 a0:=Tryz.isAgg0
 z0:=Tryz.sizeOf0
 v0:=Tryz.zeroValue0
 t3:=Tryz.underlying3
 a3:=Tryz.isAgg3
 z3:=Tryz.sizeOf3
 v3:=Tryz.zeroValue3
 t4:=Tryz.underlying4
 a4:=Tryz.isAgg4
 z4:=Tryz.sizeOf4
 v4:=Tryz.zeroValue4
 t5:=Tryz.underlying5
 a5:=Tryz.isAgg5
 z5:=Tryz.sizeOf5
 v5:=Tryz.zeroValue5
 t9:=Tryz.underlying9
 a9:=Tryz.isAgg9
 z9:=Tryz.sizeOf9
 v9:=Tryz.zeroValue9
 t22:=Tryz.underlying28
 a22:=Tryz.isAgg28
 z22:=Tryz.sizeOf28
 v22:=Tryz.zeroValue28
 t25:=Tryz.underlying163
 a25:=Tryz.isAgg163
 z25:=Tryz.sizeOf163
 v25:=Tryz.zeroValue163
 t39:=Tryz.underlying105
 a39:=Tryz.isAgg105
 z39:=Tryz.sizeOf105
 v39:=Tryz.zeroValue105
 t45:=Tryz.underlying173
 a45:=Tryz.isAgg173
 z45:=Tryz.sizeOf173
 v45:=Tryz.zeroValue173
 t46:=Tryz.underlying174
 a46:=Tryz.isAgg174
 z46:=Tryz.sizeOf174
 v46:=Tryz.zeroValue174
 t50:=Tryz.underlying63
 a50:=Tryz.isAgg63
 z50:=Tryz.sizeOf63
 v50:=Tryz.zeroValue63
 t53:=Tryz.underlying180
 a53:=Tryz.isAgg180
 z53:=Tryz.sizeOf180
 v53:=Tryz.zeroValue180
 t55:=Tryz.underlying182
 a55:=Tryz.isAgg182
 z55:=Tryz.sizeOf182
 v55:=Tryz.zeroValue182
 t66:=Tryz.underlying207
 a66:=Tryz.isAgg207
 z66:=Tryz.sizeOf207
 v66:=Tryz.zeroValue207
 t70:=Tryz.underlying211
 a70:=Tryz.isAgg211
 z70:=Tryz.sizeOf211
 v70:=Tryz.zeroValue211
 t76:=Tryz.underlying234
 a76:=Tryz.isAgg234
 z76:=Tryz.sizeOf234
 v76:=Tryz.zeroValue234
 t77:=Tryz.underlying235
 a77:=Tryz.isAgg235
 z77:=Tryz.sizeOf235
 v77:=Tryz.zeroValue235}
def Tryz.sortI_ren:Go.Shelf.Ren:=⟨fun|189=>110|125=>93|257=>157|128=>130|129=>131|294=>198|295=>199|296=>200|297=>201|298=>202|299=>203|216=>204|300=>205|301=>206|328=>226|329=>167|330=>168|331=>227|332=>228|215=>94|343=>235|n=>n,fun|28=>31|3=>3|46=>105|0=>0|51=>180|53=>182|4=>4|183=>174|182=>173|131=>63|5=>5|9=>9|218=>207|222=>211|228=>234|229=>235|n=>n,fun|n=>n⟩
theorem Tryz.sortI:Go.Proofs.Lays.n189 Tryz.prog Tryz.sortI_ren:={
 mixed:=by kernel_rfl
 f125:=xlay Tryz.func93
 f128:=xlay Tryz.func130
 f129:=xlay Tryz.func131
 f189:=xlay Tryz.func110
 f215:=xlay Tryz.func94
 f216:=xlay Tryz.func204
 f257:=xlay Tryz.func157
 f294:=xlay Tryz.func198
 f295:=xlay Tryz.func199
 f296:=xlay Tryz.func200
 f297:=xlay Tryz.func201
 f298:=xlay Tryz.func202
 f299:=xlay Tryz.func203
 f300:=xlay Tryz.func205
 f301:=xlay Tryz.func206
 f328:=xlay Tryz.func226
 f329:=xlay Tryz.func167
 f330:=xlay Tryz.func168
 f331:=xlay Tryz.func227
 f332:=xlay Tryz.func228
 f343:=xlay Tryz.func235
 t0:=Tryz.underlying0
 a0:=Tryz.isAgg0
 z0:=Tryz.sizeOf0
 v0:=Tryz.zeroValue0
 t3:=Tryz.underlying3
 a3:=Tryz.isAgg3
 z3:=Tryz.sizeOf3
 v3:=Tryz.zeroValue3
 t4:=Tryz.underlying4
 a4:=Tryz.isAgg4
 z4:=Tryz.sizeOf4
 v4:=Tryz.zeroValue4
 t5:=Tryz.underlying5
 a5:=Tryz.isAgg5
 z5:=Tryz.sizeOf5
 v5:=Tryz.zeroValue5
 t9:=Tryz.underlying9
 a9:=Tryz.isAgg9
 z9:=Tryz.sizeOf9
 v9:=Tryz.zeroValue9
 t28:=Tryz.underlying31
 a28:=Tryz.isAgg31
 z28:=Tryz.sizeOf31
 v28:=Tryz.zeroValue31
 t46:=Tryz.underlying105
 a46:=Tryz.isAgg105
 z46:=Tryz.sizeOf105
 v46:=Tryz.zeroValue105
 t51:=Tryz.underlying180
 a51:=Tryz.isAgg180
 z51:=Tryz.sizeOf180
 v51:=Tryz.zeroValue180
 t53:=Tryz.underlying182
 a53:=Tryz.isAgg182
 z53:=Tryz.sizeOf182
 v53:=Tryz.zeroValue182
 t131:=Tryz.underlying63
 a131:=Tryz.isAgg63
 z131:=Tryz.sizeOf63
 v131:=Tryz.zeroValue63
 t182:=Tryz.underlying173
 a182:=Tryz.isAgg173
 z182:=Tryz.sizeOf173
 v182:=Tryz.zeroValue173
 t183:=Tryz.underlying174
 a183:=Tryz.isAgg174
 z183:=Tryz.sizeOf174
 v183:=Tryz.zeroValue174
 t218:=Tryz.underlying207
 a218:=Tryz.isAgg207
 z218:=Tryz.sizeOf207
 v218:=Tryz.zeroValue207
 t222:=Tryz.underlying211
 a222:=Tryz.isAgg211
 z222:=Tryz.sizeOf211
 v222:=Tryz.zeroValue211
 t228:=Tryz.underlying234
 a228:=Tryz.isAgg234
 z228:=Tryz.sizeOf234
 v228:=Tryz.zeroValue234
 t229:=Tryz.underlying235
 a229:=Tryz.isAgg235
 z229:=Tryz.sizeOf235
 v229:=Tryz.zeroValue235}
end Go.Proofs
namespace Go.X
open U
open Go.Proofs
abbrev rwS:Sh:= .cl (.row 75 tSh .unk)
namespace U
def xB (s:SpD):Bool:=(decide (0<=lo s)&&decide (lo s<=hi s))&&decide (hi s<=300)
def DV (n:Nat) (b:BkD):Bool:=((kl (jaY b) 0 ((n:Int)-1)&&decide (0<=qx b))&&decide (qx b<mY b))&&decide (mY b<=1440)
def Lj (nb a:Nat) (s:ShD):Bool:=(((kl (y9 s) 0 99&&kl (IA s) 0 9999)&&kl (Yi s) 1 2)&&kl (Lf s) 0 ((nb:Int)-1))&&kl (oj s) 0 ((a:Int)-1)
def cJ (a b:ShD):Int:=yd [ca (y9 a) (y9 b),ca (IA a) (IA b),ca (Yi a) (Yi b),ca (Lf a) (Lf b),ca (oj a) (oj b)]
def kM (a b:ShD):Int:=yd [ca (IA a) (IA b),ca (y9 a) (y9 b)]
def yo (a b:ShD):Bool:=decide (a=b)
def wy (l:List ShD):List ShD:=aQ yo (kr (ku tSh fun x=>(cJ x.1 x.2.1,())) l)
def mZ (m:List (Int×Int)) (s:ShD):List (Int×Int):=fa .int (y9 s) (kY 0 (kN .int (y9 s) m)+1) m
def vS (m:List (Int×Int)) (l:List ShD) (n:Nat):List (Int×Int):=(l.take n).foldl mZ m
def PX (m:List (Int×Int)) (s:ShD):Bool:=decide (1<kY 0 (kN .int (y9 s) (mZ m s)))
def tp (m:List (Int×Int)) (l:List ShD) (i:Nat):Bool:=PX (vS m l i) (nth l i)
def mo (m:List (Int×Int)) (l:List ShD):Int:=yq (tp m l) (List.range l.length)
def V4 (m:List (Int×Int)) (l:List ShD):Nat:=match(List.range l.length).findIdx? (tp m l) with|some i=>i+1|none=>l.length
def pM (m:List (Int×Int)) (l:List ShD):List (Int×Int):=vS m l (V4 m l)
def jcr (m:List (Int×Int)):Prop:=m=[]
def V5 (m:List (Int×Int)):Prop:=∀k,0<=kY 0 (kN .int k m)/\kY 0 (kN .int k m)<=200000
def Sm (l:List ShD):Bool:=decide (0<=mo [] l)
def uU (d:DyD):Int:=if kV (kG d)=false then 30 else if Lg d=false then 31 else 0
def k8 (d:DyD):Int:=if uU d≠0 then uU d else if wK d=false then 50 else if Sm (wy (qj d))=true then 51 else 0
end U
def MX:wi:=⟨[.val .int,.val .int,.val .int],[.bool],false,fun _=>[],fun d=>(kl d.1 d.2.1 d.2.2.1,())⟩
def MY:Prop:=∀(d:Int×Int×Int×Unit),(decide (d.2.1<=d.1)&&decide (d.1<=d.2.2.1),())=(kl d.1 d.2.1 d.2.2.1,())
def nj:wi:=⟨[.val (.slice tSp),.fn [tSp] [.bool]],[.int],false,fun d=>[∀g∈d.1,kI (d.2.1.pre (g,()))],fun d=>(yq (ko (α:=SpD) d.2.1.F) d.1,())⟩
def nq:Ann:=fun r=>match r with
 |2=>some fun σ=>{X:=Nat,sl:=fun i=>[(8,.dat .int (i:Int))],ob:=fun _=>[],inv:=fun i=>i<=(gd (.slice tSp) σ 0).length/\∀b:Nat,b<i->ko (gfb tSp σ 1) (nth (gd (.slice tSp) σ 0) b)=false,mu:=fun i=>(gd (.slice tSp) σ 0).length-i}
 |_=>none
def nr:Prop:=∀(d:List (Int×Int×Unit)×FnD [tSp] [Ty.bool]×Unit),(∀(g:Int×Int×Unit),g∈d.1->kI (d.2.1.1 (g,())))->d.1.length<4611686018427387904->(∃(x:Nat),((0=(x:Int)/\True)/\True)/\x<=d.1.length/\∀(b:Nat),b<x->ko d.2.1.2 (nth d.1 b)=false)/\∀(x:Nat),(x<=d.1.length/\∀(b:Nat),b<x->ko d.2.1.2 (nth d.1 b)=false)->(decide ((x:Int)<d.1.length)=true->0<=(x:Int)/\(x:Int)<d.1.length/\asks (d.2.1.1 (nth d.1 (x:Int).toNat,())) (((d.2.1.2 (nth d.1 (x:Int).toNat,())).1=true->((x:Int),())=(yq (ko d.2.1.2) d.1,()))/\((d.2.1.2 (nth d.1 (x:Int).toNat,())).1=false->kK ((x:Int)+1)/\∃(a:Nat),(((x:Int)+1=(a:Int)/\True)/\True)/\(a<=d.1.length/\∀(b:Nat),b<a->ko d.2.1.2 (nth d.1 b)=false)/\d.1.length-a<d.1.length-x)))/\(decide ((x:Int)<d.1.length)=false->((-1:Int),())=(yq (ko d.2.1.2) d.1,()))
def fM:wi:=⟨[.val (.slice tSp),.fn [tSp] [.bool]],[.bool],false,fun d=>[∀g∈d.1,kI (d.2.1.pre (g,()))],fun d=>(d.1.any (ko (α:=SpD) d.2.1.F),())⟩
def fN:Prop:=∀(d:List (Int×Int×Unit)×FnD [tSp] [Ty.bool]×Unit),(∀(g:Int×Int×Unit),g∈d.1->kI (d.2.1.1 (g,())))->(∀(g:Int×Int×Unit),g∈d.1->kI (d.2.1.1 (g,())))/\(decide (0<=yq (ko d.2.1.2) d.1),())=(d.1.any (ko d.2.1.2),())
def lT:wi:=⟨[.val (.slice (.slice tSp)),.fn [(.slice tSp)] [.bool]],[.int],false,fun d=>[∀g∈d.1,kI (d.2.1.pre (g,()))],fun d=>(yq (ko (α:=(List SpD)) d.2.1.F) d.1,())⟩
def lU:Ann:=fun r=>match r with
 |2=>some fun σ=>{X:=Nat,sl:=fun i=>[(8,.dat .int (i:Int))],ob:=fun _=>[],inv:=fun i=>i<=(gd (.slice (.slice tSp)) σ 0).length/\∀b:Nat,b<i->ko (gfb (.slice tSp) σ 1) (nth (gd (.slice (.slice tSp)) σ 0) b)=false,mu:=fun i=>(gd (.slice (.slice tSp)) σ 0).length-i}
 |_=>none
def lV:Prop:=∀(d:List (List (Int×Int×Unit))×FnD [tSp.slice] [Ty.bool]×Unit),(∀(g:List (Int×Int×Unit)),g∈d.1->kI (d.2.1.1 (g,())))->d.1.length<4611686018427387904->(∃(x:Nat),((0=(x:Int)/\True)/\True)/\x<=d.1.length/\∀(b:Nat),b<x->ko d.2.1.2 (nth d.1 b)=false)/\∀(x:Nat),(x<=d.1.length/\∀(b:Nat),b<x->ko d.2.1.2 (nth d.1 b)=false)->(decide ((x:Int)<d.1.length)=true->0<=(x:Int)/\(x:Int)<d.1.length/\asks (d.2.1.1 (nth d.1 (x:Int).toNat,())) (((d.2.1.2 (nth d.1 (x:Int).toNat,())).1=true->((x:Int),())=(yq (ko d.2.1.2) d.1,()))/\((d.2.1.2 (nth d.1 (x:Int).toNat,())).1=false->kK ((x:Int)+1)/\∃(a:Nat),(((x:Int)+1=(a:Int)/\True)/\True)/\(a<=d.1.length/\∀(b:Nat),b<a->ko d.2.1.2 (nth d.1 b)=false)/\d.1.length-a<d.1.length-x)))/\(decide ((x:Int)<d.1.length)=false->((-1:Int),())=(yq (ko d.2.1.2) d.1,()))
def dQ:wi:=⟨[.val (.slice (.slice tSp)),.fn [(.slice tSp)] [.bool]],[.bool],false,fun d=>[∀g∈d.1,kI (d.2.1.pre (g,()))],fun d=>(d.1.any (ko (α:=(List SpD)) d.2.1.F),())⟩
def dR:Prop:=∀(d:List (List (Int×Int×Unit))×FnD [tSp.slice] [Ty.bool]×Unit),(∀(g:List (Int×Int×Unit)),g∈d.1->kI (d.2.1.1 (g,())))->(∀(g:List (Int×Int×Unit)),g∈d.1->kI (d.2.1.1 (g,())))/\(decide (0<=yq (ko d.2.1.2) d.1),())=(d.1.any (ko d.2.1.2),())
def fO:wi:=⟨[.val (.slice tBk),.fn [tBk] [.bool]],[.int],false,fun d=>[∀g∈d.1,kI (d.2.1.pre (g,()))],fun d=>(yq (ko (α:=BkD) d.2.1.F) d.1,())⟩
def fP:Ann:=fun r=>match r with
 |2=>some fun σ=>{X:=Nat,sl:=fun i=>[(8,.dat .int (i:Int))],ob:=fun _=>[],inv:=fun i=>i<=(gd (.slice tBk) σ 0).length/\∀b:Nat,b<i->ko (gfb tBk σ 1) (nth (gd (.slice tBk) σ 0) b)=false,mu:=fun i=>(gd (.slice tBk) σ 0).length-i}
 |_=>none
def fQ:Prop:=∀(d:List BkD×FnD [tBk] [Ty.bool]×Unit),(∀(g:BkD),g∈d.1->kI (d.2.1.1 (g,())))->d.1.length<4611686018427387904->(∃(x:Nat),((0=(x:Int)/\True)/\True)/\x<=d.1.length/\∀(b:Nat),b<x->ko d.2.1.2 (nth d.1 b)=false)/\∀(x:Nat),(x<=d.1.length/\∀(b:Nat),b<x->ko d.2.1.2 (nth d.1 b)=false)->(decide ((x:Int)<d.1.length)=true->0<=(x:Int)/\(x:Int)<d.1.length/\asks (d.2.1.1 (nth d.1 (x:Int).toNat,())) (((d.2.1.2 (nth d.1 (x:Int).toNat,())).1=true->((x:Int),())=(yq (ko d.2.1.2) d.1,()))/\((d.2.1.2 (nth d.1 (x:Int).toNat,())).1=false->kK ((x:Int)+1)/\∃(a:Nat),(((x:Int)+1=(a:Int)/\True)/\True)/\(a<=d.1.length/\∀(b:Nat),b<a->ko d.2.1.2 (nth d.1 b)=false)/\d.1.length-a<d.1.length-x)))/\(decide ((x:Int)<d.1.length)=false->((-1:Int),())=(yq (ko d.2.1.2) d.1,()))
def cf:wi:=⟨[.val (.slice tBk),.fn [tBk] [.bool]],[.bool],false,fun d=>[∀g∈d.1,kI (d.2.1.pre (g,()))],fun d=>(d.1.any (ko (α:=BkD) d.2.1.F),())⟩
def cg:Prop:=∀(d:List BkD×FnD [tBk] [Ty.bool]×Unit),(∀(g:BkD),g∈d.1->kI (d.2.1.1 (g,())))->(∀(g:BkD),g∈d.1->kI (d.2.1.1 (g,())))/\(decide (0<=yq (ko d.2.1.2) d.1),())=(d.1.any (ko d.2.1.2),())
def lW:wi:=⟨[.val (.slice tSh),.fn [tSh] [.bool]],[.int],false,fun d=>[∀g∈d.1,kI (d.2.1.pre (g,()))],fun d=>(yq (ko (α:=ShD) d.2.1.F) d.1,())⟩
def lX:Ann:=fun r=>match r with
 |2=>some fun σ=>{X:=Nat,sl:=fun i=>[(8,.dat .int (i:Int))],ob:=fun _=>[],inv:=fun i=>i<=(gd (.slice tSh) σ 0).length/\∀b:Nat,b<i->ko (gfb tSh σ 1) (nth (gd (.slice tSh) σ 0) b)=false,mu:=fun i=>(gd (.slice tSh) σ 0).length-i}
 |_=>none
def lY:Prop:=∀(d:List ShD×FnD [tSh] [Ty.bool]×Unit),(∀(g:ShD),g∈d.1->kI (d.2.1.1 (g,())))->d.1.length<4611686018427387904->(∃(x:Nat),((0=(x:Int)/\True)/\True)/\x<=d.1.length/\∀(b:Nat),b<x->ko d.2.1.2 (nth d.1 b)=false)/\∀(x:Nat),(x<=d.1.length/\∀(b:Nat),b<x->ko d.2.1.2 (nth d.1 b)=false)->(decide ((x:Int)<d.1.length)=true->0<=(x:Int)/\(x:Int)<d.1.length/\asks (d.2.1.1 (nth d.1 (x:Int).toNat,())) (((d.2.1.2 (nth d.1 (x:Int).toNat,())).1=true->((x:Int),())=(yq (ko d.2.1.2) d.1,()))/\((d.2.1.2 (nth d.1 (x:Int).toNat,())).1=false->kK ((x:Int)+1)/\∃(a:Nat),(((x:Int)+1=(a:Int)/\True)/\True)/\(a<=d.1.length/\∀(b:Nat),b<a->ko d.2.1.2 (nth d.1 b)=false)/\d.1.length-a<d.1.length-x)))/\(decide ((x:Int)<d.1.length)=false->((-1:Int),())=(yq (ko d.2.1.2) d.1,()))
def dS:wi:=⟨[.val (.slice tSh),.fn [tSh] [.bool]],[.bool],false,fun d=>[∀g∈d.1,kI (d.2.1.pre (g,()))],fun d=>(d.1.any (ko (α:=ShD) d.2.1.F),())⟩
def dT:Prop:=∀(d:List ShD×FnD [tSh] [Ty.bool]×Unit),(∀(g:ShD),g∈d.1->kI (d.2.1.1 (g,())))->(∀(g:ShD),g∈d.1->kI (d.2.1.1 (g,())))/\(decide (0<=yq (ko d.2.1.2) d.1),())=(d.1.any (ko d.2.1.2),())
def t6:wi:=⟨[.val tSp,.rfn [tSp] [.bool]],[.bool],false,fun d=>[kI (d.2.1.pre (d.1,()))],fun d=>(!(ko (α:=SpD) d.2.1.F d.1),())⟩
def t7:Prop:=∀(d:(Int×Int×Unit)×FnD [tSp] [Ty.bool]×Unit),kI (d.2.1.1 (d.1,()))->asks (d.2.1.1 (d.1,())) ((!(d.2.1.2 (d.1,())).1,())=(!ko d.2.1.2 d.1,()))
def CY:wi:=⟨[.val (.slice tSp),.fn [tSp] [.bool]],[.bool],false,fun d=>[∀g∈d.1,kI (d.2.1.pre (g,()))],fun d=>(d.1.all (ko (α:=SpD) d.2.1.F),())⟩
def CZ:Prop:=∀(d:List (Int×Int×Unit)×FnD [tSp] [Ty.bool]×Unit),(∀(g:Int×Int×Unit),g∈d.1->kI (d.2.1.1 (g,())))->(∀(g:Int×Int×Unit),g∈d.1->kI [kI (d.2.1.1 (g,()))])/\(!d.1.any (ko fun(a:(Int×Int×Unit)×Unit)=>(!ko d.2.1.2 a.1,())),())=(d.1.all (ko d.2.1.2),())
def se:wi:=⟨[.val (.slice tSp),.rfn [(.slice tSp)] [.bool]],[.bool],false,fun d=>[kI (d.2.1.pre (d.1,()))],fun d=>(!(ko (α:=(List SpD)) d.2.1.F d.1),())⟩
def sf:Prop:=∀(d:List (Int×Int×Unit)×FnD [tSp.slice] [Ty.bool]×Unit),kI (d.2.1.1 (d.1,()))->asks (d.2.1.1 (d.1,())) ((!(d.2.1.2 (d.1,())).1,())=(!ko d.2.1.2 d.1,()))
def xW:wi:=⟨[.val (.slice (.slice tSp)),.fn [(.slice tSp)] [.bool]],[.bool],false,fun d=>[∀g∈d.1,kI (d.2.1.pre (g,()))],fun d=>(d.1.all (ko (α:=(List SpD)) d.2.1.F),())⟩
def xX:Prop:=∀(d:List (List (Int×Int×Unit))×FnD [tSp.slice] [Ty.bool]×Unit),(∀(g:List (Int×Int×Unit)),g∈d.1->kI (d.2.1.1 (g,())))->(∀(g:List (Int×Int×Unit)),g∈d.1->kI [kI (d.2.1.1 (g,()))])/\(!d.1.any (ko fun(a:List (Int×Int×Unit)×Unit)=>(!ko d.2.1.2 a.1,())),())=(d.1.all (ko d.2.1.2),())
def nu:wi:=⟨[.val tBk,.rfn [tBk] [.bool]],[.bool],false,fun d=>[kI (d.2.1.pre (d.1,()))],fun d=>(!(ko (α:=BkD) d.2.1.F d.1),())⟩
def nv:Prop:=∀(d:BkD×FnD [tBk] [Ty.bool]×Unit),kI (d.2.1.1 (d.1,()))->asks (d.2.1.1 (d.1,())) ((!(d.2.1.2 (d.1,())).1,())=(!ko d.2.1.2 d.1,()))
def sg:wi:=⟨[.val (.slice tBk),.fn [tBk] [.bool]],[.bool],false,fun d=>[∀g∈d.1,kI (d.2.1.pre (g,()))],fun d=>(d.1.all (ko (α:=BkD) d.2.1.F),())⟩
def si:Prop:=∀(d:List BkD×FnD [tBk] [Ty.bool]×Unit),(∀(g:BkD),g∈d.1->kI (d.2.1.1 (g,())))->(∀(g:BkD),g∈d.1->kI [kI (d.2.1.1 (g,()))])/\(!d.1.any (ko fun(a:BkD×Unit)=>(!ko d.2.1.2 a.1,())),())=(d.1.all (ko d.2.1.2),())
def sj:wi:=⟨[.val tSh,.rfn [tSh] [.bool]],[.bool],false,fun d=>[kI (d.2.1.pre (d.1,()))],fun d=>(!(ko (α:=ShD) d.2.1.F d.1),())⟩
def sk:Prop:=∀(d:ShD×FnD [tSh] [Ty.bool]×Unit),kI (d.2.1.1 (d.1,()))->asks (d.2.1.1 (d.1,())) ((!(d.2.1.2 (d.1,())).1,())=(!ko d.2.1.2 d.1,()))
def xY:wi:=⟨[.val (.slice tSh),.fn [tSh] [.bool]],[.bool],false,fun d=>[∀g∈d.1,kI (d.2.1.pre (g,()))],fun d=>(d.1.all (ko (α:=ShD) d.2.1.F),())⟩
def xZ:Prop:=∀(d:List ShD×FnD [tSh] [Ty.bool]×Unit),(∀(g:ShD),g∈d.1->kI (d.2.1.1 (g,())))->(∀(g:ShD),g∈d.1->kI [kI (d.2.1.1 (g,()))])/\(!d.1.any (ko fun(a:ShD×Unit)=>(!ko d.2.1.2 a.1,())),())=(d.1.all (ko d.2.1.2),())
def JX:wi:=⟨[.val tSp],[.bool],false,fun _=>[],fun d=>(xB d.1,())⟩
def JY:Prop:=∀(d:(Int×Int×Unit)×Unit),(decide (0<=d.1.1)&&decide (d.1.1<=d.1.2.1)&&decide (d.1.2.1<=300),())=(xB d.1,())
def JZ:wi:=⟨[.val (.slice tSp),.ref tDy,.rfn [tSp] [.bool]],[.bool],false,fun d=>[∀g∈d.1,kI (d.2.2.1.pre (g,()))],fun d=>(decide ((d.1.length:Int)=(wn d.2.1).length)&&d.1.all (ko (α:=SpD) d.2.2.1.F),())⟩
def J0:Prop:=∀(d:List (Int×Int×Unit)×DyD×FnD [tSp] [Ty.bool]×Unit),(∀(g:Int×Int×Unit),g∈d.1->kI (d.2.2.1.1 (g,())))->d.1.length<4611686018427387904->d.2.1.2.1.length<4611686018427387904->(decide ((d.1.length:Int)=d.2.1.2.1.length)=true->∀(g:Int×Int×Unit),g∈d.1->kI (d.2.2.1.1 (g,())))/\(decide ((d.1.length:Int)=d.2.1.2.1.length)&&d.1.all (ko d.2.2.1.2),())=(decide ((d.1.length:Int)=(wn d.2.1).length)&&d.1.all (ko d.2.2.1.2),())
def J1:wi:=⟨[.val tBk,.ref tDy],[.bool],false,fun _=>[],fun d=>(DV (wn d.2.1).length d.1,())⟩
def J2:Prop:=∀(d:BkD×DyD×Unit),d.2.1.2.1.length<4611686018427387904->kK ((d.2.1.2.1.length:Int)-1)/\(kl d.1.2.1 (0:Int) ((d.2.1.2.1.length:Int)-1)&&decide (0<=d.1.2.2.1)&&decide (d.1.2.2.1<d.1.2.2.2.1)&&decide (d.1.2.2.2.1<=1440),())=(DV (wn d.2.1).length d.1,())
def J4:wi:=⟨[.val tSh,.ref tDy],[.bool],false,fun _=>[],fun d=>(Lj (kC d.2.1).length (kE (kG d.2.1)).length d.1,())⟩
abbrev jhu (d:ShD×DyD×Unit):=(kl d.1.1 (0:Int) (99:Int)&&kl d.1.2.1 (0:Int) (9999:Int)&&kl d.1.2.2.1 (1:Int) (2:Int)&&kl d.1.2.2.2.1 (0:Int) ((d.2.1.2.2.1.length:Int)-1))
abbrev jhv (d:ShD×DyD×Unit):=(kl d.1.1 (0:Int) (99:Int)&&kl d.1.2.1 (0:Int) (9999:Int)&&kl d.1.2.2.1 (1:Int) (2:Int))
def J5:Prop:=∀(d:ShD×DyD×Unit),((jhv d)=true->d.2.1.2.2.1.length<4611686018427387904)->((jhv d)=true->kK ((d.2.1.2.2.1.length:Int)-1))/\(((jhu d)=true->d.2.1.1.2.1.length<4611686018427387904)->((jhu d)=true->kK ((d.2.1.1.2.1.length:Int)-1))/\(kl d.1.1 (0:Int) (99:Int)&&kl d.1.2.1 (0:Int) (9999:Int)&&kl d.1.2.2.1 (1:Int) (2:Int)&&kl d.1.2.2.2.1 (0:Int) ((d.2.1.2.2.1.length:Int)-1)&&kl d.1.q4.1 (0:Int) ((d.2.1.1.2.1.length:Int)-1),())=(Lj (kC d.2.1).length (kE (kG d.2.1)).length d.1,()))
def QW:wi:=⟨[.val tDy],[.bool],false,fun _=>[],fun d=>(wK d.1,())⟩
abbrev jgU (d:DyD×Unit):=(ko fun(a:BkD×Unit)=>(DV (wn d.1).length a.1,()))
abbrev jfs (d:DyD×Unit):=((d.1.2.2.1.length:Int)<=4)
abbrev jgn (d:DyD×Unit):=(↑(wn d.1).length:Int)
abbrev jfO (d:DyD×Unit):=(d.1.2.1.length:Int)
def QX:Prop:=∀(d:DyD×Unit),d.1.2.2.1.length<4611686018427387904->(decide (jfs d)=true->d.1.2.1.length<4611686018427387904)->((decide (jfs d)&&kl (jfO d) (1:Int) (5:Int))=true->∀(g:List (Int×Int×Unit)),g∈d.1.2.1->kI [∀(b:Int×Int×Unit),b∈g->kI []])/\((decide (jfs d)&&kl (jfO d) (1:Int) (5:Int)&&d.1.2.1.all (ko fun(a:List (Int×Int×Unit)×Unit)=>(decide ((a.1.length:Int)=(jgn d))&&a.1.all (ko fun(c:(Int×Int×Unit)×Unit)=>(xB c.1,())),())))=true->∀(e:BkD),e∈d.1.2.2.1->kI [])/\(((decide (jfs d)&&kl (jfO d) (1:Int) (5:Int)&&d.1.2.1.all (ko fun(a:List (Int×Int×Unit)×Unit)=>(decide ((a.1.length:Int)=(jgn d))&&a.1.all (ko fun(f:(Int×Int×Unit)×Unit)=>(xB f.1,())),()))&&d.1.2.2.1.all (jgU d)&&kl d.1.2.2.2.1 (0:Int) (300:Int)&&kl d.1.q4.1 (0:Int) (1440:Int))=true->d.1.q4.2.1.length<4611686018427387904)->((decide (jfs d)&&kl (jfO d) (1:Int) (5:Int)&&d.1.2.1.all (ko fun(a:List (Int×Int×Unit)×Unit)=>(decide ((a.1.length:Int)=(jgn d))&&a.1.all (ko fun(h:(Int×Int×Unit)×Unit)=>(xB h.1,())),()))&&d.1.2.2.1.all (jgU d)&&kl d.1.2.2.2.1 (0:Int) (300:Int)&&kl d.1.q4.1 (0:Int) (1440:Int)&&decide ((d.1.q4.2.1.length:Int)<=30))=true->∀(i:ShD),i∈d.1.q4.2.1->kI [])/\(decide (jfs d)&&kl (jfO d) (1:Int) (5:Int)&&d.1.2.1.all (ko fun(a:List (Int×Int×Unit)×Unit)=>(decide ((a.1.length:Int)=(jgn d))&&a.1.all (ko fun(u5:(Int×Int×Unit)×Unit)=>(xB u5.1,())),()))&&d.1.2.2.1.all (jgU d)&&kl d.1.2.2.2.1 (0:Int) (300:Int)&&kl d.1.q4.1 (0:Int) (1440:Int)&&decide ((d.1.q4.2.1.length:Int)<=30)&&d.1.q4.2.1.all (ko fun(j:ShD×Unit)=>(Lj (kC d.1).length (kE (kG d.1)).length j.1,())),())=(wK d.1,()))
def x7:wi:=⟨[.val .int],[.bool],false,fun _=>[],fun _=>(false,())⟩
def x8:Prop:=∀(d:Int×Unit),(decide (d.1≠d.1),())=(false,())
def sm:wi:=⟨[.val .int,.val .int],[.int],false,fun _=>[],fun d=>(ca d.1 d.2.1,())⟩
abbrev jft (d:Int×Int×Unit):=(ca d.1 d.2.1,())
def sn:Prop:=∀(d:Int×Int×Unit),(false=true->(false=true->((0:Int),())=(jft d))/\(qF->((-1:Int),())=(jft d)))/\(qF->(false=true->((1:Int),())=(jft d))/\(qF->(decide (d.1<d.2.1)=true->((-1:Int),())=(jft d))/\(decide (d.1<d.2.1)=false->(decide (d.2.1<d.1)=true->((1:Int),())=(jft d))/\(decide (d.2.1<d.1)=false->((0:Int),())=(jft d)))))
def Hu:wi:=⟨[.val (.slice .int)],[.int],false,fun _=>[],fun d=>(yd d.1,())⟩
def Hv:Ann:=fun r=>match r with
 |3=>some fun σ=>{X:=Nat,sl:=fun i=>[(8,.dat .int (i:Int))],ob:=fun _=>[],inv:=fun i=>i<=(gd (.slice .int) σ 0).length/\∀b:Nat,b<i->nth (gd (.slice .int) σ 0) b=0,mu:=fun i=>(gd (.slice .int) σ 0).length-i}
 |_=>none
def Hw:Prop:=∀(d:List Int×Unit),d.1.length<4611686018427387904->(∃(x:Nat),((0=(x:Int)/\True)/\True)/\x<=d.1.length/\∀(b:Nat),b<x->nth d.1 b=0)/\∀(x:Nat),(x<=d.1.length/\∀(b:Nat),b<x->nth d.1 b=0)->(decide ((x:Int)<d.1.length)=true->0<=(x:Int)/\(x:Int)<d.1.length/\(decide (nth d.1 (x:Int).toNat≠0)=true->(nth d.1 (x:Int).toNat,())=(yd d.1,()))/\(decide (nth d.1 (x:Int).toNat≠0)=false->kK ((x:Int)+1)/\∃(a:Nat),(((x:Int)+1=(a:Int)/\True)/\True)/\(a<=d.1.length/\∀(b:Nat),b<a->nth d.1 b=0)/\d.1.length-a<d.1.length-x))/\(decide ((x:Int)<d.1.length)=false->((0:Int),())=(yd d.1,()))
def C4:wi:=⟨[.val tSh,.val tSh],[.int],false,fun _=>[],fun d=>(cJ d.1 d.2.1,())⟩
def C6:Prop:=∀(d:ShD×ShD×Unit),(yd [ca d.1.1 d.2.1.1,ca d.1.2.1 d.2.1.2.1,ca d.1.2.2.1 d.2.1.2.2.1,ca d.1.2.2.2.1 d.2.1.2.2.2.1,ca d.1.q4.1 d.2.1.q4.1],())=(cJ d.1 d.2.1,())
def MZ:wi:=⟨[.val tSh,.val tSh],[.int],false,fun _=>[],fun d=>(kM d.1 d.2.1,())⟩
def M0:Prop:=∀(d:ShD×ShD×Unit),(yd [ca d.1.2.1 d.2.1.2.1,ca d.1.1 d.2.1.1],())=(kM d.1 d.2.1,())
def t8:qi:=⟨[.val (.slice tSh)],[rwS],fun d=>[d.1.length<=100000],fun d=>((d.1,()),())⟩
def ua:Prop:=∀(d:List ShD×Unit),d.1.length<=100000->∀(β:Bool),(β=true->d.1=[])->(β=true->([],())=d/\()=())/\(β=false->(0+d.1.length)*40<=140737488355328/\([]++d.1,())=d/\()=())
def pn:qi:=⟨[.own rwS false],[rwS],fun d=>[d.1.length<=100000],fun d=>((aQ yo d.1,()),())⟩
def po:Ann:=fun r=>match r with
 |4=>some fun σ=>{X:=Nat,sl:=fun i=>[(3,.dat .int (i:Int))],ob:=fun _=>[],inv:=fun i=>jaX yo (gr tSh σ 1000000) i,mu:=fun i=>(gr tSh σ 1000000).length-i}
 |9=>some fun σ=>{X:=Nat×List ShD,sl:=fun x=>[(5,.dat .int (x.1:Int)),(3,.dat .int (oi yo (gr tSh σ 1000000) ((gd .int σ 3).toNat+x.1)))],ob:=fun x=>[(1000000,some (.row 75 tSh false .unk x.2))],inv:=fun x=>Oo yo (gr tSh σ 1000000) (gd .int σ 3).toNat x.1 x.2,mu:=fun x=>(gr tSh σ 1000000).length-x.1}
 |_=>none
abbrev jek (x:Nat)(a:Nat×List ShD):=((x:Int).toNat+a.1)
abbrev jhw (d:List ShD×Unit)(x:Nat)(a:Nat×List ShD):=(List.take (oi yo d.1 (jek x a)).toNat a.2++List.replicate ((a.2.length:Int).toNat-(oi yo d.1 (jek x a)).toNat) ((0:Int),(0:Int),(0:Int),(0:Int),(0:Int),()))
abbrev jhx (a:Nat×List ShD)(x:Nat):=(!decide (nth a.2 ((x:Int).toNat+(a.1:Int).toNat)=nth a.2 ((x:Int).toNat+((a.1:Int)-1).toNat)))
abbrev jez (d:List ShD×Unit):=(d.1.length:Int)
abbrev jfP (d:List ShD×Unit)(x:Nat):=(↑((jez d).toNat-(x:Int).toNat):Int)
def pq:Prop:=∀(d:List ShD×Unit),d.1.length<=100000->d.1.length<4611686018427387904->(decide ((jez d)<2)=true->d=(aQ yo d.1,())/\()=())/\(decide ((jez d)<2)=false->(∃(x:Nat),((1=(x:Int)/\True)/\True)/\jaX yo d.1 x)/\∀(x:Nat),jaX yo d.1 x->d.1.length<4611686018427387904->(decide ((x:Int)<(jez d))=true->0<=(x:Int)/\(x:Int)<(jez d)/\kK ((x:Int)-1)/\0<=(x:Int)-1/\(x:Int)-1<(jez d)/\(decide (nth d.1 (x:Int).toNat=nth d.1 ((x:Int)-1).toNat)=true->0<=(x:Int)/\(x:Int)<=(jez d)/\(jez d)<=(jez d)/\(∃(a:Nat×List ShD),((1=(a.1:Int)/\(x:Int)=oi yo d.1 (jek x a)/\True)/\d.1=a.2/\True)/\Oo yo d.1 (x:Int).toNat a.1 a.2)/\∀(a:Nat×List ShD),Oo yo d.1 (x:Int).toNat a.1 a.2->(jez d).toNat-(x:Int).toNat<4611686018427387904->(decide ((a.1:Int)<(jfP d x))=true->0<=(a.1:Int)/\(a.1:Int)<(jfP d x)/\kK ((a.1:Int)-1)/\0<=(a.1:Int)-1/\(a.1:Int)-1<(jfP d x)/\((jhx a x)=true->0<=(a.1:Int)/\(a.1:Int)<(jfP d x)/\0<=oi yo d.1 (jek x a)/\oi yo d.1 (jek x a)<(a.2.length:Int)/\kK (oi yo d.1 (jek x a)+1)/\kK ((a.1:Int)+1)/\∃(b:Nat×List ShD),(((a.1:Int)+1=(b.1:Int)/\oi yo d.1 (jek x a)+1=oi yo d.1 ((x:Int).toNat+b.1)/\True)/\a.2.set (oi yo d.1 (jek x a)).toNat (nth a.2 ((x:Int).toNat+(a.1:Int).toNat))=b.2/\True)/\Oo yo d.1 (x:Int).toNat b.1 b.2/\d.1.length-b.1<d.1.length-a.1)/\((jhx a x)=false->kK ((a.1:Int)+1)/\∃(b:Nat×List ShD),((oi yo d.1 (jek x a)=oi yo d.1 ((x:Int).toNat+b.1)/\(a.1:Int)+1=(b.1:Int)/\True)/\a.2=b.2/\True)/\Oo yo d.1 (x:Int).toNat b.1 b.2/\d.1.length-b.1<d.1.length-a.1))/\(decide ((a.1:Int)<(jfP d x))=false->0<=oi yo d.1 (jek x a)/\oi yo d.1 (jek x a)<=(a.2.length:Int)/\(a.2.length:Int)<=a.2.length/\(oi yo d.1 (jek x a)).toNat+((a.2.length:Int).toNat-(oi yo d.1 (jek x a)).toNat)=a.2.length/\(0:Int)<=0/\0<=oi yo d.1 (jek x a)/\oi yo d.1 (jek x a)<=(↑(jhw d x a).length:Int)/\(List.take ((oi yo d.1 (jek x a)).toNat-Int.toNat 0) (jhw d x a),())=(aQ yo d.1,())/\()=()))/\(decide (nth d.1 (x:Int).toNat=nth d.1 ((x:Int)-1).toNat)=false->kK ((x:Int)+1)/\∃(c:Nat),(((x:Int)+1=(c:Int)/\True)/\True)/\jaX yo d.1 c/\d.1.length-c<d.1.length-x))/\(decide ((x:Int)<(jez d))=false->d=(aQ yo d.1,())/\()=()))
abbrev nx:qi:=TP tSh 75
def Hx:qi:=⟨[.val (.slice tSh)],[rwS],fun d=>[d.1.length<=100000],fun d=>((wy d.1,()),())⟩
abbrev jgV:=(ku (Ty.int.pair (Ty.int.pair (Ty.int.pair (Ty.int.pair (Ty.int.pair Ty.unit))))) fun(a:ShD×ShD×Unit)=>(cJ a.1 a.2.1,()))
def Hy:Prop:=∀(d:List ShD×Unit),d.1.length<=100000->d.1.length<=100000/\(∀(x:ShD),x∈d.1->∀(y:ShD),y∈d.1->kI [])/\qZ jgV d.1/\(kr jgV d.1).length<=100000/\(aQ yo (kr jgV d.1),())=(wy d.1,())/\()=()
def J6:qi:=⟨[.val tSh,.own (.box 195 [.map .int .int]) true],[.cl (.dat .bool)],fun d=>[V5 d.2.1.1],fun d=>((PX d.2.1.1 d.1,()),((mZ d.2.1.1 d.1,()),()))⟩
abbrev jgW (d:ShD×(List (Int×Int)×Unit)×Unit):=(kY (0:Int) (kN Ty.int d.1.1 d.2.1.1)+1)
def J7:Prop:=∀(d:ShD×(List (Int×Int)×Unit)×Unit),V5 d.2.1.1->kK (jgW d)/\(decide (1<kY (0:Int) (kN Ty.int d.1.1 (fa Ty.int d.1.1 (jgW d) d.2.1.1))),())=(PX d.2.1.1 d.1,())/\((fa Ty.int d.1.1 (jgW d) d.2.1.1,()),())=((mZ d.2.1.1 d.1,()),())
abbrev clV:Sh:= .fbox 148 195 [.map .int .int]
def dU:qi:=⟨[.val (.slice tSh),.own clV true],[.cl (.dat .int)],fun d=>[d.1.length<=100000,jcr d.2.1.1],fun d=>((mo d.2.1.1 d.1,()),((pM d.2.1.1 d.1,()),()))⟩
def dV:Ann:=fun r=>match r with
 |2=>some fun σ=>{X:=Nat,sl:=fun i=>[(8,.dat .int (i:Int))],ob:=fun i=>[(400020,some (.map false .int .int (vS [] (gd (.slice tSh) σ 0) i)))],inv:=fun i=>i<=(gd (.slice tSh) σ 0).length/\∀b:Nat,b<i->tp [] (gd (.slice tSh) σ 0) b=false,mu:=fun i=>(gd (.slice tSh) σ 0).length-i}
 |_=>none
def dW:Prop:=∀(d:List ShD×(List (Int×Int)×Unit)×Unit),d.1.length<=100000->jcr d.2.1.1->d.1.length<4611686018427387904->(∃(x:Nat),((0=(x:Int)/\True)/\d.2.1.1=vS [] d.1 x/\True)/\x<=d.1.length/\∀(b:Nat),b<x->tp [] d.1 b=false)/\∀(x:Nat),(x<=d.1.length/\∀(b:Nat),b<x->tp [] d.1 b=false)->(decide ((x:Int)<d.1.length)=true->0<=(x:Int)/\(x:Int)<d.1.length/\V5 (vS [] d.1 x)/\(PX (vS [] d.1 x) (nth d.1 (x:Int).toNat)=true->((x:Int),())=(mo d.2.1.1 d.1,())/\((mZ (vS [] d.1 x) (nth d.1 (x:Int).toNat),()),())=((pM d.2.1.1 d.1,()),()))/\(PX (vS [] d.1 x) (nth d.1 (x:Int).toNat)=false->kK ((x:Int)+1)/\∃(a:Nat),(((x:Int)+1=(a:Int)/\True)/\(True/\True)/\mZ (vS [] d.1 x) (nth d.1 (x:Int).toNat)=vS [] d.1 a/\True)/\(a<=d.1.length/\∀(b:Nat),b<a->tp [] d.1 b=false)/\d.1.length-a<d.1.length-x))/\(decide ((x:Int)<d.1.length)=false->((-1:Int),())=(mo d.2.1.1 d.1,())/\((vS [] d.1 x,()),())=((pM d.2.1.1 d.1,()),()))
def bM:qi:=⟨[.val (.slice tSh),.own clV true],[.cl (.dat .bool)],fun d=>[d.1.length<=100000,jcr d.2.1.1],fun d=>((decide (0<=mo d.2.1.1 d.1),()),((pM d.2.1.1 d.1,()),()))⟩
def bN:Prop:=∀(d:List ShD×(List (Int×Int)×Unit)×Unit),d.1.length<=100000->jcr d.2.1.1->d.1.length<=100000/\jcr d.2.1.1/\(decide (0<=mo d.2.1.1 d.1),())=(decide (0<=mo d.2.1.1 d.1),())/\((pM d.2.1.1 d.1,()),())=((pM d.2.1.1 d.1,()),())
def QY:wi:=⟨[.val (.slice tSh)],[.bool],false,fun d=>[d.1.length<=100000],fun d=>(Sm d.1,())⟩
def QZ:Prop:=∀(d:List ShD×Unit),d.1.length<=100000->d.1.length<=100000/\jcr []/\(decide (0<=mo [] d.1),())=(Sm d.1,())
def Ep:wi:=⟨[.val tDy],[.int],false,fun _=>[],fun d=>(uU d.1,())⟩
def Er:Ann:=fun r=>match r with
 |5=>some fun σ=>{X:=Nat,sl:=fun i=>[(17,.dat .int (i:Int))],ob:=fun _=>[],inv:=fun i=>i<=(gd (.slice tBk) σ 15).length/\∀b:Nat,b<i->w6 (kG (gd tDy σ 0)) (y8 (nth (gd (.slice tBk) σ 15) b))=true,mu:=fun i=>(gd (.slice tBk) σ 15).length-i}
 |_=>none
abbrev jgX:=((0:Int),(1:Int),(0:Int),(0:Int),(0:Int),(1:Int),())
def Es:Prop:=∀(d:DyD×Unit),(decide (qB d.1.1 jgX≠0)=true->(qB d.1.1 jgX,())=(uU d.1,()))/\(decide (qB d.1.1 jgX≠0)=false->d.1.2.2.1.length<4611686018427387904->(∃(x:Nat),((0=(x:Int)/\True)/\True)/\x<=d.1.2.2.1.length/\∀(b:Nat),b<x->w6 (kG d.1) (y8 (nth d.1.2.2.1 b))=true)/\∀(x:Nat),(x<=d.1.2.2.1.length/\∀(b:Nat),b<x->w6 (kG d.1) (y8 (nth d.1.2.2.1 b))=true)->(decide ((x:Int)<d.1.2.2.1.length)=true->0<=(x:Int)/\(x:Int)<d.1.2.2.1.length/\(decide (qB d.1.1 (nth d.1.2.2.1 (x:Int).toNat).1≠0)=true->(qB d.1.1 (nth d.1.2.2.1 (x:Int).toNat).1,())=(uU d.1,()))/\(decide (qB d.1.1 (nth d.1.2.2.1 (x:Int).toNat).1≠0)=false->kK ((x:Int)+1)/\∃(a:Nat),(((x:Int)+1=(a:Int)/\True)/\True)/\(a<=d.1.2.2.1.length/\∀(b:Nat),b<a->w6 (kG d.1) (y8 (nth d.1.2.2.1 b))=true)/\d.1.2.2.1.length-a<d.1.2.2.1.length-x))/\(decide ((x:Int)<d.1.2.2.1.length)=false->((0:Int),())=(uU d.1,())))
def Q1:wi:=⟨[.val tDy],[.int],false,fun d=>[(qj d.1).length<=100000],fun d=>(k8 d.1,())⟩
def Q2:Prop:=∀(d:DyD×Unit),(qj d.1).length<=100000->(decide (uU d.1≠0)=true->(uU d.1,())=(k8 d.1,()))/\(decide (uU d.1≠0)=false->((!wK d.1)=true->((50:Int),())=(k8 d.1,()))/\((!wK d.1)=false->d.1.q4.2.1.length<=100000/\(wy d.1.q4.2.1).length<=100000/\(Sm (wy d.1.q4.2.1)=true->((51:Int),())=(k8 d.1,()))/\(Sm (wy d.1.q4.2.1)=false->((0:Int),())=(k8 d.1,()))))
theorem Q3:MY:=by
 intro d;rfl
theorem pu:wq PR 142 MX:=wb Q3 Tryz.func142 kcN koN
theorem pv:nr:=by
 rintro⟨l,f,⟨⟩⟩ a g;refine⟨⟨0,⟨⟨rfl,tZ⟩,tZ⟩,jv _,fun b c=>by omega⟩,fun i hi=>⟨fun h=> ?_,fun h=> ?_⟩⟩;have h:i<l.length:=(by simpa using h);simp only[ju] at*;refine⟨by omega,by omega,qV _ (a _ (L.kx h)) ⟨fun c=> ?_,fun c=>⟨iZ6,i+1,⟨⟨by simp,tZ⟩,tZ⟩,⟨by omega,fun b d=> ?_⟩,by omega⟩⟩⟩;rw[vW (p:=ko (α:=SpD) f.F) h hi.2 c];by_cases e:b=i;subst e;exact c;exact hi.2 b (by omega);have h:l.length<=i:=(by simpa using h);rw[qC (p:=ko (α:=SpD) f.F) h hi.2]
theorem ny:wq PR 217 nj:=vN nq pv Tryz.func217 kcN koN
theorem iS:fN:=by
 rintro⟨l,f,⟨⟩⟩ a;refine⟨a,?_⟩;exact jN (·,()) (fK (ko (α:=SpD) f.F) l)
theorem fR:wq PR 179 fM:=wb iS Tryz.func179 (kcC ny kcN) koN
theorem nz:lV:=by
 rintro⟨l,f,⟨⟩⟩ a g;refine⟨⟨0,⟨⟨rfl,tZ⟩,tZ⟩,jv _,fun b c=>by omega⟩,fun i hi=>⟨fun h=> ?_,fun h=> ?_⟩⟩;have h:i<l.length:=(by simpa using h);simp only[ju] at*;refine⟨by omega,by omega,qV _ (a _ (L.kx h)) ⟨fun c=> ?_,fun c=>⟨iZ6,i+1,⟨⟨by simp,tZ⟩,tZ⟩,⟨by omega,fun b d=> ?_⟩,by omega⟩⟩⟩;rw[vW (p:=ko (α:=(List SpD)) f.F) h hi.2 c];by_cases e:b=i;subst e;exact c;exact hi.2 b (by omega);have h:l.length<=i:=(by simpa using h);rw[qC (p:=ko (α:=(List SpD)) f.F) h hi.2]
theorem lZ:wq PR 218 lT:=vN lU nz Tryz.func218 kcN koN
theorem fS:dR:=by
 rintro⟨l,f,⟨⟩⟩ a;refine⟨a,?_⟩;exact jN (·,()) (fK (ko (α:=(List SpD)) f.F) l)
theorem dX:wq PR 181 dQ:=wb fS Tryz.func181 (kcC lZ kcN) koN
theorem iT:fQ:=by
 rintro⟨l,f,⟨⟩⟩ a g;refine⟨⟨0,⟨⟨rfl,tZ⟩,tZ⟩,jv _,fun b c=>by omega⟩,fun i hi=>⟨fun h=> ?_,fun h=> ?_⟩⟩;have h:i<l.length:=(by simpa using h);simp only[ju] at*;refine⟨by omega,by omega,qV _ (a _ (L.kx h)) ⟨fun c=> ?_,fun c=>⟨iZ6,i+1,⟨⟨by simp,tZ⟩,tZ⟩,⟨by omega,fun b d=> ?_⟩,by omega⟩⟩⟩;rw[vW (p:=ko (α:=BkD) f.F) h hi.2 c];by_cases e:b=i;subst e;exact c;exact hi.2 b (by omega);have h:l.length<=i:=(by simpa using h);rw[qC (p:=ko (α:=BkD) f.F) h hi.2]
theorem fT:wq PR 219 fO:=vN fP iT Tryz.func219 kcN koN
theorem cV:cg:=by
 rintro⟨l,f,⟨⟩⟩ a;refine⟨a,?_⟩;exact jN (·,()) (fK (ko (α:=BkD) f.F) l)
theorem ci:wq PR 183 cf:=wb cV Tryz.func183 (kcC fT kcN) koN
theorem nB:lY:=by
 rintro⟨l,f,⟨⟩⟩ a g;refine⟨⟨0,⟨⟨rfl,tZ⟩,tZ⟩,jv _,fun b c=>by omega⟩,fun i hi=>⟨fun h=> ?_,fun h=> ?_⟩⟩;have h:i<l.length:=(by simpa using h);simp only[ju] at*;refine⟨by omega,by omega,qV _ (a _ (L.kx h)) ⟨fun c=> ?_,fun c=>⟨iZ6,i+1,⟨⟨by simp,tZ⟩,tZ⟩,⟨by omega,fun b d=> ?_⟩,by omega⟩⟩⟩;rw[vW (p:=ko (α:=ShD) f.F) h hi.2 c];by_cases e:b=i;subst e;exact c;exact hi.2 b (by omega);have h:l.length<=i:=(by simpa using h);rw[qC (p:=ko (α:=ShD) f.F) h hi.2]
theorem l3:wq PR 186 lW:=vN lX nB Tryz.func186 kcN koN
theorem fU:dT:=by
 rintro⟨l,f,⟨⟩⟩ a;refine⟨a,?_⟩;exact jN (·,()) (fK (ko (α:=ShD) f.F) l)
theorem dY:wq PR 147 dS:=wb fU Tryz.func147 (kcC l3 kcN) koN
theorem x9:t7:=by
 intro d h;exact qV _ h rfl
theorem ub:wq PR 180 t6:=wb x9 Tryz.func180 kcN koN
theorem Et:CZ:=by
 intro d h;exact⟨fun g a=>⟨h g a,tZ⟩,jN (·,()) (rW d.snd.fst.2 d.fst)⟩
theorem C7:wq PR 140 CY:=wb Et Tryz.func140 (kcC fR (kcC ub kcN)) koN
theorem uc:sf:=by
 intro d h;exact qV _ h rfl
theorem so:wq PR 182 se:=wb uc Tryz.func182 kcN koN
theorem C8:xX:=by
 intro d h;exact⟨fun g a=>⟨h g a,tZ⟩,jN (·,()) (rW d.snd.fst.2 d.fst)⟩
theorem Aa:wq PR 144 xW:=wb C8 Tryz.func144 (kcC dX (kcC so kcN)) koN
theorem pw:nv:=by
 intro d h;exact qV _ h rfl
theorem nC:wq PR 184 nu:=wb pw Tryz.func184 kcN koN
theorem ud:si:=by
 intro d h;exact⟨fun g a=>⟨h g a,tZ⟩,jN (·,()) (rW d.snd.fst.2 d.fst)⟩
theorem sq:wq PR 145 sg:=wb ud Tryz.func145 (kcC ci (kcC nC kcN)) koN
theorem ue:sk:=by
 intro d h;exact qV _ h rfl
theorem sr:wq PR 185 sj:=wb ue Tryz.func185 kcN koN
theorem C9:xZ:=by
 intro d h;exact⟨fun g a=>⟨h g a,tZ⟩,jN (·,()) (rW d.snd.fst.2 d.fst)⟩
theorem Ab:wq PR 146 xY:=wb C9 Tryz.func146 (kcC dY (kcC sr kcN)) koN
theorem M1:JY:=fun _=>rfl
theorem J8:wq PR 138 JX:=wb M1 Tryz.func138 kcN koN
theorem M2:J0:=by
 rintro⟨l,d,f,⟨⟩⟩ a _ _;exact⟨fun _=>a,rfl⟩
theorem J9:wq PR 139 JZ:=wb M2 Tryz.func139 (kcC C7 kcN) koN
theorem M3:J2:=by
 rintro⟨b,d,⟨⟩⟩ h;have h:(wn d).length<4611686018427387904:=h;exact⟨L.Fb (by show _<=((wn d).length:Int)-1;omega) (by show((wn d).length:Int)-1<=_;omega),rfl⟩
theorem Ka:wq PR 141 J1:=wb M3 Tryz.func141 (kcC pu kcN) koN
theorem M4:J5:=by
 unfold J5 jhv jhu Prod.q4;rintro⟨s,d,⟨⟩⟩ h;refine⟨fun a=> ?_,fun b=>⟨fun a=> ?_,rfl⟩⟩;have h:=h a;exact L.Fb (by simp only at*;omega) (by simp only at*;omega);have h:=b a;exact L.Fb (by simp only at*;omega) (by simp only at*;omega)
theorem Kb:wq PR 143 J4:=wb M4 Tryz.func143 (kcC pu kcN) koN
theorem Xi (s:SpD):xB s=tb s:=by
 unfold xB tb;rw[j7];simp only[ji,jr];omega
theorem Xj (n:Nat) (b:BkD):DV n b=mj n b:=by
 unfold DV mj kl;rw[j7];simp only[ji,jr];omega
theorem Xk (nb a:Nat) (s:ShD):Lj nb a s=ml nb a s:=by
 unfold Lj ml kl;rw[j7];simp only[ji,jr];omega
theorem Xl (d:DyD):(((((((decide (((kC d).length:Int)<=4)&&kl ((wn d).length:Int) 1 5)&&(wn d).all (fun r=>decide ((r.length:Int)=(wn d).length)&&r.all tb))&&(kC d).all (mj (wn d).length))&&kl (R9 d) 0 300)&&kl (jaZ d) 0 1440)&&decide (((qj d).length:Int)<=30))&&(qj d).all (ml (kC d).length (kE (kG d)).length))=wK d:=by
 unfold wK;have e:(fun(r:List SpD)=>decide ((r.length:Int)=(wn d).length)&&r.all tb)=bV (wn d).length:=by
  funext r;unfold bV;congr 1;exact decide_eq_decide.2 (by omega)
 rw[e];cases (wn d).all (bV (wn d).length)<;>cases (kC d).all (mj (wn d).length)<;>cases (qj d).all (ml (kC d).length (kE (kG d)).length)<;>simp only[Bool.and_false,Bool.and_true,Bool.false_and,kl]
 rw[j7];simp only[ji,jr];omega
theorem Uk:QX:=by
 unfold QX jfO jgn jfs jgU Prod.q4;rintro⟨d,⟨⟩⟩ _ _;refine⟨fun _ _ _=>⟨fun _ _=>tZ,tZ⟩,fun _ _ _=>tZ,fun _=>⟨fun _ _ _=>tZ,?_⟩⟩;have a:(ko fun(x:SpD×Unit)=>(xB x.fst,()))=tb:=funext Xi;have e2:(ko fun(x:BkD×Unit)=>(DV (wn d).length x.fst,()))=mj (wn d).length:=funext (Xj _);have b:(ko fun(x:ShD×Unit)=>(Lj (kC d).length (kE (kG d)).length x.fst,()))=ml (kC d).length (kE (kG d)).length:=funext (Xk _ _);simp only;rw[a,e2,b];exact jN (·,()) (Xl d)
theorem Q4:wq PR 102 QW:=wb Uk Tryz.func102 (kcC pu (kcC J8 (kcC J9 (kcC Ka (kcC Kb (kcC Aa (kcC sq (kcC Ab kcN)))))))) koN
theorem Da:x8:=by
 intro d;simp
theorem Ac:wq PR 94 x7:=wb Da Tryz.func94 kcN koN
theorem uf:sn:=by
 unfold sn jft;rintro⟨a,b,⟨⟩⟩;refine⟨fun h=>(by cases h),fun _=>⟨fun h=>(by cases h),fun _=>⟨fun h=> ?_,fun h=>⟨fun c=> ?_,fun c=> ?_⟩⟩⟩⟩;have h:a<b:=ja h;simp only;unfold ca;rw[jd h];have h:¬a<b:=je h;have c:b<a:=ja c;simp only;unfold ca;rw[jc h,jd c];have h:¬a<b:=je h;have c:¬b<a:=je c;simp only;unfold ca;rw[jc h,jc c]
theorem ya:wq PR 65 sm:=wb uf Tryz.func65 (kcC Ac kcN) koN
theorem Q5 {l:List Int} {i:Nat} (h:i<l.length) (a:∀b:Nat,b<i->nth l b=0) (hi:nth l i≠0):yd l=nth l i:=by
 have e:l.find? (fun n=>decide (n≠0))=some (nth l i):=by
  rw[List.find?_eq_some_iff_getElem];refine⟨jK hi,i,h,by rw[L.wB h],fun j c=> ?_⟩;have:=a j c;rw[L.wB (by omega)] at this;simp[this]
 unfold yd;rw[e]
theorem Kc {l:List Int} (a:∀b:Nat,b<l.length->nth l b=0):yd l=0:=by
 have e:l.find? (fun n=>decide (n≠0))=none:=by
  rw[List.find?_eq_none];intro x c;obtain⟨i,hi,rfl⟩:=L.mem_iff.1 c;simp[a i hi]
 unfold yd;rw[e]
theorem Kd:Hw:=by
 rintro⟨l,⟨⟩⟩ f;refine⟨⟨0,⟨⟨rfl,tZ⟩,tZ⟩,jv _,fun b c=>by omega⟩,fun x d=>⟨fun h=> ?_,fun h=> ?_⟩⟩;have h:x<l.length:=(by simpa using h);simp only[ju];refine⟨by omega,by omega,fun a=> ?_,fun a=>⟨L.Fb (by omega) (by simp only at f;omega),x+1,⟨⟨by simp,tZ⟩,tZ⟩,⟨h,fun b c=> ?_⟩,by omega⟩⟩;rw[Q5 h d.2 (ja a)];by_cases e:b=x;subst e;exact jQ.1 (je a);exact d.2 b (by omega);have h:l.length<=x:=(by simpa using h);rw[Kc (fun b c=>d.2 b (by simp only at c;omega))]
theorem bg:wq PR 64 Hu:=vN Hv Kd Tryz.func64 kcN koN
theorem Eu:C6:=fun _=>rfl
theorem Db:wq PR 150 C4:=wb Eu Tryz.func150 (kcC ya (kcC bg kcN)) koN
theorem Q6:M0:=fun _=>rfl
theorem M5:wq PR 108 MZ:=wb Q6 Tryz.func108 (kcC ya (kcC bg kcN)) koN
theorem Ad:ua:=by
 rintro⟨l,⟨⟩⟩ b β a;have b:l.length<=100000:=b;refine⟨fun h=>⟨?_,rfl⟩,fun _=>⟨by simp only;omega,by simp,rfl⟩⟩;have:l=[]:=a h;rw[this]
theorem ug:y7 PR 149 t8:=CD Ad Tryz.func149 kcN koN
theorem su:pq:=by
 unfold pq jfP jez jhx jhw jek;rintro⟨l,⟨⟩⟩ m C;have m:l.length<=100000:=m;obtain⟨eq,k⟩:∃eq,eq=yo:=⟨_,rfl⟩;have A:∀a b:ShD,decide (a=b)=eq a b:=fun a b=>by rw[k];rfl
 simp only[<-k,A,ju];refine⟨fun h=>⟨?_,tZ⟩,fun h=> ?_⟩;have h:(l.length:Int)<2:=ja h;rw[L.comp_short (by omega)];have h:¬(l.length:Int)<2:=je h;refine⟨⟨1,⟨⟨rfl,tZ⟩,tZ⟩,jj _,by omega,?_⟩,fun i hi _=>⟨fun g=> ?_,fun g=>⟨?_,tZ⟩⟩⟩;rw[L.comp_short];rw[jX];omega;have g:(i:Int)<l.length:=ja g;obtain⟨s,D,f⟩:=hi;have z:((i:Int)-1).toNat=i-1:=(by omega);rw[z];have n:=L.comp_take (eq:=eq) (l:=l) s (by omega:i<l.length);refine⟨by omega,g,by unfold kK;omega,by omega,by omega,fun j=>⟨by omega,by omega,zT _,⟨(1,l),⟨⟨rfl,?_,tZ⟩,rfl,tZ⟩,jj _,by omega,rfl,?_,rfl,?_⟩,fun x q _=>⟨fun e=> ?_,fun e=> ?_⟩⟩,fun j=>⟨iZ6,i+1,⟨⟨by simp,tZ⟩,tZ⟩,⟨by omega,by omega,?_⟩,by omega⟩⟩;unfold oi;rw[n,jd j,j9,f,jX];omega;rw[n,jd j,j9,f,jX];show l.take i=l.take (min i l.length);congr 1;omega;rw[n,jd j,j9,f,jX];omega;have e:(x.1:Int)<((l.length-i:Nat):Int):=ja e;have r:=q;obtain⟨G,H,I,v,J,w⟩:=r;obtain⟨E,F⟩:=L.inv9_next s q (by omega);have y:((x.1:Int)-1).toNat=x.1-1:=(by omega);have o:i+(x.1-1)=i+x.1-1:=(by omega);rw[y,o];have p:oi eq l (i+x.1)=((aQ eq (l.take (i+x.1))).length:Int):=rfl;refine⟨by omega,e,by unfold kK;omega,by omega,by omega,fun c=> ?_,fun c=> ?_⟩;have c:eq (nth x.2 (i+x.1)) (nth x.2 (i+x.1-1))=false:=(by simpa using c);obtain⟨t,u⟩:=E c;refine⟨by omega,e,by omega,by omega,by unfold kK;omega,iZ6,(x.1+1,_),⟨⟨by simp,t.symm,tZ⟩,rfl,tZ⟩,u,by show _-(x.1+1)<_;omega⟩;have c:eq (nth x.2 (i+x.1)) (nth x.2 (i+x.1-1))=true:=(by simpa using c);obtain⟨t,u⟩:=F c;exact⟨iZ6,(x.1+1,x.2),⟨⟨t.symm,by simp,tZ⟩,rfl,tZ⟩,u,by show _-(x.1+1)<_;omega⟩;have e:¬(x.1:Int)<((l.length-i:Nat):Int):=je e;obtain⟨G,H,I,v,J,w⟩:=q;have p:oi eq l (i+x.1)=((aQ eq (l.take (i+x.1))).length:Int):=rfl;have d:l.take (i+x.1)=l:=zD (by omega);rw[d] at p v w;rw[p];simp only[ju];have B:=L.comp_len (eq:=eq) l;refine⟨by omega,by omega,zT _,by omega,by omega,by omega,?_,⟨?_,tZ⟩⟩;simp only[jJ,jX,jV];omega;congr 1;rw[show(aQ eq l).length-Int.toNat 0=(aQ eq l).length from rfl];rw[List.take_left' (by rw[jX];omega)];exact v.symm;rw[n,jc (by rw[j];simp),f];exact(L.kQ (by omega)).symm;have g:¬(i:Int)<l.length:=je g;obtain⟨s,D,f⟩:=hi;have d:l.take i=l:=zD (by omega);rw[d] at f;rw[f]
theorem px:y7 PR 151 pn:=xr po su Tryz.func151 kcN koN
theorem aV:y7 PR 107 nx:=
 CC Tryz.sortSh 75 rfl (jy (by kernel_rfl)) Tryz.isAgg75 Tryz.sizeOf75 (qL Tryz.func107 (c:=wt Tryz.f107) (by kernel_rfl) (by kernel_rfl))
theorem Xm:fL cJ:=by
 have e:cJ=Sk (fun a b=>ca (y9 a) (y9 b)) (Sk (fun a b=>ca (IA a) (IA b)) (Sk (fun a b=>ca (Yi a) (Yi b)) (Sk (fun a b=>ca (Lf a) (Lf b)) (fun a b=>ca (oj a) (oj b))))):=by
  funext a b;unfold cJ;simp only[ww,Sk]
  split<;>(try rfl);split<;>(try rfl);split<;>(try rfl);split<;>(try rfl);split<;>(try rfl)
  rename_i h;exact(jQ.1 h).symm
 rw[e];exact pm (od lS y9) (pm (od lS IA) (pm (od lS Yi) (pm (od lS Lf) (od lS oj))))
theorem Q7 {a b:ShD} (h:cJ a b=0):a=b:=by
 unfold cJ at h;rw[ww] at h
 split at h
 contradiction;rename_i c;rw[ww] at h
 split at h
 contradiction;rename_i d;rw[ww] at h
 split at h
 contradiction;rename_i e;rw[ww] at h
 split at h
 contradiction;rename_i f;rw[qM] at h;have c:=ab.1 (jQ.1 c);have d:=ab.1 (jQ.1 d);have e:=ab.1 (jQ.1 e);have f:=ab.1 (jQ.1 f);have g:=ab.1 h;obtain⟨i,j,k,l,m,⟨⟩⟩:=a;obtain⟨n,o,p,q,r,⟨⟩⟩:=b;have c:i=n:=c;have d:j=o:=d;have e:k=p:=e;have f:l=q:=f;have g:m=r:=g;rw[c,d,e,f,g]
theorem Xn (l:List ShD):qZ (ku tSh fun x=>(cJ x.1 x.2.1,())) l:=A4 Xm (fun _ _ _ _ h=>Q7 h)
theorem Ul (l:List ShD):(wy l).length<=l.length:=by
 unfold wy;refine jD (L.comp_len _) ?_;rw[(wm l).length_eq];exact jj _
theorem Ke:Hy:=by
 unfold Hy jgV;rintro⟨l,⟨⟩⟩ a;exact⟨a,fun _ _ _ _=>tZ,Xn l,by rw[(wm (lt:=ku tSh fun x=>(cJ x.1 x.2.1,())) l).length_eq];exact a,rfl,rfl⟩
theorem sw:y7 PR 104 Hx:=CD Ke Tryz.func104 (kcC Db kcN) (koC ug (koC aV (koC px koN)))
theorem M6:J7:=by
 unfold J7 jgW;rintro⟨s,⟨m,⟨⟩⟩,⟨⟩⟩ h;have h:V5 m:=h;have:=h (y9 s);have this:0<=kY 0 (kN .int s.1 m)/\kY 0 (kN .int s.1 m)<=200000:=this;exact⟨L.Fb (by simp only;omega) (by simp only;omega),rfl,rfl⟩
theorem Kf:y7 PR 148 J6:=CD M6 Tryz.func148 kcN koN
theorem dZ {m:List (Int×Int)} {l:List ShD} {i:Nat} (h:i<l.length):vS m l (i+1)=mZ (vS m l i) (nth l i):=by
 unfold vS;rw[L.kQ h,jL];rfl
theorem YK (l:List ShD):∀i,i<=l.length->∀k,0<=kY 0 (kN .int k (vS [] l i))/\kY 0 (kN .int k (vS [] l i))<=(i:Int)
 |0,_,k=>⟨zT 0,zT 0⟩
 |i+1,hi,k=>by
  have b:=YK l i (by omega)
  rw[dZ (by omega)]
  unfold mZ
  by_cases e:k=y9 (nth l i)
  rw[e]
  have a:=M.pS (kt:= .int) (y9 (nth l i)) (kY 0 (kN .int (y9 (nth l i)) (vS [] l i))+1) (vS [] l i)
  rw[a]
  have:=b (y9 (nth l i))
  show 0<=kY 0 (kN .int (y9 (nth l i)) (vS [] l i))+1/\kY 0 (kN .int (y9 (nth l i)) (vS [] l i))+1<=_
  omega
  have a:=M.dl (kt:= .int) (k:=y9 (nth l i)) (k':=k) e (kY 0 (kN .int (y9 (nth l i)) (vS [] l i))+1) (vS [] l i)
  rw[a]
  have:=b k
  omega
theorem Xo {m:List (Int×Int)} {l:List ShD} {i:Nat} (h:i<l.length) (a:∀b:Nat,b<i->tp m l b=false) (hi:tp m l i=true):mo m l=(i:Int)/\V4 m l=i+1:=by
 have e:(List.range l.length).findIdx? (tp m l)=some i:=by
  rw[z6];refine⟨by simpa using h,by simpa using hi,fun j c=>by simp[a j c]⟩
 unfold mo V4 yq;rw[e];exact⟨rfl,rfl⟩
theorem F4 {m:List (Int×Int)} {l:List ShD} (a:∀b:Nat,b<l.length->tp m l b=false):mo m l= -1/\V4 m l=l.length:=by
 have e:(List.range l.length).findIdx? (tp m l)=none:=by
  rw[List.findIdx?_eq_none_iff];intro x c;exact a x (jC.1 c)
 unfold mo V4 yq;rw[e];exact⟨rfl,rfl⟩
theorem fV:dW:=by
 rintro⟨l,⟨m,⟨⟩⟩,⟨⟩⟩ j f n;have f:m=[]:=f;subst f;have j:l.length<=100000:=j;refine⟨⟨0,⟨⟨rfl,tZ⟩,rfl,tZ⟩,jv _,fun b i=>by omega⟩,fun x a=>⟨fun h=> ?_,fun h=> ?_⟩⟩;have h:x<l.length:=(by simpa using h);simp only[ju];refine⟨by omega,by omega,fun k=> ?_,fun d=> ?_,fun d=>⟨iZ6,x+1,⟨⟨by simp,tZ⟩,⟨tZ,tZ⟩,(dZ h).symm,tZ⟩,⟨h,fun b i=> ?_⟩,by omega⟩⟩;have:=YK l x (by omega) k;omega;obtain⟨c,e2⟩:=Xo h a.2 d;unfold pM;rw[c,e2,dZ h];exact⟨rfl,rfl⟩;by_cases e:b=x;subst e;exact d;exact a.2 b (by omega);have h:l.length<=x:=(by simpa using h);obtain⟨c,e2⟩:=F4 (m:=[]) (l:=l) (fun b i=>a.2 b (by omega));have g:x=l.length:=(by have:=a.1;simp only at this;omega);unfold pM;rw[c,e2,g];exact⟨rfl,rfl⟩
theorem d4:y7 PR 186 dU:=xr dV fV Tryz.func186 kcN (koC Kf koN)
theorem cj:bN:=fun _ a b=>⟨a,b,rfl,rfl⟩
theorem bO:y7 PR 147 bM:=CD cj Tryz.func147 kcN (koC d4 koN)
theorem Um:QZ:=fun _ h=>⟨h,rfl,rfl⟩
theorem Q8:wq PR 103 QY:=wb Um Tryz.func103 kcN (koC bO koN)
theorem Xp {c:CrD} (h:kV c=true):w6 c (0,1,0,0,0,1,())=true:=by
 obtain⟨a,_⟩:=wX h;unfold w6;refine jK ?_;refine⟨by decide,?_,by decide,?_,by decide,by decide,by decide,by decide,by decide,by decide,by decide,by decide,by decide⟩;show(0:Int)<=U.la c-1;omega;show(1:Int)<=U.la c-1;omega
theorem Un (c:CrD):qB c (0,1,0,0,0,1,())=if kV c=false then 30 else 0:=by
 unfold qB;by_cases h:kV c=false;rw[jd h,jd h];rw[jc h,jc h,jc (by rw[Xp (by simpa using h)];simp)]
theorem Hz:Es:=by
 unfold Es jgX;rintro⟨d,⟨⟩⟩;have e:=Un d.1;simp only[e];by_cases f:kV d.1=false;rw[jd f];refine⟨fun _=> ?_,fun h=>by simp at h⟩;have f:kV (kG d)=false:=f;unfold uU;rw[jd f];rw[jc f];have c:kV (kG d)=true:=eq_true_of_ne_false f;refine⟨fun h=>by simp at h,fun _ k=>⟨⟨0,⟨⟨rfl,tZ⟩,tZ⟩,jv _,fun b j=>by omega⟩,fun x l=>⟨fun h=> ?_,fun h=> ?_⟩⟩⟩;have h:(x:Int)<(kC d).length:=ja h;have h:x<(kC d).length:=(by omega);have k:(kC d).length<4611686018427387904:=k;have e2:qB d.1 (nth d.2.2.1 x).1=if w6 (kG d) (y8 (nth (kC d) x))=false then 31 else 0:=by
  show(if kV (kG d)=false then(30:Int) else if w6 (kG d) (y8 (nth (kC d) x))=false then 31 else 0)=_;rw[jc (by rw[c];simp)]
 simp only[ju,e2];refine⟨by omega,by show(x:Int)<(kC d).length;omega,fun a=> ?_,fun a=>⟨iZ6,x+1,⟨⟨by simp,tZ⟩,tZ⟩,⟨h,fun b j=> ?_⟩,(by show(kC d).length-(x+1)<(kC d).length-x;omega)⟩⟩;have a:=ja a;by_cases g:w6 (kG d) (y8 (nth (kC d) x))=false;rw[jd g];unfold uU;rw[jc (by rw[c];simp),jd];unfold Lg;exact L.all_false h g;rw[jc g] at a;exact absurd rfl a;have a:=je a;by_cases m:b=x;subst m;by_cases g:w6 (kG d) (y8 (nth (kC d) b))=false;rw[jd g] at a;exact absurd (by decide) a;exact eq_true_of_ne_false g;exact l.2 b (by omega);have h:¬(x:Int)<(kC d).length:=je h;have h:(kC d).length<=x:=(by omega);unfold uU;rw[jc (by rw[c];simp),jc];rw[Bool.not_eq_false];unfold Lg;rw[j8];intro b j;obtain⟨i,hi,rfl⟩:=L.mem_iff.1 j;exact l.2 i (by omega)
theorem Ev:wq PR 101 Ep:=vN Er Hz Tryz.func101 (kcC FZ kcN) koN
theorem Uo:Q2:=by
 unfold Q2 Prod.q4;rintro⟨d,⟨⟩⟩ c;refine⟨fun h=> ?_,fun h=>⟨fun b=> ?_,fun b=>⟨c,jD (Ul _) c,fun a=> ?_,fun a=> ?_⟩⟩⟩;have h:=ja h;simp only at h⊢;unfold k8;rw[jd h];have h:=je h;simp only at h⊢;unfold k8;rw[jc h,jd (by simpa using b)];have h:=je h;simp only at h⊢;unfold k8;rw[jc h,jc (by simpa using b)];have a:Sm (wy (qj d))=true:=a;rw[jd a];have h:=je h;simp only at h⊢;unfold k8;rw[jc h,jc (by simpa using b)];have a:Sm (wy (qj d))=false:=a;rw[jc (by rw[a];simp)]
theorem F5:wq PR 73 Q1:=wb Uo Tryz.func73 (kcC Ev (kcC Q4 (kcC Q8 kcN))) (koC sw koN)
namespace U
def Sb {α:Type} [Inhabited α] (l:List α) (j k:Nat):List α:=(l.set j (nth l k)).set k (nth l j)
def nO {α:Type} [Inhabited α] (lt:α->α->Bool):List α->Nat->List α
 |l,0=>l
 |l,j+1=>if lt (nth l (j+1)) (nth l j)=true then nO lt (Sb l (j+1) j) j else l
def db {α:Type} [Inhabited α] (lt:α->α->Bool) (l:List α) (i:Nat):List α:=(List.range i).foldl (nO lt) l
def iC {α:Type} [Inhabited α] (lt:α->α->Bool) (l:List α):List α:=db lt l l.length
def pN {α:Type} (lt:α->α->Bool) (x:α):List α->List α
 |[]=>[x]
 |y::r=>if lt x y=true then y::pN lt x r else x::y::r
end U
namespace IS
variable {α:Type} [Inhabited α] {lt:α->α->Bool}
theorem swap_perm {l:List α} {j k:Nat} (a:j<l.length) (hk:k<l.length):(Sb l j k).Perm l:=by
 unfold Sb;rw[L.wB a,L.wB hk];exact List.set_set_perm a hk
theorem sink_perm:∀(j:Nat) (l:List α),j<l.length->(nO lt l j).Perm l
 |0,l,_=>List.Perm.refl _
 |j+1,l,h=>by
  unfold nO
  have a:=swap_perm (l:=l) (j:=j+1) (k:=j) h (by omega)
  split
  exact(sink_perm j _ (by rw[a.length_eq];omega)).trans a
  exact List.Perm.refl _
theorem part_succ (lt:α->α->Bool) (l:List α) (i:Nat):db lt l (i+1)=nO lt (db lt l i) i:=by
 simp[db,za]
theorem part_perm {l:List α}:∀(i:Nat),i<=l.length->(db lt l i).Perm l
 |0,_=>List.Perm.refl _
 |i+1,h=>by
  rw[part_succ]
  have a:=part_perm (l:=l) i (by omega)
  exact(sink_perm i _ (by rw[a.length_eq];omega)).trans a
theorem isort_perm (lt:α->α->Bool) (l:List α):(iC lt l).Perm l:=part_perm _ (jj _)
theorem part_isort {l:List α} {i:Nat} (a:1<=i) (b:i<=max l.length 1) (c:l.length<=i):db lt l i=iC lt l:=by
 unfold iC;by_cases h:l.length=0;have:i=1:=(by omega);subst this;rw[h];rfl;have:i=l.length:=(by omega);rw[this]
theorem insR_len {α:Type} {lt:α->α->Bool} (x:α):∀q:List α,(pN lt x q).length=q.length+1
 |[]=>rfl
 |y::r=>by
  unfold pN
  split
  simp[insR_len x r]
  simp
theorem nth_mid (a:List α) (x:α) (s:List α):nth (a++x::s) a.length=x:=by
 rw[L.wB (by simp)];simp
theorem sink_app:∀(q:List α) (x:α) (s:List α),nO lt (q.reverse++x::s) q.length=(pN lt x q).reverse++s
 |[],x,s=>rfl
 |y::r,x,s=>by
  have e:(y::r).reverse++x::s=r.reverse++y::x::s:=by simp
  rw[e]
  have g:nth (r.reverse++y::x::s) (r.length+1)=x:=by
   have:=nth_mid (r.reverse++[y]) x s;simpa using this
  have h:nth (r.reverse++y::x::s) r.length=y:=by
   have:=nth_mid r.reverse y (x::s);simpa using this
  show(if lt (nth _ (r.length+1)) (nth _ r.length)=true then nO lt (Sb _ (r.length+1) r.length) r.length else _)=_;rw[g,h];unfold pN
  split
  .have a:Sb (r.reverse++y::x::s) (r.length+1) r.length=r.reverse++x::(y::s):=by
    unfold Sb;rw[g,h];apply List.ext_getElem?;intro k;simp only[List.getElem?_set,zN];by_cases b:r.length=k
    .subst b;rw[jd rfl,jd (by simp)];rw[jx (by simp)];simp
    .rw[jc b];by_cases c:r.length+1=k
     .subst c;rw[jd rfl,jd (by simp)];rw[jx (by simp)];simp
     .rw[jc c];by_cases f:k<r.length
      .rw[jz (by simpa using f),jz (by simpa using f)]
      .rw[jx (by simp;omega),jx (by simp;omega)];obtain⟨d,i⟩:∃d,k-r.reverse.length=d+2:=⟨k-r.length-2,by simp;omega⟩;rw[i];simp
   rw[a,sink_app r x (y::s)];simp
  .simp
theorem fold_len {α:Type} {lt:α->α->Bool}:∀(l q:List α),(l.foldl (fun q x=>pN lt x q) q).length=q.length+l.length
 |[],q=>rfl
 |x::l,q=>by
  simp only[List.foldl_cons,jY]
  rw[fold_len l,insR_len];omega
theorem part_eq (l:List α):∀i,i<=l.length->db lt l i=((l.take i).foldl (fun q x=>pN lt x q) []).reverse++l.drop i
 |0,_=>by simp[db]
 |i+1,h=>by
  rw[part_succ,part_eq l i (by omega)]
  have b:l.drop i=nth l i::l.drop (i+1):=by
   rw[L.wB (by omega)];exact ke (by omega)
  rw[b];have a:((l.take i).foldl (fun q x=>pN lt x q) []).length=i:=(by rw[fold_len];simp;omega);have:=sink_app (lt:=lt) ((l.take i).foldl (fun q x=>pN lt x q) []) (nth l i) (l.drop (i+1));rw[a] at this;rw[this,L.kQ (by omega),jL];rfl
theorem isort_eq (l:List α):iC lt l=(l.foldl (fun q x=>pN lt x q) []).reverse:=by
 unfold iC;rw[part_eq l _ (jj _)];simp
theorem insR_mem {α:Type} {lt:α->α->Bool} {x z:α}:∀{q:List α},z∈pN lt x q↔z=x\/z∈q
 |[]=>by simp[pN]
 |y::r=>by
  unfold pN
  split
  simp only[jk,insR_mem (q:=r)]
  constructor
  rintro(h|h|h)<;>simp[h]
  rintro(h|h|h)<;>simp[h]
  simp
theorem insR_desc {α:Type} {lt:α->α->Bool} {x:α}:∀{q:List α},qZ lt (x::q)->q.Pairwise (fun a b=>lt a b=false)->(pN lt x q).Pairwise (fun a b=>lt a b=false)
 |[],_,_=>by simp[pN]
 |y::r,ho,h=>by
  rw[zB] at h
  unfold pN
  split
  rename_i d
  rw[zB]
  refine⟨fun z c=> ?_,insR_desc (ho.sub (fun z c=>by rcases jk.1 c with h|h;exact h▸zb;exact jm _ (jm _ h))) h.2⟩
  rcases insR_mem.1 c with rfl|c
  exact ho.asymm (by simp) (by simp) d
  exact h.1 z c
  rename_i d
  have d:lt x y=false:=by simpa using d
  rw[zB]
  refine⟨fun z c=> ?_,zB.2 h⟩
  rcases jk.1 c with rfl|c
  exact d
  exact ho.ntrans (by simp) (by simp) (by simp[c]) d (h.1 z c)
theorem fold_desc {α:Type} {lt:α->α->Bool}:∀(l q:List α),qZ lt (l++q)->q.Pairwise (fun a b=>lt a b=false)->(l.foldl (fun q x=>pN lt x q) q).Pairwise (fun a b=>lt a b=false)
 |[],q,_,h=>h
 |x::l,q,ho,h=>by
  refine fold_desc l _ (ho.sub (fun z c=> ?_)) (insR_desc (ho.sub (fun z c=> ?_)) h)
  rcases js.1 c with c|c
  simp[c]
  rcases insR_mem.1 c with rfl|c
  simp
  simp[c]
  rcases jk.1 c with rfl|c
  simp
  simp[c]
theorem isort_asc {l:List α} (a:qZ lt l):QH lt (iC lt l):=by
 rw[isort_eq];unfold QH;rw[List.pairwise_reverse];exact fold_desc l [] (by simpa using a) (by simp)
theorem isort_sort {l:List α} (a:qZ lt l):iC lt l=kr lt l:=rV a (isort_perm lt l) (isort_asc a)
end IS
end Go.X
namespace Go.X
open U
open Go.Proofs
def U.len8tab:ByteArray:=⟨#[0,1,2,2,3,3,3,3,4,4,4,4,4,4,4,4,5,5,5,5,5,5,5,5,5,5,5,5,5,5,5,5,6,6,6,6,6,6,6,6,6,6,6,6,6,6,6,6,6,6,6,6,6,6,6,6,6,6,6,6,6,6,6,6,7,7,7,7,7,7,7,7,7,7,7,7,7,7,7,7,7,7,7,7,7,7,7,7,7,7,7,7,7,7,7,7,7,7,7,7,7,7,7,7,7,7,7,7,7,7,7,7,7,7,7,7,7,7,7,7,7,7,7,7,7,7,7,7,8,8,8,8,8,8,8,8,8,8,8,8,8,8,8,8,8,8,8,8,8,8,8,8,8,8,8,8,8,8,8,8,8,8,8,8,8,8,8,8,8,8,8,8,8,8,8,8,8,8,8,8,8,8,8,8,8,8,8,8,8,8,8,8,8,8,8,8,8,8,8,8,8,8,8,8,8,8,8,8,8,8,8,8,8,8,8,8,8,8,8,8,8,8,8,8,8,8,8,8,8,8,8,8,8,8,8,8,8,8,8,8,8,8,8,8,8,8,8,8,8,8,8,8,8,8,8,8]⟩
abbrev rwI:Sh:= .cl (.row 3 .int .unk)
namespace U
abbrev FC:=Int×Int×Unit->Int×Unit
abbrev bi (F:FC):Int->Int->Bool:=ku .int F
def iD (p:Int×Int×Unit->List Prop) (l:List Int):Prop:=∀x∈l,∀y∈l,kI (p (x,y,()))
def pO (n:Int):Int:=if n=0 then 0 else if n<2 then 1 else if n<4 then 2 else if n<8 then 3 else 4
end U
def HA:wi:=⟨[.val (.uint .u64)],[.int],false,fun d=>[0<=d.1/\d.1<=12],fun d=>(pO d.1,())⟩
abbrev jgY (d:Int×Unit):=(d.1/(2:Int)^Int.toNat 32/(2:Int)^Int.toNat 16/(2:Int)^Int.toNat 8)
abbrev jgZ (d:Int×Unit):=(d.1/(2:Int)^Int.toNat 32/(2:Int)^Int.toNat 16)
abbrev jg0 (d:Int×Unit):=(d.1/(2:Int)^Int.toNat 32/(2:Int)^Int.toNat 8)
abbrev jg1 (d:Int×Unit):=(d.1/(2:Int)^Int.toNat 16/(2:Int)^Int.toNat 8)
abbrev jhy (d:Int×Unit):=(256<=d.1/(2:Int)^Int.toNat 32/(2:Int)^Int.toNat 16)
def HB:Prop:=∀(d:Int×Unit),0<=d.1/\d.1<=12->(decide (4294967296<=d.1)=true->(0:Int)<=32/\(32:Int)<=64/\(decide (65536<=d.1/(2:Int)^Int.toNat 32)=true->(0:Int)<=16/\(16:Int)<=64/\kK ((32:Int)+16)/\(decide (jhy d)=true->(0:Int)<=8/\(8:Int)<=64/\kK ((32:Int)+16+8)/\0<=d.1/(2:Int)^Int.toNat 32/(2:Int)^Int.toNat 16/(2:Int)^Int.toNat 8/\d.1/(2:Int)^Int.toNat 32/(2:Int)^Int.toNat 16/(2:Int)^Int.toNat 8<=255/\0<=d.1/(2:Int)^Int.toNat 32/(2:Int)^Int.toNat 16/(2:Int)^Int.toNat 8/\d.1/(2:Int)^Int.toNat 32/(2:Int)^Int.toNat 16/(2:Int)^Int.toNat 8<(U.len8tab.size:Int)/\kK (gC U.len8tab (jgY d).toNat)/\kK ((32:Int)+16+8+gC U.len8tab (jgY d).toNat)/\((32:Int)+16+8+gC U.len8tab (jgY d).toNat,())=(pO d.1,()))/\(decide (jhy d)=false->0<=d.1/(2:Int)^Int.toNat 32/(2:Int)^Int.toNat 16/\d.1/(2:Int)^Int.toNat 32/(2:Int)^Int.toNat 16<=255/\0<=d.1/(2:Int)^Int.toNat 32/(2:Int)^Int.toNat 16/\d.1/(2:Int)^Int.toNat 32/(2:Int)^Int.toNat 16<(U.len8tab.size:Int)/\kK (gC U.len8tab (jgZ d).toNat)/\kK ((32:Int)+16+gC U.len8tab (jgZ d).toNat)/\((32:Int)+16+gC U.len8tab (jgZ d).toNat,())=(pO d.1,())))/\(decide (65536<=d.1/(2:Int)^Int.toNat 32)=false->(decide (256<=d.1/(2:Int)^Int.toNat 32)=true->(0:Int)<=8/\(8:Int)<=64/\kK ((32:Int)+8)/\0<=d.1/(2:Int)^Int.toNat 32/(2:Int)^Int.toNat 8/\d.1/(2:Int)^Int.toNat 32/(2:Int)^Int.toNat 8<=255/\0<=d.1/(2:Int)^Int.toNat 32/(2:Int)^Int.toNat 8/\d.1/(2:Int)^Int.toNat 32/(2:Int)^Int.toNat 8<(U.len8tab.size:Int)/\kK (gC U.len8tab (jg0 d).toNat)/\kK ((32:Int)+8+gC U.len8tab (jg0 d).toNat)/\((32:Int)+8+gC U.len8tab (jg0 d).toNat,())=(pO d.1,()))/\(decide (256<=d.1/(2:Int)^Int.toNat 32)=false->0<=d.1/(2:Int)^Int.toNat 32/\d.1/(2:Int)^Int.toNat 32<=255/\0<=d.1/(2:Int)^Int.toNat 32/\d.1/(2:Int)^Int.toNat 32<(U.len8tab.size:Int)/\kK (gC U.len8tab (d.1/(2:Int)^Int.toNat 32).toNat)/\kK ((32:Int)+gC U.len8tab (d.1/(2:Int)^Int.toNat 32).toNat)/\((32:Int)+gC U.len8tab (d.1/(2:Int)^Int.toNat 32).toNat,())=(pO d.1,()))))/\(decide (4294967296<=d.1)=false->(decide (65536<=d.1)=true->(0:Int)<=16/\(16:Int)<=64/\kK ((0:Int)+16)/\(decide (256<=d.1/(2:Int)^Int.toNat 16)=true->(0:Int)<=8/\(8:Int)<=64/\kK ((0:Int)+16+8)/\0<=d.1/(2:Int)^Int.toNat 16/(2:Int)^Int.toNat 8/\d.1/(2:Int)^Int.toNat 16/(2:Int)^Int.toNat 8<=255/\0<=d.1/(2:Int)^Int.toNat 16/(2:Int)^Int.toNat 8/\d.1/(2:Int)^Int.toNat 16/(2:Int)^Int.toNat 8<(U.len8tab.size:Int)/\kK (gC U.len8tab (jg1 d).toNat)/\kK ((0:Int)+16+8+gC U.len8tab (jg1 d).toNat)/\((0:Int)+16+8+gC U.len8tab (jg1 d).toNat,())=(pO d.1,()))/\(decide (256<=d.1/(2:Int)^Int.toNat 16)=false->0<=d.1/(2:Int)^Int.toNat 16/\d.1/(2:Int)^Int.toNat 16<=255/\0<=d.1/(2:Int)^Int.toNat 16/\d.1/(2:Int)^Int.toNat 16<(U.len8tab.size:Int)/\kK (gC U.len8tab (d.1/(2:Int)^Int.toNat 16).toNat)/\kK ((0:Int)+16+gC U.len8tab (d.1/(2:Int)^Int.toNat 16).toNat)/\((0:Int)+16+gC U.len8tab (d.1/(2:Int)^Int.toNat 16).toNat,())=(pO d.1,())))/\(decide (65536<=d.1)=false->(decide (256<=d.1)=true->(0:Int)<=8/\(8:Int)<=64/\kK ((0:Int)+8)/\0<=d.1/(2:Int)^Int.toNat 8/\d.1/(2:Int)^Int.toNat 8<=255/\0<=d.1/(2:Int)^Int.toNat 8/\d.1/(2:Int)^Int.toNat 8<(U.len8tab.size:Int)/\kK (gC U.len8tab (d.1/(2:Int)^Int.toNat 8).toNat)/\kK ((0:Int)+8+gC U.len8tab (d.1/(2:Int)^Int.toNat 8).toNat)/\((0:Int)+8+gC U.len8tab (d.1/(2:Int)^Int.toNat 8).toNat,())=(pO d.1,()))/\(decide (256<=d.1)=false->0<=d.1/\d.1<=255/\0<=d.1/\d.1<(U.len8tab.size:Int)/\kK (gC U.len8tab d.1.toNat)/\kK ((0:Int)+gC U.len8tab d.1.toNat)/\((0:Int)+gC U.len8tab d.1.toNat,())=(pO d.1,()))))
def M7:wi:=⟨[.val (.uint .u64)],[.int],false,fun d=>[0<=d.1/\d.1<=12],fun d=>(pO d.1,())⟩
def M8:Prop:=∀(d:Int×Unit),0<=d.1/\d.1<=12->(false=true->False)/\(qF->(0<=d.1/\d.1<=12)/\(pO d.1,())=(pO d.1,()))
def aC:qi:=⟨[.own rwI true,.val .int,.val .int,.fn [.int,.int] [.int]],[],fun d=>[d.2.1=0/\d.2.2.1=(d.1.length:Int)/\d.1.length<=12,iD d.2.2.2.1.pre d.1],fun d=>((),(iC (bi d.2.2.2.1.F) d.1,()))⟩
def aD:Ann:=fun r=>match r with
 |1=>some fun σ=>{X:=Nat,sl:=fun i=>[(8,.dat .int (i:Int))],ob:=fun i=>[(1000000,some (.row 3 .int false .unk (db (bi (gfn [.int,.int] [.int] σ 3)) (gr .int σ 1000000) i)))],inv:=fun i=>1<=i/\i<=max (gr .int σ 1000000).length 1,mu:=fun i=>(gr .int σ 1000000).length-i}
 |4=>some fun σ=>{X:=Nat×List Int,sl:=fun x=>[(9,.dat .int (x.1:Int))],ob:=fun x=>[(1000000,some (.row 3 .int false .unk x.2))],inv:=fun x=>(x.1:Int)<=gd .int σ 8/\x.2.Perm (gr .int σ 1000000)/\nO (bi (gfn [.int,.int] [.int] σ 3)) x.2 x.1=nO (bi (gfn [.int,.int] [.int] σ 3)) (gr .int σ 1000000) (gd .int σ 8).toNat,mu:=fun x=>x.1}
 |_=>none
abbrev jg2 (a:Nat×List Int):=(nth a.2 (a.1:Int).toNat,nth a.2 ((a.1:Int)-1).toNat,())
abbrev jeh (d:List Int×Int×Int×FnD [Ty.int,Ty.int] [Ty.int]×Unit):=(bi d.2.2.2.1.2)
def aF:Prop:=∀(d:List Int×Int×Int×FnD [Ty.int,Ty.int] [Ty.int]×Unit),d.2.1=0/\d.2.2.1=(d.1.length:Int)/\d.1.length<=12->iD d.2.2.2.1.1 d.1->kK (d.2.1+1)/\(∃(x:Nat),((d.2.1+1=(x:Int)/\True)/\d.1=db (jeh d) d.1 x/\True)/\1<=x/\x<=max d.1.length 1)/\∀(x:Nat),1<=x/\x<=max d.1.length 1->(decide ((x:Int)<d.2.2.1)=true->(∃(a:Nat×List Int),(((x:Int)=(a.1:Int)/\True)/\db (jeh d) d.1 x=a.2/\True)/\(a.1:Int)<=(x:Int)/\a.2.Perm (db (jeh d) d.1 x)/\nO (jeh d) a.2 a.1=nO (jeh d) (db (jeh d) d.1 x) (x:Int).toNat)/\∀(a:Nat×List Int),(a.1:Int)<=(x:Int)/\a.2.Perm (db (jeh d) d.1 x)/\nO (jeh d) a.2 a.1=nO (jeh d) (db (jeh d) d.1 x) (x:Int).toNat->(decide (d.2.1<(a.1:Int))=true->0<=(a.1:Int))/\(decide (d.2.1<(a.1:Int))=true->(a.1:Int)<a.2.length)/\(decide (d.2.1<(a.1:Int))=true->kK ((a.1:Int)-1))/\(decide (d.2.1<(a.1:Int))=true->0<=(a.1:Int)-1)/\(decide (d.2.1<(a.1:Int))=true->(a.1:Int)-1<(a.2.length:Int))/\SA (decide (d.2.1<(a.1:Int))) (d.2.2.2.1.1 (jg2 a)) (((decide (d.2.1<(a.1:Int))&&decide ((d.2.2.2.1.2 (jg2 a)).1<0))=true->kK ((a.1:Int)-1)/\kK ((a.1:Int)-1)/\0<=(a.1:Int)-1/\(a.1:Int)-1<(a.2.length:Int)/\0<=(a.1:Int)/\(a.1:Int)<a.2.length/\0<=(a.1:Int)/\(a.1:Int)<a.2.length/\0<=(a.1:Int)-1/\(a.1:Int)-1<(↑(a.2.set (a.1:Int).toNat (nth a.2 ((a.1:Int)-1).toNat)).length:Int)/\kK ((a.1:Int)-1)/\∃(b:Nat×List Int),(((a.1:Int)-1=(b.1:Int)/\True)/\(a.2.set (a.1:Int).toNat (nth a.2 ((a.1:Int)-1).toNat)).set ((a.1:Int)-1).toNat (nth a.2 (a.1:Int).toNat)=b.2/\True)/\((b.1:Int)<=(x:Int)/\b.2.Perm (db (jeh d) d.1 x)/\nO (jeh d) b.2 b.1=nO (jeh d) (db (jeh d) d.1 x) (x:Int).toNat)/\b.1<a.1)/\((decide (d.2.1<(a.1:Int))&&decide ((d.2.2.2.1.2 (jg2 a)).1<0))=false->kK ((x:Int)+1)/\∃(c:Nat),(((x:Int)+1=(c:Int)/\True)/\a.2=db (jeh d) d.1 c/\True)/\(1<=c/\c<=max d.1.length 1)/\d.1.length-c<d.1.length-x)))/\(decide ((x:Int)<d.2.2.1)=false->()=()/\(db (jeh d) d.1 x,())=(iC (jeh d) d.1,()))
def d6:qi:=⟨[.own rwI true,.val .int,.val .int,.val .int,.fn [.int,.int] [.int]],[],fun d=>[d.2.1=0/\d.2.2.1=(d.1.length:Int)/\d.1.length<=12,iD d.2.2.2.2.1.pre d.1],fun d=>((),(iC (bi d.2.2.2.2.1.F) d.1,()))⟩
def d7:Ann:=fun r=>match r with
 |1000002=>some fun _=>{X:=Unit,sl:=fun _=>[],ob:=fun _=>[],inv:=fun _=>True,mu:=fun _=>0}
 |_=>none
def d8:Prop:=∀(d:List Int×Int×Int×Int×FnD [Ty.int,Ty.int] [Ty.int]×Unit),d.2.1=0/\d.2.2.1=(d.1.length:Int)/\d.1.length<=12->iD d.q4.1.1 d.1->kK (d.2.2.1-d.2.1)/\(decide (d.2.2.1-d.2.1<=12)=true->(d.2.1=0/\d.2.2.1=(d.1.length:Int)/\d.1.length<=12)/\iD d.q4.1.1 d.1/\()=()/\(iC (bi d.q4.1.2) d.1,())=(iC (bi d.q4.1.2) d.1,()))/\(decide (d.2.2.1-d.2.1<=12)=false->(decide (d.2.2.2.1=0)=true->False)/\(decide (d.2.2.2.1=0)=false->((!true)=true->False)/\((!true)=false->False)))
def ql:qi:=⟨[.own rwI true,.fn [.int,.int] [.int]],[],fun d=>[d.1.length<=12,iD d.2.1.pre d.1,qZ (bi d.2.1.F) d.1],fun d=>((),(kr (bi d.2.1.F) d.1,()))⟩
def sx:Prop:=∀(d:List Int×FnD [Ty.int,Ty.int] [Ty.int]×Unit),d.1.length<=12->iD d.2.1.1 d.1->qZ (bi d.2.1.2) d.1->d.1.length<4611686018427387904->0<=(d.1.length:Int)/\(d.1.length:Int)<=18446744073709551615/\(0<=(d.1.length:Int)/\(d.1.length:Int)<=12)/\((0:Int)=0/\(d.1.length:Int)=d.1.length/\d.1.length<=12)/\iD d.2.1.1 d.1/\()=()/\(iC (bi d.2.1.2) d.1,())=(kr (bi d.2.1.2) d.1,())
def asI (l:List Int):List (Ty.st [.int]).Data:=l.map (fun x=>(x,()))
def LVi (d:PD [.ref (.slice .int)]) (xs:List (Ty.st [.int]).Data):Prop:=xs=asI d.1
def sy:A2 (YS [.int]):=fun r=>match r with
 |1=>some fun σ _=>{X:=Nat,sl:=fun i=>[(7,.dat .int (i:Int))],ob:=fun _=>[],ys:=fun i=>(asI ((gd (.slice .int) σ 5).take i),true),inv:=fun i=>i<=(gd (.slice .int) σ 5).length,mu:=fun i=>(gd (.slice .int) σ 5).length-i}
 |_=>none
abbrev jer:=(fun(a:Int)=>(a,()))
abbrev jfQ (d:List Int×Unit)(x:Nat):=(nth d.1 (x:Int).toNat,())
def cB:Prop:=∀(d:List Int×Unit) (l:Nat),d.1.length<4611686018427387904->(∃(x:Nat),((0=(x:Int)/\True)/\True)/\([],true)=(List.map jer (List.take x d.1),true)/\x<=d.1.length)/\∀(x:Nat),x<=d.1.length->(decide ((x:Int)<d.1.length)=true->0<=(x:Int)/\(x:Int)<d.1.length/\l=l/\(∃(rest:List (Int×Unit)),List.map jer (List.take x d.1)++[(jfQ d x)]++rest=List.map jer d.1)/\(((!true)=true->true=true->List.map jer (List.take x d.1)++[(jfQ d x)]=List.map jer d.1)/\((!true)=false->kK ((x:Int)+1)/\∃(a:Nat),(((x:Int)+1=(a:Int)/\True)/\True)/\(List.map jer (List.take x d.1)++[(jfQ d x)],true)=(List.map jer (List.take a d.1),true)/\a<=d.1.length/\d.1.length-a<d.1.length-x))/\((!false)=true->false=true->List.map jer (List.take x d.1)++[(jfQ d x)]=List.map jer d.1)/\((!false)=false->kK ((x:Int)+1)/\∃(a:Nat),(((x:Int)+1=(a:Int)/\True)/\True)/\(List.map jer (List.take x d.1)++[(jfQ d x)],false)=(List.map jer (List.take a d.1),true)/\a<=d.1.length/\d.1.length-a<d.1.length-x))/\(decide ((x:Int)<d.1.length)=false->true=true->List.map jer (List.take x d.1)=List.map jer d.1)
theorem l4:(WV (ctx 16 [] []) (wt Tryz.f225) [.int] [.ref (.slice .int)] LVi (fun _=>[]) (fun _ _=>sy) (fun d l=>hkY [.int] l [13] (fun q=>∃rest,LVi d (q++rest)) (fun _=>none)))=cB:=by kernel_rfl
def qo:oW:=⟨[.val (.slice .int)],fun _=>[],225,[.slice .int],fun d=>(d.1,())⟩
def iy:Prop:=∀(d:List Int×Unit),d=d
theorem pz:(TL (ctx 4 [] []) (fun _=>none) Tryz.f196 (wt Tryz.f196) qo)=iy:=by kernel_rfl
def bP:Jl [.int]:={ps:=[.own (.box 31 [.row 3 .int .unk]) true],slots:=[2],dst:=20,pre:=fun _=>[],G:=fun d q=>((d.1.1++q.map (·.1),()),()),seq:=fun sv=>match sv with
 | .clo 225 [.ep t m]=>(match wR t (.slice .int) m with
  |some a=>some (True,fun xs=>xs=asI a)
  |none=>none)
 |_=>none}
def yT:Nat->Option ((ts:List Ty)×Jl ts):=fun r=>match r with
 |3=>some ⟨[.int],bP⟩
 |_=>none
def qN:oY:=⟨[none,some (225,1)],[.nil false,.ref (.slice .int)],[rwI],fun d=>[d.2.1.length<=12],fun d r=>r.1.1=d.2.1⟩
def vn:oY:=⟨[some (225,1)],[.ref (.slice .int)],[rwI],fun d=>[d.1.length<=12],fun d r=>r.1.1=d.1⟩
def qv:oY:=⟨[some (225,1),none],[.ref (.slice .int),.fn [.int,.int] [.int]],[rwI],fun d=>[d.1.length<=12,iD d.2.1.pre d.1,qZ (bi d.2.1.F) d.1],fun d r=>r.1.1=kr (bi d.2.1.F) d.1⟩
def pA (d:OD qN.ps):List SV:=[.lit (.slice none 0 0),.clo 225 [.ep (.slice .int) d.2.1]]
abbrev jfR:=(fun(a:Int×Unit)=>a.1)
abbrev jg3:=(fun(a:List (Int×Unit))=>false)
abbrev jg4:=(fun(a:Int)=>(a,()))
def bQ:Prop:=∀(d:Unit×List Int×Unit),d.2.1.length<=12/\True->True/\True/\(([]++List.map jfR [],()),())=(([],()),())/\(∀(q:List (Int×Unit)) (x:Int×Unit) (rest:List (Int×Unit)),q++x::rest=List.map jg4 d.2.1->vY jg3 q->(([]++List.map jfR q).length+[x.1].length)*8<=140737488355328/\qF/\(([]++List.map jfR q++[x.1],()),())=(([]++List.map jfR (q++[x]),()),()))/\(∀(xs:List (Int×Unit)),xs=List.map jg4 d.2.1->vY jg3 xs->∃(_:Unit),[]++List.map jfR xs=d.2.1)/\∀(q:List (Int×Unit)) (x:Int×Unit) (rest:List (Int×Unit)),q++x::rest=List.map jg4 d.2.1->vY jg3 q->false=true->∃(_:Unit),[]=d.2.1
theorem iU:(TN (ctx 13 [] []) (fun _=>none) (hkC (ctx 13 [] []) (fun _=>none) yT [] []) Tryz.f233 (wt Tryz.f233) qN pA)=bQ:=by kernel_rfl
def uh (d:OD vn.ps):List SV:=[.clo 225 [.ep (.slice .int) d.1]]
def d9:Prop:=∀(d:List Int×Unit),d.1.length<=12/\True->(d.1.length<=12/\True)/\∀(r:(List Int×Unit)×Unit),r.1.1=d.1->∃(_:Unit),r.1.1=d.1
theorem nD:(TN (ctx 5 [] []) (fun _=>none) (hkC (ctx 5 [] []) (fun _=>none) ZT [4] [(233,20,qN)]) Tryz.f223 (wt Tryz.f223) vn uh)=d9:=by kernel_rfl
def nE (d:OD qv.ps):List SV:=[.clo 225 [.ep (.slice .int) d.1],.fn [.int,.int] [.int] d.2.1.pre d.2.1.F]
def aW:Prop:=∀(d:List Int×FnD [Ty.int,Ty.int] [Ty.int]×Unit),d.1.length<=12/\iD d.2.1.1 d.1/\qZ (bi d.2.1.2) d.1/\True->(d.1.length<=12/\True)/\∀(r:(List Int×Unit)×Unit),r.1.1=d.1->r.1.1.length<=12/\iD d.2.1.1 r.1.1/\qZ (bi d.2.1.2) r.1.1/\∃(_:Unit),kr (bi d.2.1.2) r.1.1=kr (bi d.2.1.2) d.1
theorem fW:(TN (ctx 12 [] [(224,ql)]) (fun _=>none) (hkC (ctx 12 [] [(224,ql)]) (fun _=>none) ZT [7] [(223,20,vn)]) Tryz.f195 (wt Tryz.f195) qv nE)=aW:=by kernel_rfl
theorem Q9 {γ:Bool} {l:List Prop} {k:Prop} (h:γ=true->kI l) (hk:k):SA γ l k:=by
 induction l with
 |nil=>exact hk
 |cons p l b=>exact⟨fun a=>(h a).1,b (fun a=>(h a).2)⟩
theorem jdS:∀n:Nat,n<13->gC U.len8tab n=pO (n:Int):=by decide+kernel
theorem Z9 (n:Int):0<=pO n/\pO n<=4:=by
 unfold pO
 split
 omega
 split
 omega
 split
 omega
 split<;>omega
theorem Kg:HB:=by
 unfold HB jhy jg1 jg0 jgZ jgY;rintro⟨n,⟨⟩⟩ ⟨a,b⟩;have a:0<=n:=a;have b:n<=12:=b;refine⟨fun h=>absurd (ja h) (by simp only;omega),fun _=>⟨fun h=>absurd (ja h) (by simp only;omega),fun _=>⟨fun h=>absurd (ja h) (by simp only;omega),fun _=> ?_⟩⟩⟩;have c:=jdS n.toNat (by omega);rw[Int.toNat_of_nonneg a] at c;have d:=Z9 n;simp only;rw[c];refine⟨by omega,by omega,by omega,?_,by unfold kK;omega,by unfold kK;omega,by rw[Int.zero_add]⟩;have:U.len8tab.size=256:=(by decide+kernel);omega
theorem HC:wq PR 131 HA:=wb Kg Tryz.func131 kcN koN
theorem Ra:M8:=by
 rintro⟨n,⟨⟩⟩ h;exact⟨fun e=>(by cases e),fun _=>⟨h,rfl⟩⟩
theorem M9:wq PR 93 M7:=wb Ra Tryz.func93 (kcC HC kcN) koN
theorem aO:aF:=by
 unfold aF jeh jg2;rintro⟨l,a,b,⟨pre,c⟩,⟨⟩⟩ x y;obtain⟨z,n,E⟩:a=0/\b=(l.length:Int)/\l.length<=12:=x;have s:iD pre l:=y;subst z n;simp only;refine⟨by unfold kK;omega,⟨1,⟨⟨rfl,tZ⟩,rfl,tZ⟩,jj _,by omega⟩,fun i hi=>⟨fun h=> ?_,fun h=> ?_⟩⟩
 .have h:i<l.length:=(by have:=ja h;omega);have u:=IS.part_perm (lt:=bi c) (l:=l) i (by omega);refine⟨⟨(i,db (bi c) l i),⟨⟨rfl,tZ⟩,rfl,tZ⟩,zT _,List.Perm.refl _,rfl⟩,?_⟩;rintro⟨j,m⟩ ⟨v,o,p⟩;have v:(j:Int)<=i:=v;have o:m.Perm (db (bi c) l i):=o;have p:nO (bi c) m j=nO (bi c) (db (bi c) l i) i:=p;have C:m.length=l.length:=(o.trans u).length_eq;have g:∀{k:Nat},k<m.length->nth m k∈l:=fun hk=>(o.trans u).mem_iff.1 (L.kx hk)
  simp only[ju];refine⟨fun _=>by omega,fun f=>by have:=ja f;omega,fun f=>by have:=ja f;unfold kK;omega,fun f=>by have:=ja f;omega,fun f=>by have:=ja f;omega,Q9 (fun f=> ?_) ⟨fun n=> ?_,fun n=> ?_⟩⟩
  .have f:=ja f;exact s _ (g (by omega)) _ (g (by omega))
  .simp only[ji,jr] at n;obtain⟨D,q⟩:=n;obtain⟨d,rfl⟩:∃d,j=d+1:=⟨j-1,by omega⟩;have r:((d+1:Nat):Int)-1=(d:Int):=(by omega);rw[r] at q⊢;simp only[ju] at q⊢;have t:=IS.swap_perm (l:=m) (j:=d+1) (k:=d) (by omega) (by omega);have e:kK (d:Int):=(by unfold kK;omega);refine⟨e,e,by omega,by omega,by omega,by omega,by omega,by omega,by omega,by simp;omega,e,⟨(d,Sb m (d+1) d),⟨⟨rfl,tZ⟩,rfl,tZ⟩,⟨by simp only;omega,t.trans o,?_⟩,by simp⟩⟩;rw[<-p];show _=(if bi c (nth m (d+1)) (nth m d)=true then nO (bi c) (Sb m (d+1) d) d else m);have w:bi c (nth m (d+1)) (nth m d)=true:=jK q;rw[jd w]
  .have B:m=db (bi c) l (i+1):=by
    rw[IS.part_succ,<-p];cases j with
    |zero=>rfl
    |succ d=>
     unfold nO;rw[jc];intro A;refine absurd n (by
      rw[Bool.and_eq_false_iff];rintro(h|h)
      .exact absurd (je h) (by simp)
      .refine je h ?_;have r:((d+1:Nat):Int)-1=(d:Int):=(by omega);rw[r];exact ja A)
   exact⟨by unfold kK;omega,i+1,⟨⟨by simp,tZ⟩,B,tZ⟩,by omega,by omega⟩
 .have h:l.length<=i:=(by have:=je h;omega);exact⟨tZ,by rw[IS.part_isort hi.1 hi.2 h]⟩
theorem aG:y7 PR 238 aC:=xr aD aO Tryz.func238 kcN koN
theorem fX:d8:=by
 unfold d8 Prod.q4;rintro⟨l,a,b,lim,⟨pre,c⟩,⟨⟩⟩ e d;obtain⟨f,g,i⟩:a=0/\b=(l.length:Int)/\l.length<=12:=e;subst f g;refine⟨by unfold kK;simp only;omega,fun _=>⟨⟨rfl,rfl,by simp only;omega⟩,d,rfl,rfl⟩,fun h=>absurd (je h) (by simp only;omega)⟩
theorem ee:y7 PR 234 d6:=xr d7 fX Tryz.func234 kcN (koC aG koN)
theorem ui:sx:=by
 rintro⟨l,⟨pre,c⟩,⟨⟩⟩ a b d _;have a:l.length<=12:=a;exact⟨by simp only;omega,by simp only;omega,⟨by simp only;omega,by simp only;omega⟩,⟨rfl,rfl,a⟩,b,rfl,jN (·,()) (IS.isort_sort d)⟩
theorem sD:y7 PR 224 ql:=CD ui Tryz.func224 (kcC M9 kcN) (koC ee koN)
theorem Xq {l:List Int} {i:Nat} (h:i<l.length):asI (l.take (i+1))=asI (l.take i)++[(nth l i,())]:=by
 unfold asI;rw[L.kQ h,zi];rfl
theorem uj:cB:=by
 unfold cB jfQ jer;rintro⟨l,⟨⟩⟩ y b;have b:l.length<4611686018427387904:=b;refine⟨⟨0,⟨⟨rfl,tZ⟩,tZ⟩,rfl,jv _⟩,fun x c=>⟨fun h=> ?_,fun h _=> ?_⟩⟩;have h:(x:Int)<l.length:=ja h;have a:x<l.length:=(by omega);have e:=Xq a;unfold asI at e;simp only[ju];refine⟨by omega,h,tZ,⟨asI (l.drop (x+1)),?_⟩,⟨fun h=>(by cases h),fun _=>⟨iZ6,x+1,⟨⟨by simp,tZ⟩,tZ⟩,?_,by show x+1<=l.length;omega,by show l.length-(x+1)<l.length-x;omega⟩⟩,fun _ h=>(by cases h),fun h=>(by cases h)⟩;rw[<-e];unfold asI;rw[<-zi,zO];rw[e];have h:¬(x:Int)<l.length:=je h;have c:x<=l.length:=c;rw[zD (by show l.length<=x;omega)]
theorem Rb {H:Imm} {lb:Array Value} {d:PD [.ref (.slice .int)]} (e:pvs PR H [.ref (.slice .int)] lb.toList d):WT PR H [.int] (LVi d) (.func (.func 225) #[] lb):=
 YG (C:=ctx 16 [] []) (oc trivial trivial) mixed Tryz.func225 (by kernel_rfl) (by kernel_rfl) (by kernel_rfl) (by kernel_rfl) (by decide) (l4.mpr uj) (fun d l B0 R f a b c=>jbH a c) e trivial
theorem Dc:iy:=by intro d;rfl
theorem Ae:Jp PR 196 qo:=jbK (pz.mpr Dc) Tryz.func196 (by kernel_rfl) (by kernel_rfl) (by kernel_rfl) (by kernel_rfl) trivial trivial
theorem jaa (l:List Int):(asI l).map (fun(x:Int×Unit)=>x.1)=l:=by
 unfold asI;rw[kg];exact List.map_id l
theorem sE:bQ:=by
 unfold bQ jg4 jg3 jfR;intro d ⟨a,_⟩;refine⟨tZ,tZ,rfl,fun q x rest h _=>⟨?_,rfl,?_⟩,fun xs h _=>⟨(),?_⟩,fun _ _ _ _ _ h=>(by cases h)⟩;have b:=jN List.length h;simp only[zf,jJ,jY] at b;have a:d.2.1.length<=12:=a;simp only[j0,zf,jY,zv];omega;simp;rw[h,j0];exact jaa d.2.1
theorem Af:d9:=fun _ a=>⟨a,fun _ h=>⟨(),h⟩⟩
theorem pB:aW:=fun d ⟨a,b,c,_⟩=>⟨⟨a,tZ⟩,fun r h=>by rw[h];exact⟨a,b,c,(),rfl⟩⟩
theorem Pu {P:Program} {ρ:Env} {H:Imm} (b:ρ.H=H) {g:Nat} {t:Ty} {d:t.Data} {lb:Array Value} {w:World} {bs:List Nat} (a:dK P H w [.ref t] lb.toList (d,()) bs):SV.den P ρ (.clo g [.ep t d]) (.func (.func g) #[] lb):=by
 subst b
 match e:lb.toList,a with
 |[],a=>exact a.elim
 |[x],⟨_,_,_,⟨c,_⟩,_⟩=>
  simp only[SV.den,SV.denL];exact⟨lb,rfl,x,[],e,c,rfl⟩
 |x::y::r,⟨_,_,_,_,h2⟩=>cases h2.1
theorem Na {lb:Array Value} (h:lb.size=1):∃x,lb.toList=[x]:=by
 have a:lb.toList.length=1:=(by rw[j6];exact h);exact List.length_eq_one_iff.1 a
theorem Up {g n:Nat} {s:oY} (h:ROK PR g s):∀(f:Nat) (p:Nat×oY),kR [(g,n,s)] f=some p->ROK PR f p.2:=by
 intro f p a;simp only[kR] at a
 split at a
 rename_i b;have:=jb b;subst this;simp at a;subst a;exact h;cases a
theorem Xr (n:Nat):(ctx n [] []).ok PR:=oc trivial trivial
theorem nF:ROK PR 233 qN:=by
 refine TO (body:=wt Tryz.f233) (C:=ctx 13 [] []) (hk:=hkC (ctx 13 [] []) (fun _=>none) yT [] []) (Xr 13) mixed Tryz.func233 (by kernel_rfl) (by kernel_rfl) (by kernel_rfl) (fun B=>FW (Xr 13) mixed ?_ Z5 B) rfl (fun H w vals fl d bs c b ρ f=> ?_) (fun d=>rfl) (iU.mpr sE)
 .intro k t rs sv pr L v ρ hk a p g;unfold yT at hk
  split at hk
  case h_2=>cases hk
  simp only[jw] at hk;cases hk;simp only[bP] at a
  split at a
  case h_2=>cases a
  rename_i t m
  split at a
  case h_2=>cases a
  rename_i z o;simp only[jw,Prod.mk.injEq] at a;obtain⟨rfl,rfl⟩:=a;obtain⟨e,rfl⟩:=kB o;subst e;simp only[SV.den,SV.denL] at g;obtain⟨lb,rfl,x,r,n,j,l⟩:=g;exact Rb (d:=(m,())) (by rw[n,l];exact⟨j,rfl⟩)
 .obtain⟨v,q,h,rfl,rfl,lb,s,i,rfl,rfl,_,rfl,rfl⟩:=c;obtain⟨u,y,_,⟨rfl,_⟩,b⟩:=b;rw[j9] at b;refine⟨_,_,rfl,rfl,_,_,rfl,Pu f b,rfl⟩
theorem sF:ROK PR 223 vn:=by
 refine TO (body:=wt Tryz.f223) (C:=ctx 5 [] []) (hk:=hkC (ctx 5 [] []) (fun _=>none) ZT [4] [(233,20,qN)]) (Xr 5) mixed Tryz.func223 (by kernel_rfl) (by kernel_rfl) (by kernel_rfl) (fun B=>FW (Xr 5) mixed My (Up nF) B) rfl (fun H w vals fl d bs a c ρ b=> ?_) (fun d=>rfl) (nD.mpr Af);obtain⟨lb,f,e,rfl,rfl,_,rfl,rfl⟩:=a;rw[j9] at c;exact⟨_,_,rfl,Pu b c,rfl⟩
theorem F6:(ctx 12 [] [(224,ql)]).ok PR:=oc trivial ⟨sD,tZ⟩
theorem l5:ROK PR 195 qv:=by
 refine TO (body:=wt Tryz.f195) (C:=ctx 12 [] [(224,ql)]) (hk:=hkC (ctx 12 [] [(224,ql)]) (fun _=>none) ZT [7] [(223,20,vn)]) F6 mixed Tryz.func195 (by kernel_rfl) (by kernel_rfl) (by kernel_rfl)
  (fun B=>FW F6 mixed My (Up sF) B) rfl (fun H w vals fl d bs a e ρ c=> ?_) (fun d=>rfl) (fW.mpr pB)
 obtain⟨lb,k,g,rfl,rfl,b,v,l,h,rfl,rfl,rfl,rfl⟩:=a;obtain⟨x,f⟩:=Na b;rw[f] at e;obtain⟨m,n,_,⟨i,_⟩,c1,c2,_,⟨j,_⟩,_⟩:=e;subst c;refine⟨_,_,rfl,⟨lb,rfl,x,[],f,i,rfl⟩,_,_,rfl,j,rfl⟩
abbrev tRo:Ty:= .st [tDy,.slice .int,.slice (.slice .int),.slice .int]
abbrev RoD:Type:=DyD×List Int×List (List Int)×List Int×Unit
namespace U
def ro (o:Option RoD):RoD:=kU (Ty.dflt tRo) o
def rd (r:RoD):DyD:=r.1
def mq (r:RoD):List Int:=r.2.1
def aL (r:RoD):List (List Int):=r.2.2.1
def jdm (r:RoD):List Int:=r.2.2.2.1
def aR (d:DyD) (b:Int):Prop:=0<=b/\b<((kC d).length:Int)
def Ot (d:DyD) (l:List Int):Prop:=l.length<=12/\∀b∈l,aR d b
def LF (d:DyD):Prop:=kV (kG d)=true/\Lg d=true/\wK d=true
def PY (r:RoD):Prop:=LF (rd r)/\(mq r).length=(kC (rd r)).length
def Sn (d:DyD) (p:Int):Prop:=0<=p/\p<((kE (kG d)).length:Int)
def tq (d:DyD) (a b:Int):Int:=yd [ca (qx (bk d a)) (qx (bk d b)),ca a b]
def kH (d:DyD) (l:List Int):List Int:=kr (cH d) l
def gV (d:DyD) (s:List Int) (n:Nat):Int:=Oq d (s.take n)
def Is (d:DyD) (cI:List Int) (p:Int) (s:List Int) (i:Nat):Bool:= !(decide (nQ (nth cI (nth s i).toNat/2^p.toNat) 1=0)||(s.drop (i+1)).any (fun c=>decide (bW d (nth s i) c<0)))
def ja2 (d:DyD) (cI:List Int) (p:Int) (s:List Int):Bool:=(List.range s.length).all (Is d cI p s)&&decide (Oq d s<=jaZ d)
def Ou (d:DyD) (cI:List Int) (p:Int) (l:List Int):Bool:=ja2 d cI p (kH d l)
def E4 (r:RoD) (p:Int) (l:List Int):Bool:=Ou (rd r) (mq r) p l
def gW (on:List (List Int)) (b:Int) (n:Nat):Int:=(List.range n).foldl (fun s p=>if(nth on p).any (fun x=>decide (x=b))=true then bor s (1*2^p) else s) 0
def de (on:List (List Int)) (b:Int):Int:=gW on b on.length
def DW (d:DyD) (b t:Int):Bool:=(decide (aK (kG d) (y8 (bk d b)) t=0)&&decide (jbi (kG d) (y8 (bk d b)) t=0))&&decide (t≠0)
end U
def uk:wi:=⟨[.val (.ptr tRo),.val .int,.val .int],[.int],false,fun d=>[d.1.isSome=true,LF (U.rd (U.ro d.1)),aR (U.rd (U.ro d.1)) d.2.1,aR (U.rd (U.ro d.1)) d.2.2.1],fun d=>(bW (U.rd (U.ro d.1)) d.2.1 d.2.2.1,())⟩
abbrev jeA (d:Option RoD×Int×Int×Unit):=(kU ((((0:Int),[],[],()),[],[],(0:Int),(0:Int),[],()),[],[],[],()) d.1)
abbrev jeU (d:Option RoD×Int×Int×Unit):=(nth (jeA d).1.2.2.1 d.2.1.toNat)
abbrev je2 (d:Option RoD×Int×Int×Unit):=(nth (jeA d).1.2.2.1 d.2.2.1.toNat)
def ul:Prop:=∀(d:Option RoD×Int×Int×Unit),d.1.isSome=true->LF (U.rd (U.ro d.1))->aR (U.rd (U.ro d.1)) d.2.1->aR (U.rd (U.ro d.1)) d.2.2.1->d.1.isSome=true/\0<=d.2.1/\d.2.1<(↑(jeA d).1.2.2.1.length:Int)/\d.1.isSome=true/\0<=d.2.2.1/\d.2.2.1<(↑(jeA d).1.2.2.1.length:Int)/\kK ((je2 d).2.2.1-(jeU d).2.2.2.1)/\d.1.isSome=true/\kK ((je2 d).2.2.1-(jeU d).2.2.2.1-(jeA d).1.2.2.2.1)/\d.1.isSome=true/\(0:Int)<=(jeU d).2.1/\(jeU d).2.1<(↑(jeA d).1.2.1.length:Int)/\(0:Int)<=(je2 d).2.1/\(je2 d).2.1<(↑(nth (jeA d).1.2.1 (jeU d).2.1.toNat).length:Int)/\kK ((je2 d).2.2.1-(jeU d).2.2.2.1-(jeA d).1.2.2.2.1-(nth (nth (jeA d).1.2.1 (jeU d).2.1.toNat) (je2 d).2.1.toNat).2.1)/\((je2 d).2.2.1-(jeU d).2.2.2.1-(jeA d).1.2.2.2.1-(nth (nth (jeA d).1.2.1 (jeU d).2.1.toNat) (je2 d).2.1.toNat).2.1,())=(bW (U.rd (U.ro d.1)) d.2.1 d.2.2.1,())
def wY:wi:=⟨[.val .int,.val .int,.ref (.ptr tRo)],[.int],false,fun d=>[d.2.2.1.isSome=true,aR (U.rd (U.ro d.2.2.1)) d.1,aR (U.rd (U.ro d.2.2.1)) d.2.1],fun d=>(tq (U.rd (U.ro d.2.2.1)) d.1 d.2.1,())⟩
abbrev jgo (d:Int×Int×Option RoD×Unit):=(kU ((((0:Int),[],[],()),[],[],(0:Int),(0:Int),[],()),[],[],[],()) d.2.2.1)
def nG:Prop:=∀(d:Int×Int×Option RoD×Unit),d.2.2.1.isSome=true->aR (U.rd (U.ro d.2.2.1)) d.1->aR (U.rd (U.ro d.2.2.1)) d.2.1->d.2.2.1.isSome=true/\0<=d.1/\d.1<(↑(jgo d).1.2.2.1.length:Int)/\d.2.2.1.isSome=true/\0<=d.2.1/\d.2.1<(↑(jgo d).1.2.2.1.length:Int)/\(yd [ca (nth (jgo d).1.2.2.1 d.1.toNat).2.2.1 (nth (jgo d).1.2.2.1 d.2.1.toNat).2.2.1,ca d.1 d.2.1],())=(tq (U.rd (U.ro d.2.2.1)) d.1 d.2.1,())
def cC:wi:=⟨[.val (.ptr tRo),.val (.slice .int)],[.slice .int],false,fun d=>[d.1.isSome=true,Ot (U.rd (U.ro d.1)) d.2.1],fun d=>(kH (U.rd (U.ro d.1)) d.2.1,())⟩
abbrev jhz (d:Option RoD×List Int×Unit):=(bi fun(a:Int×Int×Unit)=>(tq (U.rd (U.ro d.1)) a.1 a.2.1,()))
def cD:Prop:=∀(d:Option RoD×List Int×Unit),d.1.isSome=true->Ot (U.rd (U.ro d.1)) d.2.1->(d.2.1.length<=12/\iD (fun(a:Int×Int×Unit)=>[d.1.isSome=true,aR (U.rd (U.ro d.1)) a.1,aR (U.rd (U.ro d.1)) a.2.1]) d.2.1/\qZ (jhz d) d.2.1/\True)/\∀(r:(List Int×Unit)×Unit),r.1.1=kr (jhz d) d.2.1->r.1=(kH (U.rd (U.ro d.1)) d.2.1,())
theorem l6:(ZP (LB 9 [(197,wY)] [] [(196,qo)] []) (fun _=>none) (hkC (LB 9 [(197,wY)] [] [(196,qo)] []) (fun _=>none) ZT [8] [(195,20,qv)]) Tryz.f154 (wt Tryz.f154) cC)=cD:=by kernel_rfl
def um:wi:=⟨[.val .int,.ref (.ptr tRo),.ref .int],[.bool],false,fun d=>[d.2.1.isSome=true,LF (U.rd (U.ro d.2.1)),aR (U.rd (U.ro d.2.1)) d.1,aR (U.rd (U.ro d.2.1)) d.2.2.1],fun d=>(decide (bW (U.rd (U.ro d.2.1)) d.2.2.1 d.1<0),())⟩
def uo:Prop:=∀(d:Int×Option RoD×Int×Unit),d.2.1.isSome=true->LF (U.rd (U.ro d.2.1))->aR (U.rd (U.ro d.2.1)) d.1->aR (U.rd (U.ro d.2.1)) d.2.2.1->d.2.1.isSome=true/\LF (U.rd (U.ro d.2.1))/\aR (U.rd (U.ro d.2.1)) d.2.2.1/\aR (U.rd (U.ro d.2.1)) d.1/\(decide (bW (U.rd (U.ro d.2.1)) d.2.2.1 d.1<0),())=(decide (bW (U.rd (U.ro d.2.1)) d.2.2.1 d.1<0),())
def Dd:wi:=⟨[.val (.ptr tRo),.val .int,.val (.slice .int)],[.bool],false,fun d=>[d.1.isSome=true,PY (U.ro d.1),Sn (U.rd (U.ro d.1)) d.2.1,Ot (U.rd (U.ro d.1)) d.2.2.1],fun d=>(E4 (U.ro d.1) d.2.1 d.2.2.1,())⟩
def De:Ann:=fun r=>match r with
 |4=>some fun σ=>{X:=Nat,sl:=fun i=>[(16,.dat .int (i:Int)),(7,.dat .int (gV (U.rd (U.ro (gd (.ptr tRo) σ 0))) (gd (.slice .int) σ 14) i))],ob:=fun _=>[],inv:=fun i=>i<=(gd (.slice .int) σ 14).length/\∀b:Nat,b<i->Is (U.rd (U.ro (gd (.ptr tRo) σ 0))) (mq (U.ro (gd (.ptr tRo) σ 0))) (gd .int σ 1) (gd (.slice .int) σ 14) b=true,mu:=fun i=>(gd (.slice .int) σ 14).length-i}
 |_=>none
abbrev jfg (d:Option RoD×Int×List Int×Unit):=(kU ((((0:Int),[],[],()),[],[],(0:Int),(0:Int),[],()),[],[],[],()) d.1)
abbrev jel (d:Option RoD×Int×List Int×Unit):=(U.rd (U.ro d.1))
abbrev jd8 (d:Option RoD×Int×List Int×Unit):=(kH (jel d) d.2.2.1)
abbrev jfu (d:Option RoD×Int×List Int×Unit)(x:Nat):=(nQ (nth (jfg d).2.1 (nth (jd8 d) (x:Int).toNat).toNat/(2:Int)^d.2.1.toNat) (1:Int)=0)
abbrev jg5 (d:Option RoD×Int×List Int×Unit)(x:Nat):=((nth (jfg d).1.2.2.1 (nth (jd8 d) (x:Int).toNat).toNat).2.2.2.1-(nth (jfg d).1.2.2.1 (nth (jd8 d) (x:Int).toNat).toNat).2.2.1)
abbrev je3 (d:Option RoD×Int×List Int×Unit):=(↑(jd8 d).length:Int)
abbrev jhA (d:Option RoD×Int×List Int×Unit)(x:Nat):=(decide (jfu d x)||(List.take ((je3 d).toNat-((x:Int)+1).toNat) (List.drop ((x:Int)+1).toNat (jd8 d))).any (ko fun(a:Int×Unit)=>(decide (bW (jel d) (nth (jd8 d) (x:Int).toNat) a.1<0),())))
def Df:Prop:=∀(d:Option RoD×Int×List Int×Unit),d.1.isSome=true->PY (U.ro d.1)->Sn (jel d) d.2.1->Ot (jel d) d.2.2.1->d.1.isSome=true/\Ot (jel d) d.2.2.1/\((jd8 d).length<4611686018427387904->(∃(x:Nat),((0=(x:Int)/\0=gV (jel d) (jd8 d) x/\True)/\True)/\x<=(jd8 d).length/\∀(b:Nat),b<x->Is (jel d) (mq (U.ro d.1)) d.2.1 (jd8 d) b=true)/\∀(x:Nat),(x<=(jd8 d).length/\∀(b:Nat),b<x->Is (jel d) (mq (U.ro d.1)) d.2.1 (jd8 d) b=true)->(decide ((x:Int)<(je3 d))=true->0<=(x:Int)/\(x:Int)<(je3 d)/\d.1.isSome=true/\0<=nth (jd8 d) (x:Int).toNat/\nth (jd8 d) (x:Int).toNat<(↑(jfg d).1.2.2.1.length:Int)/\d.1.isSome=true/\0<=nth (jd8 d) (x:Int).toNat/\nth (jd8 d) (x:Int).toNat<(↑(jfg d).1.2.2.1.length:Int)/\kK (jg5 d x)/\kK (gV (jel d) (jd8 d) x+(jg5 d x))/\d.1.isSome=true/\0<=nth (jd8 d) (x:Int).toNat/\nth (jd8 d) (x:Int).toNat<(↑(jfg d).2.1.length:Int)/\0<=d.2.1/\d.2.1<=64/\((!decide (jfu d x))=true->kK ((x:Int)+1))/\((!decide (jfu d x))=true->0<=(x:Int)+1)/\((!decide (jfu d x))=true->(x:Int)+1<=(je3 d))/\((!decide (jfu d x))=true->(je3 d)<=(je3 d))/\((!decide (jfu d x))=true->∀(g:Int),g∈List.take ((je3 d).toNat-((x:Int)+1).toNat) (List.drop ((x:Int)+1).toNat (jd8 d))->kI [d.1.isSome=true,LF (jel d),aR (jel d) g,aR (jel d) (nth (jd8 d) (x:Int).toNat)])/\((jhA d x)=true->(false,())=(E4 (U.ro d.1) d.2.1 d.2.2.1,()))/\((jhA d x)=false->kK ((x:Int)+1)/\∃(a:Nat),(((x:Int)+1=(a:Int)/\gV (jel d) (jd8 d) x+(jg5 d x)=gV (jel d) (jd8 d) a/\True)/\True)/\(a<=(jd8 d).length/\∀(b:Nat),b<a->Is (jel d) (mq (U.ro d.1)) d.2.1 (jd8 d) b=true)/\(jd8 d).length-a<(jd8 d).length-x))/\(decide ((x:Int)<(je3 d))=false->d.1.isSome=true/\(decide (gV (jel d) (jd8 d) x<=(jfg d).1.q4.1),())=(E4 (U.ro d.1) d.2.1 d.2.2.1,())))
def Ag:wi:=⟨[.val (.ptr tRo),.val .int],[.int],false,fun d=>[d.1.isSome=true,(aL (U.ro d.1)).length<=60],fun d=>(de (aL (U.ro d.1)) d.2.1,())⟩
def Ah:Ann:=fun r=>match r with
 |2=>some fun σ=>{X:=Nat,sl:=fun i=>[(12,.dat .int (i:Int)),(4,.dat .int (gW (aL (U.ro (gd (.ptr tRo) σ 0))) (gd .int σ 1) i))],ob:=fun _=>[],inv:=fun i=>i<=(aL (U.ro (gd (.ptr tRo) σ 0))).length,mu:=fun i=>(aL (U.ro (gd (.ptr tRo) σ 0))).length-i}
 |_=>none
abbrev jfv (d:Option RoD×Int×Unit):=(kU ((((0:Int),[],[],()),[],[],(0:Int),(0:Int),[],()),[],[],[],()) d.1)
abbrev jem (d:Option RoD×Int×Unit):=(aL (U.ro d.1))
def Ai:Prop:=∀(d:Option RoD×Int×Unit),d.1.isSome=true->(jem d).length<=60->d.1.isSome=true/\((jfv d).2.2.1.length<4611686018427387904->(∃(x:Nat),((0=(x:Int)/\0=gW (jem d) d.2.1 x/\True)/\True)/\x<=(jem d).length)/\∀(x:Nat),x<=(jem d).length->(decide ((x:Int)<(jfv d).2.2.1.length)=true->0<=(x:Int)/\(x:Int)<(jfv d).2.2.1.length/\(((nth (jfv d).2.2.1 (x:Int).toNat).any fun(b:Int)=>decide (b=d.2.1))=true->0<=(x:Int)/\(x:Int)<=64/\kK ((1:Int)*2^(x:Int).toNat)/\kK ((x:Int)+1)/\∃(a:Nat),(((x:Int)+1=(a:Int)/\bor (gW (jem d) d.2.1 x) ((1:Int)*2^(x:Int).toNat)=gW (jem d) d.2.1 a/\True)/\True)/\a<=(jem d).length/\(jem d).length-a<(jem d).length-x)/\(((nth (jfv d).2.2.1 (x:Int).toNat).any fun(b:Int)=>decide (b=d.2.1))=false->kK ((x:Int)+1)/\∃(a:Nat),((gW (jem d) d.2.1 x=gW (jem d) d.2.1 a/\(x:Int)+1=(a:Int)/\True)/\True)/\a<=(jem d).length/\(jem d).length-a<(jem d).length-x))/\(decide ((x:Int)<(jfv d).2.2.1.length)=false->(gW (jem d) d.2.1 x,())=(de (jem d) d.2.1,())))
def Aj:wi:=⟨[.val (.ptr tRo),.val .int,.val .int],[.bool],false,fun d=>[d.1.isSome=true,aR (U.rd (U.ro d.1)) d.2.1],fun d=>(DW (U.rd (U.ro d.1)) d.2.1 d.2.2.1,())⟩
abbrev jfS (d:Option RoD×Int×Int×Unit):=(kU ((((0:Int),[],[],()),[],[],(0:Int),(0:Int),[],()),[],[],[],()) d.1)
def Ak:Prop:=∀(d:Option RoD×Int×Int×Unit),d.1.isSome=true->aR (U.rd (U.ro d.1)) d.2.1->d.1.isSome=true/\d.1.isSome=true/\0<=d.2.1/\d.2.1<(↑(jfS d).1.2.2.1.length:Int)/\(decide (aK (jfS d).1.1 (nth (jfS d).1.2.2.1 d.2.1.toNat).1 d.2.2.1=0)&&decide (jbi (jfS d).1.1 (nth (jfS d).1.2.2.1 d.2.1.toNat).1 d.2.2.1=0)&&decide (d.2.2.1≠0),())=(DW (U.rd (U.ro d.1)) d.2.1 d.2.2.1,())
theorem ym {d:DyD} (h:wK d=true):(kC d).length<=4/\(1<=(wn d).length/\(wn d).length<=5)/\(0<=R9 d/\R9 d<=300)/\(0<=jaZ d/\jaZ d<=1440)/\(qj d).length<=30/\
 (∀r∈wn d,bV (wn d).length r=true)/\(∀b∈kC d,mj (wn d).length b=true)/\∀s∈qj d,ml (kC d).length (kE (kG d)).length s=true:=by
 unfold wK at h;simp only[ji,jr,j8] at h;obtain⟨⟨e,f,g,i,j,k,l,m⟩,n,a,c⟩:=h;exact⟨e,⟨f,g⟩,⟨i,j⟩,⟨k,l⟩,m,n,a,c⟩
theorem jc4 {d:DyD} {b:Int} (h:aR d b):U.bk d b∈kC d:=by
 unfold U.bk;exact L.kx (by unfold aR at h;omega)
theorem mP {d:DyD} (h:wK d=true) {b:Int} (a:aR d b):(0<=jaY (U.bk d b)/\jaY (U.bk d b)<((wn d).length:Int))/\0<=qx (U.bk d b)/\qx (U.bk d b)<mY (U.bk d b)/\mY (U.bk d b)<=1440:=by
 have:=(ym h).2.2.2.2.2.2.1 _ (jc4 a);unfold mj at this;have:=ja this;omega
theorem Kh {d:DyD} (h:wK d=true) {i:Nat} (hi:i<(wn d).length):(nth (wn d) i).length=(wn d).length/\∀j,j<(wn d).length->0<=U.lo (nth (nth (wn d) i) j)/\U.lo (nth (nth (wn d) i) j)<=U.hi (nth (nth (wn d) i) j)/\U.hi (nth (nth (wn d) i) j)<=300:=by
 have:=(ym h).2.2.2.2.2.1 _ (L.kx hi);unfold bV at this;rw[ji,jr,j8] at this;refine⟨this.1,fun j b=> ?_⟩;have a:=this.2 _ (L.kx (l:=nth (wn d) i) (i:=j) (by omega));unfold tb at a;exact ja a
theorem Uq {d:DyD} (h:wK d=true) {a b:Int} (c:aR d a) (e:aR d b):0<=ja0 d a b/\ja0 d a b<=300:=by
 have f:=(mP h c).1;have g:=(mP h e).1;have:=(Kh h (i:=(jaY (U.bk d a)).toNat) (by omega)).2 (jaY (U.bk d b)).toNat (by omega);unfold ja0;omega
theorem Al:ul:=by
 unfold ul je2 jeU jeA;rintro⟨(_|r),a,b,⟨⟩⟩ h c d e;cases h;obtain⟨c1,c2,c⟩:LF (U.rd r):=c;have d:aR (U.rd r) a:=d;have e:aR (U.rd r) b:=e;have g:=mP c d;have j:=mP c e;have k:=Uq c d e;have l:=(ym c).2.2.1;have m:=(Kh c (i:=(jaY (U.bk (U.rd r) a)).toNat) (by omega)).1;have f:(0<=a/\a<((kC (U.rd r)).length:Int))/\0<=b/\b<((kC (U.rd r)).length:Int):=⟨d,e⟩;refine⟨rfl,f.1.1,f.1.2,rfl,f.2.1,f.2.2,?_,rfl,?_,rfl,g.1.1,g.1.2,j.1.1,?_,?_,rfl⟩;show kK (qx (U.bk (U.rd r) b)-mY (U.bk (U.rd r) a));exact iZ6;show kK (qx (U.bk (U.rd r) b)-mY (U.bk (U.rd r) a)-R9 (U.rd r));exact iZ6;show jaY (U.bk (U.rd r) b)<((nth (wn (U.rd r)) (jaY (U.bk (U.rd r) a)).toNat).length:Int);omega;show kK (qx (U.bk (U.rd r) b)-mY (U.bk (U.rd r) a)-R9 (U.rd r)-ja0 (U.rd r) a b);exact iZ6
theorem uq:wq PR 156 uk:=wb Al Tryz.func156 kcN koN
theorem pC:nG:=by
 unfold nG jgo;rintro⟨a,b,(_|r),⟨⟩⟩ e c d;cases e;have c:aR (U.rd r) a:=c;have d:aR (U.rd r) b:=d;exact⟨rfl,c.1,c.2,rfl,d.1,d.2,rfl⟩
theorem nI:wq PR 197 wY:=wb pC Tryz.func197 (kcC ya (kcC bg kcN)) koN
theorem jab (d:DyD):fL (tq d):=by
 have e:tq d=Sk (fun a b=>ca (qx (U.bk d a)) (qx (U.bk d b))) ca:=by
  funext a b;unfold tq;rw[ww,qM];rfl
 rw[e];exact pm (od lS (fun a=>qx (U.bk d a))) lS
theorem Ur {d:DyD} {a b:Int} (h:tq d a b=0):a=b:=by
 unfold tq at h;rw[ww] at h
 split at h
 contradiction;rw[qM] at h;exact ab.1 h
theorem Us (d:DyD) (a b:Int):decide (tq d a b<0)=cH d a b:=by
 unfold tq cH;rw[ww,qM];refine decide_eq_decide.2 ?_;by_cases c:qx (U.bk d a)<qx (U.bk d b);have e:ca (qx (U.bk d a)) (qx (U.bk d b))= -1:=(by unfold ca;rw[jd c]);rw[e];simp;omega;by_cases f:qx (U.bk d b)<qx (U.bk d a);have e:ca (qx (U.bk d a)) (qx (U.bk d b))=1:=(by unfold ca;rw[jc c,jd f]);rw[e];simp;omega;have e:ca (qx (U.bk d a)) (qx (U.bk d b))=0:=(by unfold ca;rw[jc c,jc f]);rw[e];unfold ca;simp only[ne_eq,not_true_eq_false,if_false]
 split<;>(try split)<;>omega
theorem jdT (d:DyD) (l:List Int):qZ (cH d) l:=by
 have:=A4 (t:= .int) (jab d) (l:=l) (fun _ _ _ _ h=>Ur h);have e:(ku .int fun(x:Int×Int×Unit)=>(tq d x.1 x.2.1,()))=cH d:=by
  funext a b;exact Us d a b
 rw[e] at this;exact this
theorem ltK (d:DyD):(bi fun(x:Int×Int×Unit)=>(tq d x.1 x.2.1,()))=cH d:=by
 funext a b;exact Us d a b
theorem ur:cD:=by
 unfold cD jhz;rintro⟨(_|r),l,⟨⟩⟩ c f;cases c;obtain⟨d,b⟩:Ot (U.rd r) l:=f;refine⟨⟨d,fun x g y h=>⟨rfl,b x g,b y h,tZ⟩,?_,tZ⟩,fun q a=> ?_⟩;have e:=ltK (U.rd r);show qZ (bi fun(x:Int×Int×Unit)=>(tq (U.rd r) x.1 x.2.1,())) l;rw[e];exact jdT _ l;have e:=ltK (U.rd r);have a:q.1.1=kr (bi fun(x:Int×Int×Unit)=>(tq (U.rd r) x.1 x.2.1,())) l:=a;rw[e] at a;obtain⟨⟨q,⟨⟩⟩,⟨⟩⟩:=q;rw[show q=_ from a];rfl
theorem Ki:(LB 9 [(197,wY)] [] [(196,qo)] []).ok PR:=MD ⟨fun _=>nI,tZ⟩ trivial ⟨Ae,tZ⟩ trivial
theorem sG:wq PR 154 cC:=
 jbF (body:=wt Tryz.f154) (C:=LB 9 [(197,wY)] [] [(196,qo)] []) (hk:=hkC (LB 9 [(197,wY)] [] [(196,qo)] []) (fun _=>none) ZT [8] [(195,20,qv)]) Ki mixed Tryz.func154 (by kernel_rfl) (by kernel_rfl) (by kernel_rfl) (by decide)
  (fun B=>FW Ki mixed My (Up l5) B) (l6.mpr ur)
theorem Am:uo:=by
 rintro⟨b,(_|r),a,⟨⟩⟩ c f e d;cases c;exact⟨rfl,f,d,e,rfl⟩
theorem ut:wq PR 155 um:=wb Am Tryz.func155 (kcC uq kcN) koN
theorem Dg {d:DyD} {s:List Int} {i:Nat} (h:i<s.length):gV d s (i+1)=gV d s i+(mY (U.bk d (nth s i))-qx (U.bk d (nth s i))):=by
 unfold gV Oq;rw[L.kQ h,zi,jL];rfl
theorem Ut {d:DyD} (a:wK d=true) {s:List Int} (c:∀b∈s,aR d b):∀i,i<=s.length->0<=gV d s i/\gV d s i<=1440*(i:Int)
 |0,_=>⟨zT _,zT _⟩
 |i+1,hi=>by
  have f:=Ut a c i (by omega)
  have e:=mP a (c _ (L.kx (l:=s) (i:=i) (by omega)))
  rw[Dg (by omega)]
  omega
theorem Nb {d:DyD} {l:List Int} {b:Int}:b∈kH d l↔b∈l:=(wm l).mem_iff
theorem Nc (d:DyD) (l:List Int):(kH d l).length=l.length:=(wm l).length_eq
theorem Ew:Df:=by
 unfold Df jhA je3 jg5 jfu jd8 jel jfg Prod.q4;rintro⟨(_|r),p,l,⟨⟩⟩ D v q K;cases D;obtain⟨⟨c1,c2,u⟩,v⟩:PY r:=v;have q:Sn (U.rd r) p:=q;obtain⟨z,A⟩:Ot (U.rd r) l:=K;have N:=(wX c1).2.2.1;refine⟨rfl,⟨z,A⟩,fun _=> ?_⟩;obtain⟨s,o⟩:∃s,s=kH (U.rd r) l:=⟨_,rfl⟩;have O:s.length<=12:=(by rw[o,Nc];exact z);have k:∀b∈s,aR (U.rd r) b:=fun b d=>A b (by rw[o] at d;exact Nb.1 d)
 have t:U.ro (some r)=r:=rfl;simp only[t,<-o];refine⟨⟨0,⟨⟨rfl,rfl,tZ⟩,tZ⟩,jv _,fun b d=>by omega⟩,fun x w=>⟨fun h=> ?_,fun h=> ?_⟩⟩;have h:(x:Int)<s.length:=ja h;have a:x<s.length:=(by omega);have d:=k _ (L.kx a);have H:=mP u d;have M:=Ut u k x (by omega);have C:((x:Int)+1).toNat=x+1:=(by omega);have B:(s.drop (x+1)).take (s.length-(x+1))=s.drop (x+1):=zD (by rw[z8];omega);have I:qx (U.bk (U.rd r) (nth s x))=(nth (kC (U.rd r)) (nth s x).toNat).2.2.1:=rfl;simp only[ju,C,B];have n:(nth s x)<((mq r).length:Int):=(by rw[v];exact d.2);have m:Is (U.rd r) (mq r) p s x= !(decide (nQ (nth (mq r) (nth s x).toNat/2^p.toNat) 1=0)||(s.drop (x+1)).any (fun c=>decide (bW (U.rd r) (nth s x) c<0))):=rfl;have j:((s.drop (x+1)).any (ko fun(y:Int×Unit)=>(decide (bW (U.rd r) (nth s x) y.fst<0),())))=(s.drop (x+1)).any (fun c=>decide (bW (U.rd r) (nth s x) c<0)):=rfl;unfold Sn at q;refine⟨by omega,h,rfl,d.1,d.2,rfl,d.1,d.2,?_,?_,rfl,d.1,n,q.1,by omega,fun _=>iZ6,fun _=>by omega,fun _=>by omega,fun _=>by omega,fun _ g J=>⟨rfl,⟨c1,c2,u⟩,k g (zU J),d,tZ⟩,fun f=> ?_,fun f=>⟨iZ6,x+1,⟨⟨by simp,(Dg a).symm,tZ⟩,tZ⟩,⟨by omega,fun b G=> ?_⟩,by omega⟩⟩;show kK (mY (U.bk (U.rd r) (nth s x))-qx (U.bk (U.rd r) (nth s x)));exact iZ6;show kK (gV (U.rd r) s x+(mY (U.bk (U.rd r) (nth s x))-qx (U.bk (U.rd r) (nth s x))));exact iZ6;have f:(decide (nQ (nth (mq r) (nth s x).toNat/2^p.toNat) 1=0)||((s.drop (x+1)).any (ko fun(y:Int×Unit)=>(decide (bW (U.rd r) (nth s x) y.fst<0),()))))=true:=f;have f:Is (U.rd r) (mq r) p s x=false:=(by rw[m,<-j,f];rfl);have:E4 r p l=false:=by
  unfold E4 Ou ja2;rw[<-o];have:(List.range s.length).all (Is (U.rd r) (mq r) p s)=false:=by
   rw[zX];exact⟨x,by simpa using a,by rw[f];simp⟩
  rw[this];rfl
 rw[this];by_cases e:b=x;subst e;have f:(decide (nQ (nth (mq r) (nth s b).toNat/2^p.toNat) 1=0)||((s.drop (b+1)).any (ko fun(y:Int×Unit)=>(decide (bW (U.rd r) (nth s b) y.fst<0),()))))=false:=f;rw[m,<-j,f];rfl;exact w.2 b (by omega);have h:¬(x:Int)<s.length:=je h;have a:x=s.length:=(by have:=w.1;omega);refine⟨rfl,?_⟩;have E:(List.range s.length).all (Is (U.rd r) (mq r) p s)=true:=by
  rw[j8];intro i hi;exact w.2 i (by rw[a];simpa using hi)
 have F:gV (U.rd r) s x=Oq (U.rd r) s:=by
  unfold gV;rw[a,zD (jj _)]
 rw[F];have:E4 r p l=decide (Oq (U.rd r) s<=jaZ (U.rd r)):=by
  unfold E4 Ou ja2;rw[<-o,E,Bool.true_and]
 rw[this];rfl
theorem Dh:wq PR 109 Dd:=vN De Ew Tryz.func109 (kcC sG (kcC ut (kcC vZ kcN))) koN
theorem Di (on:List (List Int)) (b:Int) (n:Nat):gW on b (n+1)=if(nth on n).any (fun x=>decide (x=b))=true then bor (gW on b n) (1*2^n) else gW on b n:=by
 unfold gW;rw[za,jL];rfl
theorem Dj (n:Nat):(1:Int)*2^n=2^n:=Int.one_mul _
theorem Dk:Ai:=by
 unfold Ai jem jfv;rintro⟨(_|r),b,⟨⟩⟩ g d;cases g;have d:(aL r).length<=60:=d;have c:U.ro (some r)=r:=rfl;refine⟨rfl,fun _=>⟨⟨0,⟨⟨rfl,rfl,tZ⟩,tZ⟩,jv _⟩,fun x f=>⟨fun h=> ?_,fun h=> ?_⟩⟩⟩;have h:(x:Int)<(aL r).length:=ja h;have e:=Di (aL r) b x;have i:BT.q9 ((2:Int)^x):=BT.na (by omega);unfold BT.q9 at i;simp only[ju,c];refine⟨by omega,h,fun a=>⟨by omega,by omega,by rw[Dj];exact iZ6,iZ6,x+1,⟨⟨by simp,?_,tZ⟩,tZ⟩,by omega,by omega⟩,fun a=>⟨iZ6,x+1,⟨⟨?_,by simp,tZ⟩,tZ⟩,by omega,by omega⟩⟩;rw[e];have a:((nth (aL r) x).any fun y=>decide (y=b))=true:=a;rw[jd a];rw[e];have a:((nth (aL r) x).any fun y=>decide (y=b))=false:=a;rw[jc (by rw[a];simp)];have h:¬(x:Int)<(aL r).length:=je h;have f:x<=(aL r).length:=f;rw[show x=(aL r).length by omega];rfl
theorem iz:wq PR 48 Ag:=vN Ah Dk Tryz.func48 (kcC cA kcN) koN
theorem Dl:Ak:=by
 unfold Ak jfS;rintro⟨(_|r),b,t,⟨⟩⟩ c a;cases c;have a:aR (U.rd r) b:=a;exact⟨rfl,rfl,a.1,a.2,rfl⟩
theorem An:wq PR 49 Aj:=wb Dl Tryz.func49 (kcC MW kcN) koN
theorem pD {l:List ShD} {s:ShD}:s∈wy l↔s∈l:=by
 have e:wy l=aQ (fun a b=>decide (a=b)) (kr (ku tSh fun x=>(cJ x.1 x.2.1,())) l):=by
  unfold wy;congr 1
 rw[e,L.comp_mem];exact(wm l).mem_iff
theorem Kj (l:List ShD):(wy l).Nodup:=by
 have e:wy l=aQ (fun a b=>decide (a=b)) (kr (ku tSh fun x=>(cJ x.1 x.2.1,())) l):=by
  unfold wy;congr 1
 rw[e];refine L.asc_nodup (lt:=ku tSh fun x=>(cJ x.1 x.2.1,())) (fun x=> ?_) (L.comp_asc (Xn _) (bt (Xn l)));exact(Xn [x]).irrefl x (List.mem_singleton.2 rfl)
theorem YL (l:List ShD):∀i,i<=l.length->∀k,kY 0 (kN .int k (vS [] l i))=(((l.take i).countP (fun s=>decide (y9 s=k)):Nat):Int)
 |0,_,k=>rfl
 |i+1,hi,k=>by
  have a:=YL l i (by omega)
  rw[dZ (by omega),L.kQ (by omega),zS]
  unfold mZ
  by_cases e:k=y9 (nth l i)
  rw[e]
  rw[M.pS (kt:= .int) (y9 (nth l i)) (kY 0 (kN .int (y9 (nth l i)) (vS [] l i))+1) (vS [] l i)]
  show kY 0 (kN .int (y9 (nth l i)) (vS [] l i))+1=_
  rw[a]
  simp
  rw[M.dl (kt:= .int) (k:=y9 (nth l i)) (k':=k) e (kY 0 (kN .int (y9 (nth l i)) (vS [] l i))+1) (vS [] l i),a]
  have:decide (y9 (nth l i)=k)=false:=zm fun h=>e h.symm
  simp[this]
theorem Pv {l:List ShD} {i:Nat} (h:i<l.length):tp [] l i=(l.take i).any (fun s=>decide (y9 s=y9 (nth l i))):=by
 unfold tp PX;rw[<-dZ h,YL l (i+1) (by omega),L.kQ h,zS];rw[j7,jr,ze];have b:List.countP (fun s=>decide (y9 s=y9 (nth l i))) [nth l i]=1:=(by simp);rw[b];constructor;intro a;have:0<(l.take i).countP (fun s=>decide (y9 s=y9 (nth l i))):=(by omega);rw[List.countP_pos_iff] at this;exact this;intro a;have:0<(l.take i).countP (fun s=>decide (y9 s=y9 (nth l i))):=List.countP_pos_iff.2 a;omega
theorem jac (l:List ShD):Sm l=false↔(l.map y9).Nodup:=by
 have g:Sm l=false↔∀i,i<l.length->tp [] l i=false:=by
  unfold Sm;constructor;intro h i hi;cases k:tp [] l i with
  |false=>rfl
  |true=>
   exfalso;have b:(List.range l.length).findIdx? (tp [] l)≠none:=by
    intro f;rw[List.findIdx?_eq_none_iff] at f;have:=f i (jC.2 hi);rw[k] at this;cases this
   unfold mo yq at h;cases d:(List.range l.length).findIdx? (tp [] l) with
   |none=>exact b d
   |some j=>
    rw[d] at h;have h:=je h;exact h (jZ j)
  intro h;rw[(F4 h).1];rfl
 rw[g,List.nodup_iff_pairwise_ne,zL,zC];constructor;intro h i j hi a m e;have:=h j a;rw[Pv a,zq] at this;have c:=this (l[i]) (by rw[zj];exact⟨i,by omega,rfl⟩);rw[L.wB a] at c;simp[e] at c;intro h i hi;rw[Pv hi,zq];intro s b;rw[zj] at b;obtain⟨j,a,rfl⟩:=b;have:=h j i (by omega) hi (by omega);rw[L.wB hi];simpa using this
theorem Uu (l:List ShD):Sm (wy l)=false↔∀a∈l,∀b∈l,y9 a=y9 b->a=b:=by
 rw[jac];constructor;intro h a c b d e;exact L.nodup_inj h (pD.2 c) (pD.2 d) e;intro h;rw[List.nodup_iff_pairwise_ne,zL];exact(List.Pairwise.imp_of_mem (fun{a b} c d f e=>f (h a (pD.1 c) b (pD.1 d) e)) (Kj l))
theorem Uv (l:List ShD):aX l=false↔∀a∈l,∀b∈l,y9 a=y9 b->a=b:=by
 have k:aX l=false↔∀i,i<l.length->∀j,j<i->DU (nth l i) (nth l j)=false:=by
  unfold aX gw Bd;rw[zq];constructor;intro h i hi j d;have:=h i (jC.2 hi);rw[kj,zq] at this;have:=this (nth l j) (by rw[zj];exact⟨j,by omega,(L.wB (by omega)).symm⟩);simpa using this;intro h i hi;have hi:=jC.1 hi;rw[kj,zq];intro s g;rw[zj] at g;obtain⟨j,d,rfl⟩:=g;have:=h i hi j (by omega);rw[L.wB (l:=l) (i:=j) (by omega)] at this;simpa using this
 rw[k];have f:∀a b:ShD,DU a b=false↔(y9 a=y9 b->a=b):=by
  intro a b;unfold DU;rw[Bool.and_eq_false_iff];simp only[jE,zr,jr];constructor;rintro(h|h) e;exact absurd e h;exact h;intro h;by_cases e:y9 a=y9 b;exact .inr (h e);exact .inl e
 constructor;intro h a m b n e;obtain⟨i,hi,rfl⟩:=L.mem_iff.1 m;obtain⟨j,d,rfl⟩:=L.mem_iff.1 n;rcases Nat.lt_trichotomy i j with c|rfl|c;exact((f _ _).1 (h j d i c) e.symm).symm;rfl;exact(f _ _).1 (h i hi j c) e;intro h i hi j d;exact(f _ _).2 (h _ (L.kx hi) _ (L.kx (by omega)))
theorem Uw (l:List ShD):Sm (wy l)=aX l:=by
 have:=(Uu l).trans (Uv l).symm;cases a:Sm (wy l) with
 |false=>exact(this.1 a).symm
 |true=>
  cases b:aX l with
  |false=>rw[this.2 b] at a;cases a
  |true=>rfl
theorem aH (d:DyD):k8 d=dm d:=by
 unfold k8 uU dm;rw[Uw]
 split
 rfl
 split
 rfl;rw[jc (by simp)]
abbrev tSt:Ty:= .st [.int,.int]
abbrev jcK:Sh:= .box 127 [.dat .int,.dat (.slice tPe),.dat (.slice tLw),.dat (.slice (.slice tSp)),.dat (.slice tBk),.dat .int,.dat .int,.dat (.slice tSh),.row 3 .int .yes,.row 31 (.slice .int) .no,.row 3 .int .unk]
namespace U
def noI:List Int:=[]
def vF (b:jcK.D):RoD:=(((b.1,b.2.1,b.2.2.1,()),b.2.2.2.1,b.2.2.2.2.1,b.2.2.2.2.2.1,b.2.2.2.2.2.2.1,b.2.2.2.2.2.2.2.1,()),b.2.2.2.2.2.2.2.2.1,b.2.2.2.2.2.2.2.2.2.1,b.2.2.2.2.2.2.2.2.2.2.1,())
def AO (b:jcK.D) (x:List (List Int)×List Int):jcK.D:=(b.1,b.2.1,b.2.2.1,b.2.2.2.1,b.2.2.2.2.1,b.2.2.2.2.2.1,b.2.2.2.2.2.2.1,b.2.2.2.2.2.2.2.1,b.2.2.2.2.2.2.2.2.1,x.1,x.2,())
def eR (s:ShD):Int×Int×Unit:=(Lf s,oj s,())
def qg (l:List ShD) (n:Nat):List ((Int×Int×Unit)×ShD):=(l.take n).foldl (fun m s=>fa tSt (eR s) s m) []
def vp (m:List ((Int×Int×Unit)×ShD)) (s:ShD):Bool:= !(!decide (kY (Ty.dflt tSh) (kN tSt (eR s) m)=s)|| !decide (Yi s=1))
def Lk (d:DyD) (cI:List Int) (m:List ((Int×Int×Unit)×ShD)) (x:List (List Int)×List Int) (s:ShD):List (List Int)×List Int:=
 if vp m s=true then(if Ou d cI (oj s) (nth x.1 (oj s).toNat++[Lf s])=true then(x.1.set (oj s).toNat (nth x.1 (oj s).toNat++[Lf s]),x.2) else(x.1,x.2++[y9 s])) else x
def jd1 (l:List ShD):List ShD:=kr (ku tSh fun x=>(kM x.1 x.2.1,())) l
def qq (d:DyD):List ShD:=jd1 (wy (qj d))
def vC (r:RoD) (l:List ShD) (n:Nat):List (List Int)×List Int:=(l.take n).foldl (Lk (rd r) (mq r) (qg l l.length)) (aL r,jdm r)
def aS (r:RoD):List (List Int)×List Int:=((vC r (qq (rd r)) (qq (rd r)).length).1,DT (vC r (qq (rd r)) (qq (rd r)).length).2)
def ja3 (l:List (List Int)):Prop:=∀x∈l,x=noI
def Yl (r:RoD):Prop:=(k8 (rd r)=0/\(mq r).length=(kC (rd r)).length)/\((aL r).length=(kE (kG (rd r))).length/\ja3 (aL r))/\jdm r=noI
def cK (r:RoD) (l:List ShD) (n:Nat) (x:List (List Int)×List Int):Prop:=x.1.length=(kE (kG (rd r))).length/\x.2.length<=n/\∀p:Nat,(nth x.1 p).Nodup/\∀b∈nth x.1 p,aR (rd r) b/\∃i:Nat,i<n/\eR (nth l i)=(b,(p:Int),())/\kY (Ty.dflt tSh) (kN tSt (eR (nth l i)) (qg l l.length))=nth l i
end U
def bx (σ:St) (o:Nat):List SV:=match σ.obj o with|some (.box _ _ cs)=>cs|_=>[]
def gb (t:Ty) (σ:St) (o:Nat):t.Data:=match v7 σ t (bx σ o) with|some (x,_)=>x|none=>t.dflt
abbrev Ey:qi:=TR 3
def uu:qi:=⟨[.own jcK true],[],fun d=>[Yl (vF d.1)],fun d=>((),(AO d.1 (aS (vF d.1)),()))⟩
def uv:Ann:=fun r=>match r with
 |4=>some fun σ=>{X:=Nat,sl:=fun i=>[(20,.dat .int (i:Int))],ob:=fun i=>[(9,some (.map false tSt tSh (qg (gr tSh σ 3) i)))],inv:=fun i=>i<=(gr tSh σ 3).length,mu:=fun i=>(gr tSh σ 3).length-i}
 |9=>some fun σ=>{X:=Nat,sl:=fun i=>[(34,.dat .int (i:Int))],ob:=fun i=>[(400009,some (.row 31 (.slice .int) false .no (vC (gb tRo σ 1000000) (gr tSh σ 3) i).1)),(400010,some (.row 3 .int false .unk (vC (gb tRo σ 1000000) (gr tSh σ 3) i).2))],inv:=fun i=>i<=(gr tSh σ 3).length/\cK (gb tRo σ 1000000) (gr tSh σ 3) i (vC (gb tRo σ 1000000) (gr tSh σ 3) i),mu:=fun i=>(gr tSh σ 3).length-i}
 |_=>none
abbrev jed (d:(Int×List PeD×List LwD×List (List (Int×Int×Unit))×List BkD×Int×Int×List ShD×List Int×List (List Int)×List Int×Unit)×Unit):=(((d.1.1,d.1.2.1,d.1.2.2.1,()),d.1.2.2.2.1,d.1.q4.1,d.1.q4.2.1,d.1.q4.2.2.1,d.1.q4.2.2.2.1,()),d.1.q4.q4)
abbrev jgp:=(Ty.int.pair (Ty.int.pair Ty.unit))
abbrev jhB:=(ku (Ty.int.pair (Ty.int.pair (Ty.int.pair jgp))) fun(a:ShD×ShD×Unit)=>(kM a.1 a.2.1,()))
abbrev jd3 (d:(Int×List PeD×List LwD×List (List (Int×Int×Unit))×List BkD×Int×Int×List ShD×List Int×List (List Int)×List Int×Unit)×Unit):=(kr jhB (wy d.1.q4.2.2.2.1))
abbrev jd6 (d:(Int×List PeD×List LwD×List (List (Int×Int×Unit))×List BkD×Int×Int×List ShD×List Int×List (List Int)×List Int×Unit)×Unit)(a:Nat):=(nth (jd3 d) (a:Int).toNat)
abbrev jd9 (d:(Int×List PeD×List LwD×List (List (Int×Int×Unit))×List BkD×Int×Int×List ShD×List Int×List (List Int)×List Int×Unit)×Unit)(a:Nat):=(vC (jed d) (jd3 d) a)
abbrev jfw (d:(Int×List PeD×List LwD×List (List (Int×Int×Unit))×List BkD×Int×Int×List ShD×List Int×List (List Int)×List Int×Unit)×Unit)(a:Nat):=(some (((d.1.1,d.1.2.1,d.1.2.2.1,()),d.1.2.2.2.1,d.1.q4.1,d.1.q4.2.1,d.1.q4.2.2.1,d.1.q4.2.2.2.1,()),d.1.q4.q4.1,(jd9 d a).1,(jd9 d a).2,()))
abbrev jhC:=((0:Int),(0:Int),(0:Int),(0:Int),(0:Int),())
def uw:Prop:=∀(d:(Int×List PeD×List LwD×List (List (Int×Int×Unit))×List BkD×Int×Int×List ShD×List Int×List (List Int)×List Int×Unit)×Unit),Yl (vF d.1)->d.1.q4.2.2.2.1.length<=100000/\(∀(c:ShD),c∈wy d.1.q4.2.2.2.1->∀(y:ShD),y∈wy d.1.q4.2.2.2.1->kI [])/\qZ jhB (wy d.1.q4.2.2.2.1)/\((jd3 d).length<4611686018427387904->(∃(x:Nat),((0=(x:Int)/\True)/\[]=qg (jd3 d) x/\True)/\x<=(jd3 d).length)/\∀(x:Nat),x<=(jd3 d).length->(decide ((x:Int)<(jd3 d).length)=true->0<=(x:Int)/\(x:Int)<(jd3 d).length/\kK ((x:Int)+1)/\∃(b:Nat),(((x:Int)+1=(b:Int)/\True)/\fa jgp (nth (jd3 d) (x:Int).toNat).2.2.2 (nth (jd3 d) (x:Int).toNat) (qg (jd3 d) x)=qg (jd3 d) b/\True)/\b<=(jd3 d).length/\(jd3 d).length-b<(jd3 d).length-x)/\(decide ((x:Int)<(jd3 d).length)=false->(jd3 d).length<4611686018427387904->(∃(x:Nat),((0=(x:Int)/\True)/\d.1.q4.q4.2.1=(vC (jed d) (jd3 d) x).1/\d.1.q4.q4.2.2.1=(vC (jed d) (jd3 d) x).2/\True)/\x<=(jd3 d).length/\cK (jed d) (jd3 d) x (vC (jed d) (jd3 d) x))/\∀(a:Nat),a<=(jd3 d).length/\cK (jed d) (jd3 d) a (jd9 d a)->(decide ((a:Int)<(jd3 d).length)=true->0<=(a:Int)/\(a:Int)<(jd3 d).length/\((!decide (kY jhC (kN jgp (jd6 d a).2.2.2 (qg (jd3 d) x))=nth (jd3 d) (a:Int).toNat)||decide ((jd6 d a).2.2.1≠1))=true->kK ((a:Int)+1)/\∃(b:Nat),(((a:Int)+1=(b:Int)/\True)/\(jd9 d a).2=(vC (jed d) (jd3 d) b).2/\(jd9 d a).1=(vC (jed d) (jd3 d) b).1/\True)/\(b<=(jd3 d).length/\cK (jed d) (jd3 d) b (vC (jed d) (jd3 d) b))/\(jd3 d).length-b<(jd3 d).length-a)/\((!decide (kY jhC (kN jgp (jd6 d a).2.2.2 (qg (jd3 d) x))=nth (jd3 d) (a:Int).toNat)||decide ((jd6 d a).2.2.1≠1))=false->(0:Int)<=(jd6 d a).q4.1/\(jd6 d a).q4.1<(↑(jd9 d a).1.length:Int)/\(0:Int)<=(jd6 d a).q4.1/\(jd6 d a).q4.1<(↑(jd9 d a).1.length:Int)/\(0:Int)<=(jd6 d a).q4.1/\(jd6 d a).q4.1<(↑(jd9 d a).1.length:Int)/\(↑(nth (jd9 d a).1 (jd6 d a).q4.1.toNat).length:Int)=(nth (jd9 d a).1 (jd6 d a).q4.1.toNat).length/\(↑(nth (jd9 d a).1 (jd6 d a).q4.1.toNat).length:Int)=(nth (jd9 d a).1 (jd6 d a).q4.1.toNat).length/\((nth (jd9 d a).1 (jd6 d a).q4.1.toNat).length+[(jd6 d a).2.2.2.1].length)*8<=140737488355328/\(jfw d a).isSome=true/\PY (U.ro (jfw d a))/\Sn (U.rd (U.ro (jfw d a))) (jd6 d a).q4.1/\Ot (U.rd (U.ro (jfw d a))) (nth (jd9 d a).1 (jd6 d a).q4.1.toNat++[(jd6 d a).2.2.2.1])/\(E4 (U.ro (jfw d a)) (jd6 d a).q4.1 (nth (jd9 d a).1 (jd6 d a).q4.1.toNat++[(jd6 d a).2.2.2.1])=true->(0:Int)<=(jd6 d a).q4.1/\(jd6 d a).q4.1<(↑(jd9 d a).1.length:Int)/\kK ((a:Int)+1)/\∃(b:Nat),(((a:Int)+1=(b:Int)/\True)/\(jd9 d a).2=(vC (jed d) (jd3 d) b).2/\(jd9 d a).1.set (jd6 d a).q4.1.toNat (nth (jd9 d a).1 (jd6 d a).q4.1.toNat++[(jd6 d a).2.2.2.1])=(vC (jed d) (jd3 d) b).1/\True)/\(b<=(jd3 d).length/\cK (jed d) (jd3 d) b (vC (jed d) (jd3 d) b))/\(jd3 d).length-b<(jd3 d).length-a)/\(E4 (U.ro (jfw d a)) (jd6 d a).q4.1 (nth (jd9 d a).1 (jd6 d a).q4.1.toNat++[(jd6 d a).2.2.2.1])=false->((jd9 d a).2.length+[(jd6 d a).1].length)*8<=140737488355328/\kK ((a:Int)+1)/\∃(b:Nat),(((a:Int)+1=(b:Int)/\True)/\(jd9 d a).1=(vC (jed d) (jd3 d) b).1/\(d.1.1=d.1.1/\d.1.2.1=d.1.2.1/\d.1.2.2.1=d.1.2.2.1/\d.1.2.2.2.1=d.1.2.2.2.1/\d.1.q4.1=d.1.q4.1/\d.1.q4.2.1=d.1.q4.2.1/\d.1.q4.2.2.1=d.1.q4.2.2.1/\d.1.q4.2.2.2.1=d.1.q4.2.2.2.1/\True/\True/\True/\True)/\(jd9 d a).2++[(jd6 d a).1]=(vC (jed d) (jd3 d) b).2/\True)/\(b<=(jd3 d).length/\cK (jed d) (jd3 d) b (vC (jed d) (jd3 d) b))/\(jd3 d).length-b<(jd3 d).length-a)))/\(decide ((a:Int)<(jd3 d).length)=false->()=()/\((d.1.1,d.1.2.1,d.1.2.2.1,d.1.2.2.2.1,d.1.q4.1,d.1.q4.2.1,d.1.q4.2.2.1,d.1.q4.2.2.2.1,d.1.q4.q4.1,(jd9 d a).1,DT (jd9 d a).2,()),())=(AO d.1 (aS (vF d.1)),()))))
theorem yC {d:DyD} (h:k8 d=0):LF d/\∀a∈qj d,∀b∈qj d,y9 a=y9 b->a=b:=by
 unfold k8 uU at h;cases c:kV (kG d) with
 |false=>rw[c] at h;simp at h
 |true=>
  cases e:Lg d with
  |false=>rw[c,e] at h;simp at h
  |true=>
   cases f:wK d with
   |false=>rw[c,e,f] at h;simp at h
   |true=>
    cases g:Sm (wy (qj d)) with
    |true=>rw[c,e,f,g] at h;simp at h
    |false=>exact⟨⟨c,e,f⟩,(Uu _).1 g⟩
theorem jad:fL kM:=by
 have e:kM=Sk (fun a b=>ca (IA a) (IA b)) (fun a b=>ca (y9 a) (y9 b)):=by
  funext a b;unfold kM;rw[ww,qM];rfl
 rw[e];exact pm (od lS IA) (od lS y9)
theorem Ux {a b:ShD} (h:kM a b=0):y9 a=y9 b:=by
 unfold kM at h;rw[ww,qM] at h
 split at h
 contradiction;exact ab.1 h
theorem jdz {d:DyD} (h:k8 d=0):qZ (ku tSh fun x=>(kM x.1 x.2.1,())) (wy (qj d)):=
 A4 jad (fun a b e f c=>(yC h).2 a (pD.1 e) b (pD.1 f) (Ux c))
theorem fY {d:DyD} {s:ShD}:s∈qq d↔s∈qj d:=((wm _).mem_iff).trans pD
theorem eg (d:DyD):(qq d).Nodup:=(wm _).nodup_iff.2 (Kj _)
theorem jae (d:DyD):(qq d).length<=(qj d).length:=by
 unfold qq jd1;rw[(wm _).length_eq];exact Ul _
theorem A5 {d:DyD} (h:wK d=true) {s:ShD} (a:s∈qj d):(0<=oj s/\oj s<((kE (kG d)).length:Int))/\aR d (Lf s):=by
 have:=(ym h).2.2.2.2.2.2.2 _ a;unfold ml at this;have:=ja this;unfold aR;omega
theorem Dm {l:List ShD} {i:Nat} (h:i<l.length):qg l (i+1)=fa tSt (eR (nth l i)) (nth l i) (qg l i):=by
 unfold qg;rw[L.kQ h,jL];rfl
theorem sH {r:RoD} {l:List ShD} {i:Nat} (h:i<l.length):vC r l (i+1)=Lk (U.rd r) (mq r) (qg l l.length) (vC r l i) (nth l i):=by
 unfold vC;rw[L.kQ h,jL];rfl
theorem jc5 {d:DyD} {l:List Int} (c:l.Nodup) (a:∀b∈l,aR d b):l.length<=(kC d).length:=by
 have:=L.nodup_len l ((List.range (kC d).length).map (fun(b:Nat)=>(b:Int))) c (fun x e=>by
  have:=a x e;unfold aR at this;exact jT.2 ⟨x.toNat,jC.2 (by omega),by omega⟩)
 simpa using this
section
variable {r:RoD} {l:List ShD} {i:Nat}
theorem Uy (t:wK (U.rd r)=true) (u:∀s∈l,s∈qj (U.rd r)) (nd:l.Nodup) (h:i<l.length) {x:List (List Int)×List Int} (w:cK (U.rd r,mq r,aL r,jdm r,()) l i x)
 (g:vp (qg l l.length) (nth l i)=true):(nth x.1 (oj (nth l i)).toNat++[Lf (nth l i)]).Nodup/\(∀b∈nth x.1 (oj (nth l i)).toNat++[Lf (nth l i)],aR (U.rd r) b)/\
  ∀b∈nth x.1 (oj (nth l i)).toNat++[Lf (nth l i)],∃j:Nat,j<i+1/\eR (nth l j)=(b,((oj (nth l i)).toNat:Int),())/\kY (Ty.dflt tSh) (kN tSt (eR (nth l j)) (qg l l.length))=nth l j:=by
 obtain⟨z,A,p⟩:=w;have v:=A5 t (u _ (L.kx h));have d:kY (Ty.dflt tSh) (kN tSt (eR (nth l i)) (qg l l.length))=nth l i:=by
  unfold vp at g;simp only[jP,jS,zr,jr] at g;exact g.1
 have n:((oj (nth l i)).toNat:Int)=oj (nth l i):=(by omega);obtain⟨y,k⟩:=p (oj (nth l i)).toNat;refine⟨?_,fun b c=> ?_,fun b c=> ?_⟩;refine zG.2 ⟨y,by simp,fun a q b c e=> ?_⟩;simp at c;subst c;subst e;obtain⟨_,j,m,f,e2⟩:=k _ q;rw[n] at f;have o:eR (nth l j)=eR (nth l i):=f;rw[o,d] at e2;have:=(List.nodup_iff_pairwise_ne.1 nd);rw[zC] at this;refine this j i (by omega) h m ?_;rw[<-L.wB,<-L.wB h];exact e2.symm;rcases js.1 c with c|c;exact(k b c).1;simp at c;subst c;exact v.2;rcases js.1 c with c|c;obtain⟨_,j,m,f,e2⟩:=k b c;exact⟨j,by omega,f,e2⟩;simp at c;subst c;exact⟨i,by omega,by rw[n];rfl,d⟩
theorem Uz {r:RoD} {x:List (List Int)×List Int} (a:cK r l i x):cK r l (i+1) x:=
 ⟨a.1,by have:=a.2.1;omega,fun p=>⟨(a.2.2 p).1,fun b c=>⟨((a.2.2 p).2 b c).1,by
  obtain⟨j,d,e⟩:=((a.2.2 p).2 b c).2
  exact⟨j,by omega,e⟩⟩⟩⟩
theorem YM (g:wK (U.rd r)=true) (j:∀s∈l,s∈qj (U.rd r)) (nd:l.Nodup) (h:i<l.length) {x:List (List Int)×List Int} (a:cK r l i x):
 cK r l (i+1) (Lk (U.rd r) (mq r) (qg l l.length) x (nth l i)):=by
 unfold Lk;cases k:vp (qg l l.length) (nth l i) with
 |false=>rw[jc (by simp)];exact Uz a
 |true=>
  rw[jd rfl];have d:=Uy g j nd h a k;have m:=A5 g (j _ (L.kx h))
  split
  refine⟨by show(x.1.set _ _).length=_;rw[zN];exact a.1,by have:=a.2.1;show x.2.length<=_;omega,fun p=> ?_⟩;have c:(oj (nth l i)).toNat<x.1.length:=(by rw[a.1];omega);show(nth (x.1.set (oj (nth l i)).toNat (nth x.1 (oj (nth l i)).toNat++[Lf (nth l i)])) p).Nodup/\_;rw[L.ye c]
  split
  rename_i e;subst e;exact⟨d.1,fun b f=>⟨d.2.1 b f,d.2.2 b f⟩⟩;exact(Uz a).2.2 p;refine⟨a.1,?_,(Uz a).2.2⟩;have:=a.2.1;show(x.2++[y9 (nth l i)]).length<=_;rw[jJ];simp;omega
end
theorem Pw {l:List (List Int)} (h:ja3 l) (p:Nat):nth l p=[]:=by
 by_cases a:p<l.length;exact h _ (L.kx a);unfold nth;rw[zc,List.getElem?_eq_none (by omega)];rfl
theorem UA {r:RoD} {l:List ShD} (a:(aL r).length=(kE (kG (U.rd r))).length) (c:ja3 (aL r)) (d:jdm r=U.noI):cK r l 0 (vC r l 0):=by
 refine⟨a,?_,fun p=> ?_⟩;show(jdm r).length<=0;rw[d];exact jj 0;have e:nth (vC r l 0).1 p=[]:=Pw c p;rw[e];exact⟨List.nodup_nil,fun b f=>by cases f⟩
theorem jbO (m:List ((Int×Int×Unit)×ShD)) (s:ShD):vp m s= !(!decide (kY (Ty.dflt tSh) (kN tSt (eR s) m)=s)||decide (Yi s≠1)):=by
 unfold vp;by_cases h:Yi s=1<;>simp[h]
section
variable {r:RoD} {l:List ShD} {i:Nat}
theorem Px (h:i<l.length) (a:vp (qg l l.length) (nth l i)=false):vC r l (i+1)=vC r l i:=by
 rw[sH h];unfold Lk;rw[a,jc (by simp)]
theorem UB (h:i<l.length) (a:vp (qg l l.length) (nth l i)=true) (b:Ou (U.rd r) (mq r) (oj (nth l i)) (nth (vC r l i).1 (oj (nth l i)).toNat++[Lf (nth l i)])=true):
 vC r l (i+1)=((vC r l i).1.set (oj (nth l i)).toNat (nth (vC r l i).1 (oj (nth l i)).toNat++[Lf (nth l i)]),(vC r l i).2):=by
 rw[sH h];unfold Lk;rw[a,jd rfl,jd b]
theorem YN (h:i<l.length) (a:vp (qg l l.length) (nth l i)=true) (b:Ou (U.rd r) (mq r) (oj (nth l i)) (nth (vC r l i).1 (oj (nth l i)).toNat++[Lf (nth l i)])=false):
 vC r l (i+1)=((vC r l i).1,(vC r l i).2++[y9 (nth l i)]):=by
 rw[sH h];unfold Lk;rw[a,jd rfl,b,jc (by simp)]
end
theorem Ao:uw:=by
 unfold uw jhC jfw jd9 jd6 jd3 jhB jgp jed Prod.q4;rintro⟨b,⟨⟩⟩ J;obtain⟨⟨hk,N⟩,⟨O,B⟩,C⟩:Yl (vF b):=J;have F:=(yC hk).1;have u:=F.2.2;have v:(qj (U.rd (vF b))).length<=30:=(ym u).2.2.2.2.1;have H:b.2.2.2.2.2.2.2.1.length<=30:=v;have M:(qq (U.rd (vF b))).length<=30:=jD (jae _) v;have g:∀s∈qq (U.rd (vF b)),s∈qj (U.rd (vF b)):=fun s D=>fY.1 D
 have w:=eg (U.rd (vF b));have K:(kC (U.rd (vF b))).length<=4:=(ym u).1;refine⟨by show b.2.2.2.2.2.2.2.1.length<=100000;omega,fun _ _ _ _=>tZ,jdz hk,fun _=>⟨⟨0,⟨⟨rfl,tZ⟩,rfl,tZ⟩,jv _⟩,fun x I=>⟨fun h=> ?_,fun h _=>⟨⟨0,⟨⟨rfl,tZ⟩,rfl,rfl,tZ⟩,jv _,UA (r:=vF b) O B C⟩,fun y n=>⟨fun t=> ?_,fun t=> ?_⟩⟩⟩⟩⟩;have h:(x:Int)<(qq (U.rd (vF b))).length:=ja h;have D:=Dm (l:=qq (U.rd (vF b))) (i:=x) (by omega);exact⟨by omega,h,iZ6,x+1,⟨⟨by simp,tZ⟩,D.symm,tZ⟩,by show x+1<=(qq (U.rd (vF b))).length;omega,by show(qq (U.rd (vF b))).length-(x+1)<(qq (U.rd (vF b))).length-x;omega⟩;have I:x<=(qq (U.rd (vF b))).length:=I;have h:¬(x:Int)<(qq (U.rd (vF b))).length:=je h;have E:x=(qq (U.rd (vF b))).length:=(by omega);have t:(y:Int)<(qq (U.rd (vF b))).length:=ja t;have a:y<(qq (U.rd (vF b))).length:=(by omega);obtain⟨_,e⟩:y<=(qq (U.rd (vF b))).length/\cK (vF b) (qq (U.rd (vF b))) y (vC (vF b) (qq (U.rd (vF b))) y):=n;have c:=YM (r:=vF b) u g w a e;rw[<-sH a] at c;have up:y+1<=(qq (U.rd (vF b))).length:=a;have A:(qq (U.rd (vF b))).length-(y+1)<(qq (U.rd (vF b))).length-y:=(by omega);have q:=A5 u (g _ (L.kx a));have o:=jbO (qg (qq (U.rd (vF b))) (qq (U.rd (vF b))).length) (nth (qq (U.rd (vF b))) y);subst E;refine⟨by omega,t,fun p=> ?_,fun p=> ?_⟩;have f:vp (qg (qq (U.rd (vF b))) (qq (U.rd (vF b))).length) (nth (qq (U.rd (vF b))) y)=false:=by
  rw[o];have p:(!decide (kY (Ty.dflt tSh) (kN tSt (eR (nth (qq (U.rd (vF b))) y)) (qg (qq (U.rd (vF b))) (qq (U.rd (vF b))).length))=nth (qq (U.rd (vF b))) y)||decide (Yi (nth (qq (U.rd (vF b))) y)≠1))=true:=p;rw[p];rfl
 have d:=Px (r:=vF b) a f;exact⟨iZ6,y+1,⟨⟨by simp,tZ⟩,jN (·.2) d.symm,jN (·.1) d.symm,tZ⟩,⟨up,c⟩,A⟩;have f:vp (qg (qq (U.rd (vF b))) (qq (U.rd (vF b))).length) (nth (qq (U.rd (vF b))) y)=true:=by
  rw[o];have p:(!decide (kY (Ty.dflt tSh) (kN tSt (eR (nth (qq (U.rd (vF b))) y)) (qg (qq (U.rd (vF b))) (qq (U.rd (vF b))).length))=nth (qq (U.rd (vF b))) y)||decide (Yi (nth (qq (U.rd (vF b))) y)≠1))=false:=p;rw[p];rfl
 have j:=Uy (r:=vF b) u g w a e f;have z:=jc5 j.1 j.2.1;have G:(nth (vC (vF b) (qq (U.rd (vF b))) y).1 (oj (nth (qq (U.rd (vF b))) y)).toNat).length<=4:=by
  rw[jJ] at z;omega
 have k:0<=oj (nth (qq (U.rd (vF b))) y):=q.1.1;have m:oj (nth (qq (U.rd (vF b))) y)<((vC (vF b) (qq (U.rd (vF b))) y).1.length:Int):=(by rw[e.1];exact q.1.2);have P:=e.2.1;refine⟨k,m,k,m,k,m,rfl,rfl,?_,rfl,⟨F,N⟩,q.1,⟨jD z (by omega),j.2.1⟩,fun n=> ?_,fun n=> ?_⟩;show((nth (vC (vF b) (qq (U.rd (vF b))) y).1 (oj (nth (qq (U.rd (vF b))) y)).toNat).length+1)*8<=140737488355328;omega;have d:=UB (r:=vF b) a f n;exact⟨k,m,iZ6,y+1,⟨⟨by simp,tZ⟩,jN (·.2) d.symm,jN (·.1) d.symm,tZ⟩,⟨up,c⟩,A⟩;have d:=YN (r:=vF b) a f n;refine⟨?_,iZ6,y+1,⟨⟨by simp,tZ⟩,jN (·.1) d.symm,⟨rfl,rfl,rfl,rfl,rfl,rfl,rfl,rfl,tZ,tZ,tZ,tZ⟩,jN (·.2) d.symm,tZ⟩,⟨up,c⟩,A⟩;show((vC (vF b) (qq (U.rd (vF b))) y).2.length+1)*8<=140737488355328;omega;have t:¬(y:Int)<(qq (U.rd (vF b))).length:=je t;have n:=n.1;have n:y<=(qq (U.rd (vF b))).length:=n;have a:y=(qq (U.rd (vF b))).length:=(by omega);subst a;exact⟨rfl,rfl⟩
theorem Ez:y7 PR 110 Ey:=W3 Tryz.sortI 3 (qL Tryz.func110 (c:=wt Tryz.f110) (by kernel_rfl) (by kernel_rfl))
theorem ux:y7 PR 75 uu:=xr uv Ao Tryz.func75 (kcC M5 (kcC Dh kcN)) (koC sw (koC aV (koC Ez koN)))
end Go.X
namespace Go.X
open U
open Go.Proofs
namespace U
def iF (l:List Int) (n:Nat):Int:=(l.take n).foldl (fun s p=>bor s (1*2^p.toNat)) 0
def PZ (l:List Int):Int:=iF l l.length
def vq (d:DyD) (n:Nat):List Int:=((kC d).take n).map (fun b=>PZ (cI (kG d) (y8 b)))
def jbj (d:DyD):List (List Int):=List.replicate (kE (kG d)).length noI
def LG (d:DyD):RoD:=(d,vq d (kC d).length,jbj d,noI,())
def So (d:DyD):RoD:=(d,vq d (kC d).length,(aS (LG d)).1,(aS (LG d)).2,())
def tD (d:DyD):Option RoD:=if k8 d=0 then some (So d) else none
end U
def Kk:qi:=⟨[.val tDy,.nil true],[.cl (.dat (.ptr tRo)),.cl (.dat .int)],fun d=>[(qj d.1).length<=100000],fun d=>((tD d.1,k8 d.1,()),())⟩
def UC:Ann:=fun r=>match r with
 |8=>some fun σ=>{X:=Nat,sl:=fun i=>[(39,.dat .int (i:Int))],ob:=fun i=>[(27,some (.box 127 false (((bx σ 27).set 8 (.own (ox 27 8) .int)).set 10 (.own (ox 27 10) .int)))),(ox 27 10,some (.row 3 .int false .yes U.noI)),(ox 27 8,some (.row 3 .int false .yes (vq (gb tDy σ 2) i)))],inv:=fun i=>i<=(kC (gb tDy σ 2)).length,mu:=fun i=>(kC (gb tDy σ 2)).length-i}
 |13=>some fun σ=>{X:=Nat,sl:=fun i=>[(53,.dat .int (i:Int)),(12,.dat .int (iF (gd (.slice .int) σ 51) i))],ob:=fun _=>[],inv:=fun i=>i<=(gd (.slice .int) σ 51).length,mu:=fun i=>(gd (.slice .int) σ 51).length-i}
 |3000005=>some fun _=>{X:=Unit,sl:=fun _=>[],ob:=fun _=>[],inv:=fun _=>True,mu:=fun _=>0}
 |_=>none
abbrev jee (d:DyD×Unit×Unit)(x:Nat):=(cI d.1.1 (nth d.1.2.2.1 (x:Int).toNat).1)
abbrev jhD (d:DyD×Unit×Unit):=(d.1.1.1=d.1.1.1/\d.1.1.2.1=d.1.1.2.1/\d.1.1.2.2.1=d.1.1.2.2.1/\d.1.2.1=d.1.2.1/\d.1.2.2.1=d.1.2.2.1/\d.1.2.2.2.1=d.1.2.2.2.1/\d.1.q4.1=d.1.q4.1/\d.1.q4.2.1=d.1.q4.2.1/\True/\True/\True/\True)
abbrev jfx (d:DyD×Unit×Unit):=(d.1.1.2.1.length:Int)
abbrev jhE (d:DyD×Unit×Unit)(x:Nat):=(vF (d.1.1.1,d.1.1.2.1,d.1.1.2.2.1,d.1.2.1,d.1.2.2.1,d.1.2.2.2.1,d.1.q4.1,d.1.q4.2.1,vq d.1 x,List.replicate (jfx d).toNat [],U.noI,()))
abbrev jeB (d:DyD×Unit×Unit)(x:Nat):=(AO (d.1.1.1,d.1.1.2.1,d.1.1.2.2.1,d.1.2.1,d.1.2.2.1,d.1.2.2.2.1,d.1.q4.1,d.1.q4.2.1,vq d.1 x,List.replicate (jfx d).toNat [],U.noI,()) (aS (jhE d x)))
def Kl:Prop:=∀(d:DyD×Unit×Unit),(qj d.1).length<=100000->(qj d.1).length<=100000/\(decide (k8 d.1≠0)=true->(none,k8 d.1,())=(tD d.1,k8 d.1,())/\()=())/\(decide (k8 d.1≠0)=false->0<=(jfx d)/\(jfx d)=(jfx d)/\(jfx d).toNat*24<=140737488355328/\((!true)=true->(!true)=true/\(!true)=true/\False)/\((!true)=false->(!true)=false/\(!true)=false/\(!true)=false/\(!true)=false/\(false=true->(none,(1:Int),())=(tD d.1,k8 d.1,())/\()=())/\(qF->d.1.2.2.1.length<4611686018427387904->(∃(x:Nat),((0=(x:Int)/\True)/\(jhD d)/\U.noI=[]/\vq d.1 x=[]/\True)/\x<=(kC d.1).length)/\∀(x:Nat),x<=(kC d.1).length->(decide ((x:Int)<d.1.2.2.1.length)=true->0<=(x:Int)/\(x:Int)<d.1.2.2.1.length/\((jee d x).length<4611686018427387904->(∃(a:Nat),((0=(a:Int)/\0=iF (jee d x) a/\True)/\True)/\a<=(jee d x).length)/\∀(a:Nat),a<=(jee d x).length->(decide ((a:Int)<(jee d x).length)=true->0<=(a:Int)/\(a:Int)<(jee d x).length/\0<=nth (jee d x) (a:Int).toNat/\nth (jee d x) (a:Int).toNat<=64/\kK ((1:Int)*2^(nth (jee d x) (a:Int).toNat).toNat)/\kK ((a:Int)+1)/\∃(b:Nat),(((a:Int)+1=(b:Int)/\bor (iF (jee d x) a) ((1:Int)*2^(nth (jee d x) (a:Int).toNat).toNat)=iF (jee d x) b/\True)/\True)/\b<=(jee d x).length/\(jee d x).length-b<(jee d x).length-a)/\(decide ((a:Int)<(jee d x).length)=false->((vq d.1 x).length+[iF (jee d x) a].length)*8<=140737488355328/\kK ((x:Int)+1)/\∃(b:Nat),(((x:Int)+1=(b:Int)/\True)/\U.noI=U.noI/\(jhD d)/\vq d.1 x++[iF (jee d x) a]=vq d.1 b/\True)/\b<=(kC d.1).length/\(kC d.1).length-b<(kC d.1).length-x)))/\(decide ((x:Int)<d.1.2.2.1.length)=false->Yl (jhE d x)/\(some ((((jeB d x).1,(jeB d x).2.1,(jeB d x).2.2.1,()),(jeB d x).2.2.2.1,(jeB d x).q4.1,(jeB d x).q4.2.1,(jeB d x).q4.2.2.1,(jeB d x).q4.2.2.2.1,()),(jeB d x).q4.q4.1,(jeB d x).q4.q4.2.1,(jeB d x).q4.q4.2.2.1,()),(0:Int),())=(tD d.1,k8 d.1,())/\()=()))))
theorem uy {l:List Int} {i:Nat} (h:i<l.length):iF l (i+1)=bor (iF l i) (1*2^(nth l i).toNat):=by
 unfold iF;rw[L.kQ h,jL];rfl
theorem UD {d:DyD} {i:Nat} (h:i<(kC d).length):vq d (i+1)=vq d i++[PZ (cI (kG d) (y8 (nth (kC d) i)))]:=by
 unfold vq;rw[L.kQ h,zi];rfl
theorem Xs (d:DyD) (i:Nat):(vq d i).length<=i:=by
 unfold vq;rw[zf,jX];omega
theorem UE {c:CrD} (h:kV c=true) {j:JbD} {p:Int} (a:p∈cI c j):0<=p/\p<8:=by
 have d:=(wX h).2.2.1;unfold cI at a
 split at a
 unfold bY at a;obtain⟨n,b,rfl⟩:=jT.1 a;have:=jC.1 (jO.1 b).1;omega;cases a
theorem jaf {c:CrD} (h:kV c=true) (j:JbD):(cI c j).length<=8:=by
 have a:=(wX h).2.2.1;unfold cI
 split
 unfold bY;rw[zf];exact jD (kc _ _) (by simpa using a);exact jv _
theorem UF {d:DyD} (h:k8 d=0):Yl (LG d):=by
 refine⟨⟨h,?_⟩,⟨?_,fun x a=> ?_⟩,rfl⟩;show(vq d (kC d).length).length=(kC d).length;unfold vq;simp;show(jbj d).length=(kE (kG d)).length;unfold jbj;simp;have a:x∈jbj d:=a;unfold jbj at a;exact(List.mem_replicate.1 a).2
theorem Nd:Kl:=by
 unfold Kl jeB jhE jfx jhD jee Prod.q4;rintro⟨d,⟨⟩,⟨⟩⟩ j;refine⟨j,fun h=>⟨?_,rfl⟩,fun h=>⟨jZ _,rfl,?_,fun c=>(by cases c),fun _=>⟨rfl,rfl,rfl,rfl,fun c=>(by cases c),fun _=> ?_⟩⟩⟩;have h:k8 d≠0:=ja h;show(none,k8 d,())=(tD d,k8 d,());unfold tD;rw[jc h];have hk:k8 d=0:=jQ.1 (je h);have e:=(wX (yC hk).1.1).2.2.1;have e:d.1.2.1.length<=8:=e;show((d.1.2.1.length:Int)).toNat*24<=140737488355328;omega;have hk:k8 d=0:=jQ.1 (je h);clear j h;have f:=(yC hk).1;have r:=f.2.2;have g:(kC d).length<=4:=(ym r).1;have n:d.2.2.1.length<=4:=g;refine fun _=>⟨⟨0,⟨⟨rfl,tZ⟩,⟨rfl,rfl,rfl,rfl,rfl,rfl,rfl,rfl,tZ,tZ,tZ,tZ⟩,rfl,rfl,tZ⟩,jv _⟩,fun x o=>⟨fun h=>⟨by omega,ja h,fun _=>⟨⟨0,⟨⟨rfl,rfl,tZ⟩,tZ⟩,jv _⟩,fun y p=>⟨fun a=> ?_,fun a=> ?_⟩⟩⟩,fun h=> ?_⟩⟩
 have a:(y:Int)<(cI (kG d) (nth d.2.2.1 (x:Int).toNat).1).length:=ja a;have b:y<(cI (kG d) (nth d.2.2.1 (x:Int).toNat).1).length:=(by omega);have s:=UE f.1 (L.kx b);have k:=uy b;have e:=jaf f.1 (nth d.2.2.1 (x:Int).toNat).1;have q:BT.q9 ((2:Int)^(nth (cI (kG d) (nth d.2.2.1 (x:Int).toNat).1) y).toNat):=BT.na (by omega);unfold BT.q9 at q;exact⟨by omega,a,s.1,by show nth (cI (kG d) (nth d.2.2.1 (x:Int).toNat).1) y<=64;omega,by show kK (1*2^(nth (cI (kG d) (nth d.2.2.1 (x:Int).toNat).1) y).toNat);rw[Dj];exact iZ6,iZ6,y+1,⟨⟨by simp,k.symm,tZ⟩,tZ⟩,by show y+1<=(cI (kG d) (nth d.2.2.1 (x:Int).toNat).1).length;omega,by show(cI (kG d) (nth d.2.2.1 (x:Int).toNat).1).length-(y+1)<(cI (kG d) (nth d.2.2.1 (x:Int).toNat).1).length-y;omega⟩;have h:(x:Int)<(kC d).length:=ja h;have k:=UD (d:=d) (i:=x) (by omega);have j:=Xs d x;have p:y<=(cI (kG d) (nth d.2.2.1 (x:Int).toNat).1).length:=p;have a:¬(y:Int)<(cI (kG d) (nth d.2.2.1 (x:Int).toNat).1).length:=je a;have m:y=(cI (kG d) (nth d.2.2.1 (x:Int).toNat).1).length:=(by omega);subst m;refine⟨?_,iZ6,x+1,⟨⟨by simp,tZ⟩,rfl,⟨rfl,rfl,rfl,rfl,rfl,rfl,rfl,rfl,tZ,tZ,tZ,tZ⟩,k.symm,tZ⟩,by show x+1<=(kC d).length;omega,by show(kC d).length-(x+1)<(kC d).length-x;omega⟩;show((vq d x).length+1)*8<=140737488355328;omega;have h:¬(x:Int)<(kC d).length:=je h;have o:x<=(kC d).length:=o;have l:x=(kC d).length:=(by omega);subst l;refine⟨UF hk,?_⟩;refine⟨?_,rfl⟩;show(some (So d),(0:Int),())=(tD d,k8 d,());unfold tD;rw[jd hk,hk]
theorem xt:y7 PR 47 Kk:=xr UC Nd Tryz.func47 (kcC F5 (kcC Xh kcN)) (koC ux koN)
namespace U
def gA (d:DyD) (n:Nat):List Int:=(List.range n).map (fun(b:Nat)=>de (aL (So d)) (b:Int))
def wZ (d:DyD):List Int:=if k8 d=0 then gA d (kC d).length else[]
def P0 (d:DyD) (b:Nat):Bool:=DW d (b:Int) (de (aL (So d)) (b:Int))
def y6 (d:DyD) (n:Nat):List Int:=((List.range n).filter (P0 d)).map (fun(b:Nat)=>(b:Int))
def km (d:DyD):List Int:=if k8 d=0 then y6 d (kC d).length else[]
def Ll (d:DyD) (p:Int):Bool:=kl p 0 (((kE (kG d)).length:Int)-1)
def V6 (d:DyD) (b:Int):Bool:=kl b 0 (((kC d).length:Int)-1)
end U
def Rc:wi:=⟨[.val tDy],[.slice .int,.int],false,fun d=>[(qj d.1).length<=100000],fun d=>(wZ d.1,k8 d.1,())⟩
def Re:Ann:=fun r=>match r with
 |6=>some fun σ=>{X:=Nat,sl:=fun i=>[(19,.dat .int (i:Int)),(6,.own 6 .int)],ob:=fun i=>[(6,some (.row 3 .int false .yes (gA (gb tDy σ 1) i)))],inv:=fun i=>i<=(kC (gb tDy σ 1)).length,mu:=fun i=>(kC (gb tDy σ 1)).length-i}
 |_=>none
def Rf:Prop:=∀(d:DyD×Unit),(qj d.1).length<=100000->(qj d.1).length<=100000/\(decide (k8 d.1≠0)=true->([],k8 d.1,())=(wZ d.1,k8 d.1,()))/\(decide (k8 d.1≠0)=false->d.1.2.2.1.length<4611686018427387904->(∃(x:Nat),((0=(x:Int)/\True/\True)/\gA d.1 x=[]/\True)/\x<=(kC d.1).length)/\∀(x:Nat),x<=(kC d.1).length->(decide ((x:Int)<d.1.2.2.1.length)=true->(tD d.1).isSome=true/\(aL (U.ro (tD d.1))).length<=60/\((gA d.1 x).length+[de (aL (U.ro (tD d.1))) (x:Int)].length)*8<=140737488355328/\kK ((x:Int)+1)/\∃(a:Nat),(((x:Int)+1=(a:Int)/\True/\True)/\gA d.1 x++[de (aL (U.ro (tD d.1))) (x:Int)]=gA d.1 a/\True)/\a<=(kC d.1).length/\(kC d.1).length-a<(kC d.1).length-x)/\(decide ((x:Int)<d.1.2.2.1.length)=false->(gA d.1 x,(0:Int),())=(wZ d.1,k8 d.1,())))
def Nf:wi:=⟨[.val tDy],[.slice .int,.int],false,fun d=>[(qj d.1).length<=100000],fun d=>(km d.1,k8 d.1,())⟩
def Ng:Ann:=fun r=>match r with
 |6=>some fun σ=>{X:=Nat,sl:=fun i=>[(19,.dat .int (i:Int)),(6,.own 6 .int)],ob:=fun i=>[(6,some (.row 3 .int false .yes (y6 (gb tDy σ 1) i)))],inv:=fun i=>i<=(kC (gb tDy σ 1)).length,mu:=fun i=>(kC (gb tDy σ 1)).length-i}
 |_=>none
def Nh:Prop:=∀(d:DyD×Unit),(qj d.1).length<=100000->(qj d.1).length<=100000/\(decide (k8 d.1≠0)=true->([],k8 d.1,())=(km d.1,k8 d.1,()))/\(decide (k8 d.1≠0)=false->d.1.2.2.1.length<4611686018427387904->(∃(x:Nat),((0=(x:Int)/\True/\True)/\y6 d.1 x=[]/\True)/\x<=(kC d.1).length)/\∀(x:Nat),x<=(kC d.1).length->(decide ((x:Int)<d.1.2.2.1.length)=true->(tD d.1).isSome=true/\(aL (U.ro (tD d.1))).length<=60/\(tD d.1).isSome=true/\aR (U.rd (U.ro (tD d.1))) (x:Int)/\(DW (U.rd (U.ro (tD d.1))) (x:Int) (de (aL (U.ro (tD d.1))) (x:Int))=true->((y6 d.1 x).length+[(x:Int)].length)*8<=140737488355328/\kK ((x:Int)+1)/\∃(a:Nat),(((x:Int)+1=(a:Int)/\True/\True)/\y6 d.1 x++[(x:Int)]=y6 d.1 a/\True)/\a<=(kC d.1).length/\(kC d.1).length-a<(kC d.1).length-x)/\(DW (U.rd (U.ro (tD d.1))) (x:Int) (de (aL (U.ro (tD d.1))) (x:Int))=false->kK ((x:Int)+1)/\∃(a:Nat),((True/\(x:Int)+1=(a:Int)/\True)/\y6 d.1 x=y6 d.1 a/\True)/\a<=(kC d.1).length/\(kC d.1).length-a<(kC d.1).length-x))/\(decide ((x:Int)<d.1.2.2.1.length)=false->(y6 d.1 x,(0:Int),())=(km d.1,k8 d.1,())))
theorem Ni {r:RoD} {l:List ShD} (d:wK (U.rd r)=true) (e:∀s∈l,s∈qj (U.rd r)) (nd:l.Nodup) (a:(aL r).length=(kE (kG (U.rd r))).length) (b:ja3 (aL r)) (c:jdm r=U.noI):
 ∀i,i<=l.length->cK r l i (vC r l i)
 |0,_=>UA a b c
 |i+1,hi=>by
  rw[sH hi]
  exact YM d e nd hi (Ni d e nd a b c i (by omega))
structure jag (d:DyD):Prop where
 may:PY (So d)
 len:(aL (So d)).length=(kE (kG d)).length
 row:∀p,(nth (aL (So d)) p).Nodup/\∀b∈nth (aL (So d)) p,aR d b
theorem UG {d:DyD} (h:k8 d=0):jag d:=by
 obtain⟨⟨_,i⟩,⟨j,c⟩,e⟩:=UF h;have f:=(yC h).1;have a:=Ni (r:=LG d) (l:=qq d) f.2.2 (fun s k=>fY.1 k) (eg d) j c e _ (jj _);refine⟨⟨f,i⟩,a.1,fun p=> ?_⟩;have:=a.2.2 p;exact⟨this.1,fun b g=>(this.2 b g).1⟩
theorem jag.len60 {d:DyD} (h:jag d):(aL (So d)).length<=60:=by
 have a:=(wX h.may.1.1).2.2.1;have a:(kE (kG d)).length<=8:=a;rw[h.len];omega
theorem YO {d:DyD} (h:k8 d=0):tD d=some (So d):=jd h
theorem Rg (d:DyD) (n:Nat):gA d (n+1)=gA d n++[de (aL (So d)) (n:Int)]:=by
 unfold gA;rw[za,zi];rfl
theorem UH:Rf:=by
 rintro⟨d,⟨⟩⟩ j;refine⟨j,fun h=> ?_,fun h _=>⟨⟨0,⟨⟨rfl,tZ,tZ⟩,rfl,tZ⟩,jv _⟩,fun x g=>⟨fun a=> ?_,fun a=> ?_⟩⟩⟩;have h:k8 d≠0:=ja h;show([],k8 d,())=(wZ d,k8 d,());unfold wZ;rw[jc h];have hk:k8 d=0:=jQ.1 (je h);have f:=UG hk;have i:(kC d).length<=4:=(ym f.may.1.2.2).1;have a:(x:Int)<(kC d).length:=ja a;have k:=Rg d x;have e:(gA d x).length=x:=(by unfold gA;simp);have b:=YO hk;refine⟨by show(tD d).isSome=true;rw[b];rfl,by show(aL (U.ro (tD d))).length<=60;rw[b];exact f.len60,?_,iZ6,x+1,⟨⟨by simp,tZ,tZ⟩,?_,tZ⟩,by show x+1<=(kC d).length;omega,by show(kC d).length-(x+1)<(kC d).length-x;omega⟩;show((gA d x).length+1)*8<=_;omega;show gA d x++[de (aL (U.ro (tD d))) (x:Int)]=gA d (x+1);rw[b,k];rfl;have hk:k8 d=0:=jQ.1 (je h);have g:x<=(kC d).length:=g;have a:¬(x:Int)<(kC d).length:=je a;have c:x=(kC d).length:=(by omega);subst c;show(gA d _,(0:Int),())=(wZ d,k8 d,());unfold wZ;rw[jd hk,hk]
theorem F7:wq PR 20 Rc:=vN Re UH Tryz.func20 (kcC iz kcN) (koC xt koN)
theorem Rh (d:DyD) (n:Nat):y6 d (n+1)=y6 d n++(if P0 d n=true then[(n:Int)] else[]):=by
 unfold y6;rw[L.cL,zi];by_cases h:P0 d n=true;rw[jd h,jd h];rfl;rw[jc h,jc h];rfl
theorem Ri:Nh:=by
 rintro⟨d,⟨⟩⟩ p;refine⟨p,fun h=> ?_,fun h _=>⟨⟨0,⟨⟨rfl,tZ,tZ⟩,rfl,tZ⟩,jv _⟩,fun x m=>⟨fun b=> ?_,fun b=> ?_⟩⟩⟩;have h:k8 d≠0:=ja h;show([],k8 d,())=(km d,k8 d,());unfold km;rw[jc h];have hk:k8 d=0:=jQ.1 (je h);have l:=UG hk;have o:(kC d).length<=4:=(ym l.may.1.2.2).1;have b:(x:Int)<(kC d).length:=ja b;have e:=Rh d x;have k:(y6 d x).length<=x:=by
  unfold y6;rw[zf];exact jD (kc _ _) (by simp)
 have c:=YO hk;have i:(tD d).isSome=true:=(by rw[c];rfl);have e2:(aL (U.ro (tD d))).length<=60:=(by rw[c];exact l.len60);have n:aR (U.rd (U.ro (tD d))) (x:Int):=(by rw[c];exact⟨by omega,b⟩);have j:DW (U.rd (U.ro (tD d))) (x:Int) (de (aL (U.ro (tD d))) (x:Int))=P0 d x:=(by rw[c];rfl);have up:x+1<=(kC d).length:=(by omega);have g:(kC d).length-(x+1)<(kC d).length-x:=(by omega);refine⟨i,e2,i,n,fun a=> ?_,fun a=> ?_⟩;have a:P0 d x=true:=(by rw[<-j];exact a);refine⟨?_,iZ6,x+1,⟨⟨by simp,tZ,tZ⟩,?_,tZ⟩,up,g⟩;show((y6 d x).length+1)*8<=_;omega;rw[jd a] at e;exact e.symm;have a:P0 d x=false:=(by rw[<-j];exact a);refine⟨iZ6,x+1,⟨⟨tZ,by simp,tZ⟩,?_,tZ⟩,up,g⟩;rw[jc (by rw[a];simp),j9] at e;exact e.symm;have hk:k8 d=0:=jQ.1 (je h);have m:x<=(kC d).length:=m;have b:¬(x:Int)<(kC d).length:=je b;have f:x=(kC d).length:=(by omega);subst f;show(y6 d _,(0:Int),())=(km d,k8 d,());unfold km;rw[jd hk,hk]
theorem Dn:wq PR 21 Nf:=vN Ng Ri Tryz.func21 (kcC iz (kcC An kcN)) (koC xt koN)
theorem pE {l:List Int} (h:∀p∈l,0<=p/\p<8):∀n,n<=l.length->BT.q9 (iF l n)/\∀q,BT.has (iF l n) q=true->q<8
 |0,_=>⟨BT.D0,fun q a=>by rw[show iF l 0=0 from rfl,BT.tA] at a;cases a⟩
 |n+1,d=>by
  have b:=pE h n (by omega)
  have e:=h _ (L.kx (l:=l) (i:=n) (by omega))
  have c:BT.q9 ((2:Int)^(nth l n).toNat):=BT.na (by omega)
  rw[uy (by omega),Dj]
  refine⟨BT.bor_set b.1 c,fun q a=> ?_⟩
  rw[BT.has_bor b.1 c,zy,BT.Bf,jr] at a
  rcases a with a|a
  exact b.2 q a
  omega
end Go.X
namespace Go.X
open U
open Go.Proofs
end Go.X
namespace Go.X
open U
open Go.Proofs
end Go.X
