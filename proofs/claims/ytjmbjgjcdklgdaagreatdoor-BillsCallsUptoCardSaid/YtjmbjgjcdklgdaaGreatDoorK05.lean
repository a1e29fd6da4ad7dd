/-
  Part 5 of the road: a checked reading of bodies, and what the functions on it do (T L BT BS NL DF RC FX A1 P1 A2 P2 A4 P4 A5 P5 A3 P6 CM MP O1 B1 P7 IS B2 P8 B3 P9 DI B4 P10 B5 P11 B6 P12 P13 B7 P14 B8 P15 C1).
-/
import Derived.Test.YtjmbjgjcdklgdaaGreatDoorK04
import Derived.Test.YtjmbjgjcdklgdaaGreatDoorProg
import Derived.KernelRfl
import Derived.Shelf.SlSortCmp.WholeK
import Derived.Shelf.Sort.Plain
namespace Go.X
open U
open Go.Proofs
abbrev bT:=true
abbrev bF:=false
abbrev vO:Value:=.int .i64 0
abbrev qy0:Ty:=.ptr (.uint .u8)
abbrev qy1:Ty:=.st [.int,.int]
abbrev qy2:Ty:=.ptr (.uint .u64)
abbrev qy3:Ty:=.slice (.slice .int)
abbrev qy4:Ty:=.st [.int,.int,.int]
abbrev qy5:Ty:=.st [.int,.int,.bool]
abbrev qy6:Ty:=.slice qy1
abbrev qy7:Ty:=.slice qy4
abbrev qy8:Ty:=.slice qy5
abbrev qy9:Ty:=.st [.int,.int,.bool,.uint .u8]
abbrev qy10:Ty:=.map .int qy4
abbrev qy11:Ty:=.slice qy6
abbrev qy12:Ty:=.st [.int,.int,.int,.int,.int]
abbrev qy13:Ty:=.st [.int,.int,.int,.int,.int,.int]
abbrev qy14:Ty:=.slice qy12
abbrev qy15:Ty:=.slice qy13
abbrev qy16:Ty:=.st [.slice .int,.int,.int,.slice .int,.bool,.int]
abbrev qy17:Ty:=.map qy1 qy12
abbrev qy18:Ty:=.st [qy13,.int,.int,.int]
abbrev qy19:Ty:=.slice qy16
abbrev qy20:Ty:=.slice qy18
abbrev qy21:Ty:=.st [.int,.int,.int,.int,.int,.int,.int,.int,.slice .int,qy6]
abbrev qy22:Ty:=.st [.int,qy19,qy8]
abbrev qy23:Ty:=.st [qy22,qy13,qy5]
abbrev qy24:Ty:=.ptr qy23
abbrev qy25:Ty:=.st [qy18,qy21,.int,.int,.slice .int,.int,.int,.bool,.int]
abbrev qy26:Ty:=.ptr qy25
abbrev qy27:Ty:=.map .int qy26
abbrev qy28:Ty:=.st [qy22,qy11,qy20,.int,.int,qy14]
abbrev qy29:Ty:=.st [qy28,.slice .int,qy3,.slice .int]
abbrev qy30:Ty:=.ptr qy29
abbrev qy31:Ty:=.st [qy28,.slice .int,.slice .int,qy21,qy7]
abbrev qy32:Ty:=.st [qy31,qy27]
def rr (i:Nat)(t:Ty)(n:Nat)(a:Bool)(f:List (Nat×Nat))(s:Bool)(e b:Nat)(z:List Value)(c m:Bool)(k:Nat)(q:Bool):TI:=⟨i,t,n,a,f,s,e,b,z,c,m,k,q,false,false,false⟩
def rf (i:Nat):TI:=⟨i,.unit,1,false,[],false,0,8,[.nilFunc],false,false,0,false,false,false,true⟩
def rq (i:Nat):TI:=⟨i,.unit,1,false,[],false,0,8,[.pointer none],false,false,0,false,false,true,false⟩
def ti:List TI:=[
 rf 1,
 rr 2 .int 1 bF [] bF 0 8 [vO] bF bF 0 bT,
 rr 3 .int 1 bF [] bF 0 8 [vO] bF bF 0 bT,
 rr 4 .bool 1 bF [] bF 0 1 [.bool false] bT bF 0 bF,
 rr 5 (.uint .u8) 1 bF [] bF 0 1 [.int .u8 0] bF bF 0 bF,
 rr 6 (.uint .u8) 1 bF [] bF 0 1 [.int .u8 0] bF bF 0 bF,
 rr 7 qy9 4 bT [(0,2),(1,3),(2,4),(3,6)] bF 0 24 [vO,vO,.bool false,.int .u8 0] bT bF 0 bT,
 rr 8 qy9 4 bT [(0,2),(1,3),(2,4),(3,6)] bF 0 24 [vO,vO,.bool false,.int .u8 0] bT bF 0 bT,
 rr 12 (.uint .u64) 1 bF [] bF 0 8 [.int .u64 0] bF bF 0 bF,
 rq 15,
 rq 16,
 rq 17,
 rr 18 .unit 1 bT [(0,17)] bF 0 8 [.pointer none] bF bF 0 bF,
 rr 19 .unit 1 bT [(0,17)] bF 0 8 [.pointer none] bF bF 0 bF,
 rr 21 (.uint .i32) 1 bF [] bF 0 4 [.int .i32 0] bF bF 0 bF,
 rr 22 qy19 1 bF [] bT 138 24 [.slice none 0 0] bF bF 0 bF,
 rr 23 qy8 1 bF [] bT 140 24 [.slice none 0 0] bF bF 0 bF,
 rr 24 qy22 3 bT [(0,3),(1,22),(2,23)] bF 0 56 [vO,.slice none 0 0,.slice none 0 0] bF bF 0 bF,
 rr 25 qy22 3 bT [(0,3),(1,22),(2,23)] bF 0 56 [vO,.slice none 0 0,.slice none 0 0] bF bF 0 bF,
 rr 26 qy11 1 bF [] bT 109 24 [.slice none 0 0] bF bF 0 bF,
 rr 27 qy20 1 bF [] bT 62 24 [.slice none 0 0] bF bF 0 bF,
 rr 28 qy14 1 bF [] bT 75 24 [.slice none 0 0] bF bF 0 bF,
 rr 29 qy28 8 bT [(0,25),(3,26),(4,27),(5,3),(6,3),(7,28)] bF 0 144 [vO,.slice none 0 0,.slice none 0 0,.slice none 0 0,.slice none 0 0,vO,vO,.slice none 0 0] bF bF 0 bF,
 rr 30 qy28 8 bT [(0,25),(3,26),(4,27),(5,3),(6,3),(7,28)] bF 0 144 [vO,.slice none 0 0,.slice none 0 0,.slice none 0 0,.slice none 0 0,vO,vO,.slice none 0 0] bF bF 0 bF,
 rr 31 (.slice .int) 1 bF [] bT 3 24 [.slice none 0 0] bF bF 0 bF,
 rr 32 qy6 1 bF [] bT 96 24 [.slice none 0 0] bF bF 0 bF,
 rr 33 qy21 10 bT [(0,3),(1,3),(2,3),(3,3),(4,3),(5,3),(6,3),(7,3),(8,31),(9,32)] bF 0 112 [vO,vO,vO,vO,vO,vO,vO,vO,.slice none 0 0,.slice none 0 0] bF bF 0 bF,
 rr 34 qy21 10 bT [(0,3),(1,3),(2,3),(3,3),(4,3),(5,3),(6,3),(7,3),(8,31),(9,32)] bF 0 112 [vO,vO,vO,vO,vO,vO,vO,vO,.slice none 0 0,.slice none 0 0] bF bF 0 bF,
 rr 35 qy7 1 bF [] bT 39 24 [.slice none 0 0] bF bF 0 bF,
 rr 36 qy31 21 bT [(0,30),(8,31),(9,31),(10,34),(20,35)] bF 0 328 [vO,.slice none 0 0,.slice none 0 0,.slice none 0 0,.slice none 0 0,vO,vO,.slice none 0 0,.slice none 0 0,.slice none 0 0,vO,vO,vO,vO,vO,vO,vO,vO,.slice none 0 0,.slice none 0 0,.slice none 0 0] bF bF 0 bF,
 rr 37 qy31 21 bT [(0,30),(8,31),(9,31),(10,34),(20,35)] bF 0 328 [vO,.slice none 0 0,.slice none 0 0,.slice none 0 0,.slice none 0 0,vO,vO,.slice none 0 0,.slice none 0 0,.slice none 0 0,vO,vO,vO,vO,vO,vO,vO,vO,.slice none 0 0,.slice none 0 0,.slice none 0 0] bF bF 0 bF,
 rr 38 qy4 3 bT [(0,3),(1,3),(2,3)] bF 0 24 [vO,vO,vO] bT bF 0 bT,
 rr 39 qy4 3 bT [(0,3),(1,3),(2,3)] bF 0 24 [vO,vO,vO] bT bF 0 bT,
 rf 40,
 rf 41,
 rf 42,
 rr 43 .int 1 bF [] bF 0 8 [vO] bF bF 0 bT,
 rf 44,
 rr 45 qy15 1 bF [] bT 51 24 [.slice none 0 0] bF bF 0 bF,
 rf 47,
 rf 49,
 rr 50 qy13 6 bT [(0,3),(1,3),(2,3),(3,3),(4,3),(5,3)] bF 0 48 [vO,vO,vO,vO,vO,vO] bT bF 0 bT,
 rr 51 qy13 6 bT [(0,3),(1,3),(2,3),(3,3),(4,3),(5,3)] bF 0 48 [vO,vO,vO,vO,vO,vO] bT bF 0 bT,
 rf 53,
 rf 54,
 rf 55,
 rr 56 qy4 3 bT [(0,3),(1,3),(2,3)] bF 0 24 [vO,vO,vO] bT bF 0 bT,
 rr 57 qy4 3 bT [(0,3),(1,3),(2,3)] bF 0 24 [vO,vO,vO] bT bF 0 bT,
 rf 58,
 rr 59 qy13 6 bT [(0,3),(1,3),(2,3),(3,3),(4,3),(5,3)] bF 0 48 [vO,vO,vO,vO,vO,vO] bT bF 0 bT,
 rr 60 qy13 6 bT [(0,3),(1,3),(2,3),(3,3),(4,3),(5,3)] bF 0 48 [vO,vO,vO,vO,vO,vO] bT bF 0 bT,
 rr 61 qy18 9 bT [(0,60),(6,3),(7,3),(8,3)] bF 0 72 [vO,vO,vO,vO,vO,vO,vO,vO,vO] bT bF 0 bT,
 rr 62 qy18 9 bT [(0,60),(6,3),(7,3),(8,3)] bF 0 72 [vO,vO,vO,vO,vO,vO,vO,vO,vO] bT bF 0 bT,
 rf 64,
 rf 65,
 rf 66,
 rf 68,
 rf 70,
 rf 71,
 rf 72,
 rf 73,
 rr 74 qy12 5 bT [(0,3),(1,3),(2,3),(3,3),(4,3)] bF 0 40 [vO,vO,vO,vO,vO] bT bF 0 bT,
 rr 75 qy12 5 bT [(0,3),(1,3),(2,3),(3,3),(4,3)] bF 0 40 [vO,vO,vO,vO,vO] bT bF 0 bT,
 rf 76,
 rf 77,
 rf 78,
 rf 79,
 rf 80,
 rf 81,
 rf 82,
 rr 83 qy27 1 bF [] bF 92 8 [.map none] bF bT 3 bF,
 rr 84 qy32 22 bT [(0,37),(21,83)] bF 0 336 [vO,.slice none 0 0,.slice none 0 0,.slice none 0 0,.slice none 0 0,vO,vO,.slice none 0 0,.slice none 0 0,.slice none 0 0,vO,vO,vO,vO,vO,vO,vO,vO,.slice none 0 0,.slice none 0 0,.slice none 0 0,.map none] bF bF 0 bF,
 rr 85 qy32 22 bT [(0,37),(21,83)] bF 0 336 [vO,.slice none 0 0,.slice none 0 0,.slice none 0 0,.slice none 0 0,vO,vO,.slice none 0 0,.slice none 0 0,.slice none 0 0,vO,vO,vO,vO,vO,vO,vO,vO,.slice none 0 0,.slice none 0 0,.slice none 0 0,.map none] bF bF 0 bF,
 rf 87,
 rf 88,
 rf 89,
 rf 90,
 rf 91,
 {rr 92 qy26 1 bF [] bF 0 8 [.pointer none] bF bF 0 bF with pt:=true},
 rf 93,
 rf 94,
 rr 95 qy1 2 bT [(0,3),(1,3)] bF 0 16 [vO,vO] bT bF 0 bT,
 rr 96 qy1 2 bT [(0,3),(1,3)] bF 0 16 [vO,vO] bT bF 0 bT,
 rr 97 qy25 26 bT [(0,62),(9,34),(19,3),(20,3),(21,31),(22,3),(23,3),(24,4),(25,3)] bF 0 256 [vO,vO,vO,vO,vO,vO,vO,vO,vO,vO,vO,vO,vO,vO,vO,vO,vO,.slice none 0 0,.slice none 0 0,vO,vO,.slice none 0 0,vO,vO,.bool false,vO] bF bF 0 bF,
 rr 98 qy25 26 bT [(0,62),(9,34),(19,3),(20,3),(21,31),(22,3),(23,3),(24,4),(25,3)] bF 0 256 [vO,vO,vO,vO,vO,vO,vO,vO,vO,vO,vO,vO,vO,vO,vO,vO,vO,.slice none 0 0,.slice none 0 0,vO,vO,.slice none 0 0,vO,vO,.bool false,vO] bF bF 0 bF,
 rf 99,
 rf 100,
 rf 101,
 {rr 102 qy30 1 bF [] bF 0 8 [.pointer none] bF bF 0 bF with pt:=true},
 rf 104,
 rr 105 (.uint .u64) 1 bF [] bF 0 8 [.int .u64 0] bF bF 0 bF,
 rf 106,
 rf 107,
 rf 108,
 rr 109 qy6 1 bF [] bT 135 24 [.slice none 0 0] bF bF 0 bF,
 rf 110,
 rf 111,
 rf 112,
 rf 113,
 rf 114,
 rf 115,
 rf 116,
 rf 117,
 rf 118,
 rf 119,
 rf 121,
 rf 122,
 rf 123,
 rf 124,
 rr 125 qy3 1 bF [] bT 31 24 [.slice none 0 0] bF bF 0 bF,
 rr 126 qy29 11 bT [(0,30),(8,31),(9,125),(10,31)] bF 0 216 [vO,.slice none 0 0,.slice none 0 0,.slice none 0 0,.slice none 0 0,vO,vO,.slice none 0 0,.slice none 0 0,.slice none 0 0,.slice none 0 0] bF bF 0 bF,
 rr 127 qy29 11 bT [(0,30),(8,31),(9,125),(10,31)] bF 0 216 [vO,.slice none 0 0,.slice none 0 0,.slice none 0 0,.slice none 0 0,vO,vO,.slice none 0 0,.slice none 0 0,.slice none 0 0,.slice none 0 0] bF bF 0 bF,
 rf 128,
 rf 129,
 rf 130,
 rr 131 qy15 1 bF [] bT 60 24 [.slice none 0 0] bF bF 0 bF,
 rf 133,
 rr 134 qy1 2 bT [(0,3),(1,3)] bF 0 16 [vO,vO] bT bF 0 bT,
 rr 135 qy1 2 bT [(0,3),(1,3)] bF 0 16 [vO,vO] bT bF 0 bT,
 rf 136,
 rr 137 qy16 6 bT [(0,31),(1,3),(2,3),(3,31),(4,4),(5,3)] bF 0 80 [.slice none 0 0,vO,vO,.slice none 0 0,.bool false,vO] bF bF 0 bF,
 rr 138 qy16 6 bT [(0,31),(1,3),(2,3),(3,31),(4,4),(5,3)] bF 0 80 [.slice none 0 0,vO,vO,.slice none 0 0,.bool false,vO] bF bF 0 bF,
 rr 139 qy5 3 bT [(0,3),(1,3),(2,4)] bF 0 24 [vO,vO,.bool false] bT bF 0 bT,
 rr 140 qy5 3 bT [(0,3),(1,3),(2,4)] bF 0 24 [vO,vO,.bool false] bT bF 0 bT,
 rf 141,
 rf 142,
 rf 143,
 rf 144,
 rr 145 qy10 1 bF [] bF 39 8 [.map none] bF bT 3 bF,
 rf 147,
 rf 148,
 rf 149,
 rf 150,
 rf 151,
 rf 152,
 rf 153,
 rf 154,
 rf 155,
 {rr 156 qy24 1 bF [] bF 0 8 [.pointer none] bF bF 0 bF with pt:=true},
 rf 158,
 rr 159 (.uint .u64) 1 bF [] bF 0 8 [.int .u64 0] bF bF 0 bF,
 rf 160,
 rr 161 qy17 1 bF [] bF 75 8 [.map none] bF bT 165 bF,
 rf 162,
 rf 163,
 rr 164 qy1 2 bT [(0,3),(1,3)] bF 0 16 [vO,vO] bT bF 0 bT,
 rr 165 qy1 2 bT [(0,3),(1,3)] bF 0 16 [vO,vO] bT bF 0 bT,
 rf 166,
 rf 167,
 rf 168,
 rf 169,
 rf 170,
 rf 171,
 rf 172,
 rr 173 .int 1 bF [] bF 0 8 [vO] bF bF 0 bT,
 rf 175,
 rf 176,
 rf 177,
 rf 178,
 rf 179,
 rr 180 (.uint .u32) 1 bF [] bF 0 4 [.int .u32 0] bF bF 0 bF,
 rf 181,
 rr 182 (.uint .u64) 1 bF [] bF 0 8 [.int .u64 0] bF bF 0 bF,
 rf 183,
 rf 184,
 rf 185,
 rf 186,
 rf 187,
 rf 188,
 rf 189,
 rf 190,
 rf 191,
 rf 192,
 rf 193,
 rf 194,
 rr 195 (.map .int .int) 1 bF [] bF 3 8 [.map none] bF bT 3 bF,
 rr 196 qy23 12 bT [(0,25),(3,60),(9,140)] bF 0 128 [vO,.slice none 0 0,.slice none 0 0,vO,vO,vO,vO,vO,vO,vO,vO,.bool false] bF bF 0 bF,
 rr 197 qy23 12 bT [(0,25),(3,60),(9,140)] bF 0 128 [vO,.slice none 0 0,.slice none 0 0,vO,vO,vO,vO,vO,vO,vO,vO,.bool false] bF bF 0 bF,
 rf 198,
 rf 199,
 rf 200,
 rf 201,
 rf 202,
 rf 203,
 rf 204,
 rf 205,
 rf 206,
 rr 207 (.uint .u64) 1 bF [] bF 0 8 [.int .u64 0] bF bF 0 bF,
 rf 208,
 rf 209,
 rf 210,
 {rr 211 (.ptr .int) 1 bF [] bF 0 8 [.pointer none] bF bF 0 bF with pt:=true},
 rf 212,
 rf 213,
 rf 214,
 rf 215,
 rf 216,
 rf 217,
 rf 218,
 rf 219,
 rf 220,
 rf 221,
 rf 222,
 rf 223,
 rf 224,
 rf 225,
 rf 226,
 rf 227,
 rf 228,
 rf 229,
 rf 230,
 rf 231,
 rf 232,
 rf 233,
 {rr 234 qy2 1 bF [] bF 0 8 [.pointer none] bF bF 0 bF with pt:=true},
 rf 236,
 rf 237,
 rf 238,
 rf 239,
 rf 240,
 rf 241,
 rf 242,
 rf 243,
 rf 244,
 rf 245,
 rf 247,
 rf 248,
 rf 249,
 rf 250,
 rf 251,
 rf 252,
 rf 253,
 rf 255,
 rf 257,
 rf 258,
 rf 259,
 rf 260,
 rf 261,
 rf 262,
 rf 263,
 rf 264,
 rf 265,
 rf 266,
 rr 270 .unit 0 bT [(0,269)] bF 0 0 [] bF bF 0 bF,
 rr 271 .unit 0 bT [(0,269)] bF 0 0 [] bF bF 0 bF,
 rr 272 (.uint .u8) 1 bF [] bF 0 1 [.int .u8 0] bF bF 0 bF,
 rr 273 (.uint .u8) 1 bF [] bF 0 1 [.int .u8 0] bF bF 0 bF,
 rf 274,
 {rr 275 qy0 1 bF [] bF 0 8 [.pointer none] bF bF 0 bF with pt:=true},
 rr 276 (.uint .i32) 1 bF [] bF 0 4 [.int .i32 0] bF bF 0 bF,
 rr 277 (.uint .i32) 1 bF [] bF 0 4 [.int .i32 0] bF bF 0 bF,
 rr 278 .unit 11 bT [(0,12),(1,12),(2,180),(3,272),(4,5),(5,5),(6,273),(7,274),(8,275),(9,276),(10,277)] bF 0 48 [.int .u64 0,.int .u64 0,.int .u32 0,.int .u8 0,.int .u8 0,.int .u8 0,.int .u8 0,.nilFunc,.pointer none,.int .i32 0,.int .i32 0] bF bF 0 bF,
 rr 279 .unit 11 bT [(0,12),(1,12),(2,180),(3,272),(4,5),(5,5),(6,273),(7,274),(8,275),(9,276),(10,277)] bF 0 48 [.int .u64 0,.int .u64 0,.int .u32 0,.int .u8 0,.int .u8 0,.int .u8 0,.int .u8 0,.nilFunc,.pointer none,.int .i32 0,.int .i32 0] bF bF 0 bF,
 rf 280,
 rf 282]
def strs:List Nat:=[9,10,11]
noncomputable abbrev PR:Program:=Tryz.prog
theorem Wg:ti.all (jbT PR)=true:=by kernel_rfl
def Zg (P:Program) (k:Nat):Bool:=match P.underlying k with|some .string=>true|_=>false
theorem Ta {P:Program} {l:List Nat} (a:l.all (Zg P)=true) (T:Nat) (h:gQ l T=true):P.underlying T=some .string:=by
 have:=jY.1 a T ((qJ _ _).1 h);unfold Zg at this
 split at this
 assumption
 cases this
theorem Zh:strs.all (Zg PR)=true:=by kernel_rfl
theorem Oy:∀T,gQ strs T=true->PR.underlying T=some .string:=Ta Zh
theorem mixed:PR.follows .mixedOrders=true:=by kernel_rfl
def jch (n:Nat) (fs:List (Nat×wd)):Ctx:=⟨n,ti,fs,fun _ _ _ _=>none,strs,false⟩
def ctx (n:Nat) (fs:List (Nat×wd)) (os:List (Nat×qb)):Ctx:=⟨n,ti,fs,jcb (jch n fs) os,strs,false⟩
def ig:List (Nat×wd)->Prop
 |[]=>True
 |p::r=>(p.2.own=false->wm PR p.1 p.2)/\ig r
def cj:List (Nat×qb)->Prop
 |[]=>True
 |p::r=>yE PR p.1 p.2/\cj r
theorem dt:∀{l:List (Nat×wd)},ig l->∀f s,kN l f=some s->s.own=false->wm PR f s
 |[],_,f,s,h,_=>by simp[kN] at h
 | (j,x)::r,hk,f,s,h,ho=>by
  simp only[kN] at h
  cases a:Nat.beq j f with
  |true=>rw[a] at h;simp at h;subst h;have:=ja a;subst this;exact hk.1 ho
  |false=>rw[a] at h;exact dt hk.2 f s h ho
theorem ow:∀{l:List (Nat×qb)},cj l->∀f s,kN l f=some s->yE PR f s
 |[],_,f,s,h=>by simp[kN] at h
 | (j,x)::r,hk,f,s,h=>by
  simp only[kN] at h
  cases a:Nat.beq j f with
  |true=>rw[a] at h;simp at h;subst h;have:=ja a;subst this;exact hk.1
  |false=>rw[a] at h;exact ow hk.2 f s h
theorem Tb {n:Nat} {fs:List (Nat×wd)} (h:ig fs):(jch n fs).ok PR:=
 ⟨Oc Wg,dt h,Oy,rfl,fun _ _ _ _ _ a=>by cases a⟩
theorem nz {n:Nat} {fs:List (Nat×wd)} {os:List (Nat×qb)} (h:ig fs) (b:cj os):(ctx n fs os).ok PR:=
 ⟨Oc Wg,dt h,Oy,rfl,fun _ _ _ _ _ a=>PK (Tb h) (ow b) a⟩
def gd (t:Ty) (σ:St) (s:Nat):t.Data:=match σ.get s with
 | .dat a d=>(match wN a t d with|some x=>x|none=>t.dflt)
 |_=>t.dflt
def gr (t:Ty) (σ:St) (o:Nat):List t.Data:=match σ.obj o with
 |some (.row _ a _ _ l)=>(match wN (.slice a) (.slice t) l with|some l'=>l'|none=>[])
 |_=>[]
def gfn (ps rs:List Ty) (σ:St) (s:Nat):(Ty.st ps).Data->(Ty.st rs).Data:=match σ.get s with
 | .fn a b _ F=>if h:a=ps/\b=rs then h.1▸h.2▸F else fun _=>(Ty.st rs).dflt
 |_=>fun _=>(Ty.st rs).dflt
def wq (fn:Func):Code:=match fn.body with|some c=>c|none=> .skip
theorem jcT {f:Nat} {fn:Func} {n:Nat} {fs:List (Nat×wd)} {os:List (Nat×qb)} {s:wd} {A:Ann} (h:jat (ctx n fs os) A fn (wq fn) s) (d:PR.funcs[f]? =some fn) (c:fn.body=some (wq fn)) (a:(fn.name== "runtime.NumGoroutine")=false)
 (e:fn.ntmps=n) (b:Nat.ble s.ps.length n=true) (hk:ig fs) (g:cj os):wm PR f s:=
 jaQ (nz hk g) mixed d c a e (jy b) A h
theorem ja2 {f:Nat} {fn:Func} {n:Nat} {fs:List (Nat×wd)} {os:List (Nat×qb)} {s:qb} {A:Ann} (h:SM (ctx n fs os) A fn (wq fn) s) (e:PR.funcs[f]? =some fn) (d:fn.body=some (wq fn)) (a:(fn.name== "runtime.NumGoroutine")=false)
 (g:fn.ntmps=n) (c:Nat.ble s.ps.length n=true) (b:yN (LG s.ps 0)=true) (hk:ig fs) (i:cj os):yE PR f s:=
 jaT (nz hk i) mixed e d a g (jy c) b A h
abbrev qF:Prop:=false=false
theorem tZ:True:=True.intro
theorem iZ6 {x:Int} (a: -9223372036854775808<=x:=by omega) (b:x<=9223372036854775807:=by omega):kK x:=⟨a,b⟩
theorem kcC {f:Nat} {s:wd} {fs:List (Nat×wd)} (h:wm PR f s) (hk:ig fs):ig ((f,s)::fs):=⟨fun _=>h,hk⟩
theorem kcM (f:Nat) {fs:List (Nat×wd)} (hk:ig fs):ig ((f,spW)::fs):=⟨fun e=>(by cases e),hk⟩
theorem kcN:ig []:=trivial
theorem koC {f:Nat} {s:qb} {fs:List (Nat×qb)} (h:yE PR f s) (hk:cj fs):cj ((f,s)::fs):=⟨h,hk⟩
theorem koN:cj []:=trivial
theorem vd (A:Ann) {f:Nat} {fn:Func} {fs:List (Nat×wd)} {os:List (Nat×qb)} {s:wd} {P:Prop} (h:P) (e:PR.funcs[f]? =some fn) (hk:ig fs) (g:cj os) (d:jat (ctx fn.ntmps fs os) A fn (wq fn) s=P:=by kernel_rfl) (c:fn.body=some (wq fn):=by kernel_rfl) (a:(fn.name== "runtime.NumGoroutine")=false:=by kernel_rfl) (b:Nat.ble s.ps.length fn.ntmps=true:=by kernel_rfl):wm PR f s:=jcT (d.mpr h) e c a rfl b hk g
theorem kZ {f:Nat} {fn:Func} {fs:List (Nat×wd)} {os:List (Nat×qb)} {s:wd} {P:Prop} (h:P) (e:PR.funcs[f]? =some fn) (hk:ig fs) (g:cj os) (d:jat (ctx fn.ntmps fs os) (fun _=>none) fn (wq fn) s=P:=by kernel_rfl) (c:fn.body=some (wq fn):=by kernel_rfl) (a:(fn.name== "runtime.NumGoroutine")=false:=by kernel_rfl) (b:Nat.ble s.ps.length fn.ntmps=true:=by kernel_rfl):wm PR f s:=jcT (d.mpr h) e c a rfl b hk g
theorem ux (A:Ann) {f:Nat} {fn:Func} {fs:List (Nat×wd)} {os:List (Nat×qb)} {s:qb} {P:Prop} (h:P) (g:PR.funcs[f]? =some fn) (hk:ig fs) (i:cj os) (e:SM (ctx fn.ntmps fs os) A fn (wq fn) s=P:=by kernel_rfl) (d:fn.body=some (wq fn):=by kernel_rfl) (a:(fn.name== "runtime.NumGoroutine")=false:=by kernel_rfl) (c:Nat.ble s.ps.length fn.ntmps=true:=by kernel_rfl) (b:yN (LG s.ps 0)=true:=by kernel_rfl):yE PR f s:=ja2 (e.mpr h) g d a rfl c b hk i
theorem uy {f:Nat} {fn:Func} {fs:List (Nat×wd)} {os:List (Nat×qb)} {s:qb} {P:Prop} (h:P) (g:PR.funcs[f]? =some fn) (hk:ig fs) (i:cj os) (e:SM (ctx fn.ntmps fs os) (fun _=>none) fn (wq fn) s=P:=by kernel_rfl) (d:fn.body=some (wq fn):=by kernel_rfl) (a:(fn.name== "runtime.NumGoroutine")=false:=by kernel_rfl) (c:Nat.ble s.ps.length fn.ntmps=true:=by kernel_rfl) (b:yN (LG s.ps 0)=true:=by kernel_rfl):yE PR f s:=ja2 (e.mpr h) g d a rfl c b hk i
def KV (n:Nat) (fs:List (Nat×wd)) (os:List (Nat×qb)) (cs:List (Nat×om)) (vs:List (Nat×GG)):Ctx:=⟨n,ti,fs,jcg (jch n fs) os cs vs,strs,false⟩
def Tc:List (Nat×om)->Prop
 |[]=>True
 |p::r=>IQ PR p.1 p.2/\Tc r
def Td:List (Nat×GG)->Prop
 |[]=>True
 |p::r=>VOK PR p.1 p.2/\Td r
theorem BM:∀{l:List (Nat×om)},Tc l->∀f s,kN l f=some s->IQ PR f s
 |[],_,f,s,h=>by simp[kN] at h
 | (j,x)::r,hk,f,s,h=>by
  simp only[kN] at h
  cases a:Nat.beq j f with
  |true=>rw[a] at h;simp at h;subst h;have:=ja a;subst this;exact hk.1
  |false=>rw[a] at h;exact BM hk.2 f s h
theorem BN:∀{l:List (Nat×GG)},Td l->∀f s,kN l f=some s->VOK PR f s
 |[],_,f,s,h=>by simp[kN] at h
 | (j,x)::r,hk,f,s,h=>by
  simp only[kN] at h
  cases a:Nat.beq j f with
  |true=>rw[a] at h;simp at h;subst h;have:=ja a;subst this;exact hk.1
  |false=>rw[a] at h;exact BN hk.2 f s h
theorem LY {n:Nat} {fs:List (Nat×wd)} {os:List (Nat×qb)} {cs:List (Nat×om)} {vs:List (Nat×GG)} (h:ig fs) (c:cj os) (a:Tc cs) (d:Td vs):(KV n fs os cs vs).ok PR:=
 ⟨Oc Wg,dt h,Oy,rfl,fun _ _ _ _ _ b=>PM (Tb h) (ow c) (BM a) (BN d) b⟩
theorem ja3 {f:Nat} {fn:Func} {n:Nat} {fs:List (Nat×wd)} {os:List (Nat×qb)} {s:om} {A:Ann} (h:S3 (ctx n fs os) A fn (wq fn) s) (d:PR.funcs[f]? =some fn) (c:fn.body=some (wq fn)) (a:(fn.name== "runtime.NumGoroutine")=false)
 (e:fn.ntmps=n) (b:Nat.ble s.ps.length n=true) (hk:ig fs) (g:cj os):IQ PR f s:=
 jaZ (nz hk g) mixed d c a e (jy b) A h
end Go.X
namespace Go.X
open U
namespace L
theorem wG {α:Type} [Inhabited α] {l:List α} {i:Nat} (h:i<l.length):nth l i=l[i]:=by
 unfold nth;simp[h]
theorem wb {α:Type} [Inhabited α] {l:List α} {i:Nat} (h:i<l.length):l.take (i+1)=l.take i++[nth l i]:=by
 rw[wG h];exact List.take_succ_eq_append_getElem h
theorem kx {α:Type} [Inhabited α] {l:List α} {i:Nat} (h:i<l.length):nth l i∈l:=by
 rw[wG h];exact List.getElem_mem h
theorem mem_iff {α:Type} [Inhabited α] {l:List α} {x:α}:x∈l↔∃i,i<l.length/\nth l i=x:=by
 constructor;intro h;obtain⟨i,hi,e⟩:=List.getElem_of_mem h;exact⟨i,hi,by rw[wG hi,e]⟩;rintro⟨i,hi,rfl⟩;exact kx hi
theorem all_false {α:Type} [Inhabited α] {l:List α} {i:Nat} {p:α->Bool} (h:i<l.length) (a:p (nth l i)=false):l.all p=false:=by
 rw[zV];exact⟨nth l i,kx h,by simp[a]⟩
theorem Du {x:Int} (a: -9223372036854775808<=x) (b:x<=9223372036854775807):kK x:=⟨a,b⟩
end L
namespace BT
theorem two_nat (k:Nat):(2:Int)^k=((2^k:Nat):Int):=by simp
theorem div_nat (n k:Nat):(n:Int)/2^k=((n/2^k:Nat):Int):=by simp
theorem pow63 {k:Nat} (h:k<=62):2^k<2^63:=Nat.pow_lt_pow_right (by decide) (by omega)
theorem ofInt_nat {n:Nat} (a:n<2^63):(BitVec.ofInt 64 (n:Int)).toNat=n:=by
 simp only[BitVec.toNat_ofInt];omega
theorem wrap_nat {n:Nat} (h:n<2^63):IntKind.i64.wrap (n:Int)=(n:Int):=by
 unfold IntKind.wrap;simp[IntKind.signed,IntKind.bits];omega
theorem wrapU_nat {n:Nat} (h:n<2^63):IntKind.u64.wrap (n:Int)=(n:Int):=by
 unfold IntKind.wrap;simp[IntKind.signed,IntKind.bits];omega
theorem band_nat {a b:Nat} (c:a<2^63) (d:b<2^63):nL (a:Int) (b:Int)=((a&&&b:Nat):Int):=by
 unfold nL;rw[BitVec.toNat_and,ofInt_nat c,ofInt_nat d];exact wrap_nat (Nat.lt_of_le_of_lt Nat.and_le_left c)
theorem uand_nat {a b:Nat} (c:a<2^63) (d:b<2^63):yq (a:Int) (b:Int)=((a&&&b:Nat):Int):=by
 unfold yq;rw[BitVec.toNat_and,ofInt_nat c,ofInt_nat d];exact wrapU_nat (Nat.lt_of_le_of_lt Nat.and_le_left c)
theorem bor_nat {a b:Nat} (c:a<2^63) (d:b<2^63):bor (a:Int) (b:Int)=((a|||b:Nat):Int):=by
 unfold bor;rw[BitVec.toNat_or,ofInt_nat c,ofInt_nat d,wrap_nat (Nat.or_lt_two_pow c d)]
def qV (s:Int):Prop:=0<=s/\s<2^62
def has (s:Int) (p:Nat):Bool:=s.toNat.testBit p
theorem nat_of {s:Int} (h:qV s):∃n:Nat,s=(n:Int)/\n<2^62:=⟨s.toNat,by unfold qV at h;omega,by unfold qV at h;omega⟩
theorem lt63 {n:Nat} (h:n<2^62):n<2^63:=by omega
theorem has_shr {s:Int} (h:qV s) (p:Nat):decide (nL (s/2^p) 1=1)=has s p:=by
 obtain⟨n,rfl,b⟩:=nat_of h;unfold has;rw[ju,div_nat];have a:n/2^p<2^63:=Nat.lt_of_le_of_lt (Nat.div_le_self _ _) (lt63 b);rw[show(1:Int)=((1:Nat):Int) from rfl,band_nat a (by decide),Nat.and_one_is_mod,Nat.testBit_eq_decide_div_mod_eq];exact decide_eq_decide.2 ⟨fun h=>by omega,fun h=>by omega⟩
theorem has_ushr {s:Int} (h:qV s) (p:Nat):decide (yq (s/2^p) 1=1)=has s p:=by
 obtain⟨n,rfl,b⟩:=nat_of h;unfold has;rw[ju,div_nat];have a:n/2^p<2^63:=Nat.lt_of_le_of_lt (Nat.div_le_self _ _) (lt63 b);rw[show(1:Int)=((1:Nat):Int) from rfl,uand_nat a (by decide),Nat.and_one_is_mod,Nat.testBit_eq_decide_div_mod_eq];exact decide_eq_decide.2 ⟨fun h=>by omega,fun h=>by omega⟩
theorem bit_num {s:Int} (h:qV s) (p:Nat):nL (s/2^p) 1=if has s p=true then 1 else 0:=by
 obtain⟨n,rfl,b⟩:=nat_of h;unfold has;rw[ju,div_nat];have a:n/2^p<2^63:=Nat.lt_of_le_of_lt (Nat.div_le_self _ _) (lt63 b);rw[show(1:Int)=((1:Nat):Int) from rfl,band_nat a (by decide),Nat.and_one_is_mod,Nat.testBit_eq_decide_div_mod_eq]
 split
 rename_i h;have:=jb h;omega;rename_i h;have:¬(n/2^p%2=1):=fun e=>h (jK e);omega
theorem sB (p:Nat):has 0 p=false:=by unfold has;simp
theorem Ax (k p:Nat):has ((2:Int)^k) p=decide (k=p):=by
 unfold has;rw[two_nat,ju,Nat.testBit_two_pow]
theorem has_bor {a b:Int} (c:qV a) (d:qV b) (p:Nat):has (bor a b) p=(has a p||has b p):=by
 obtain⟨n,rfl,f⟩:=nat_of c;obtain⟨m,rfl,e⟩:=nat_of d;unfold has;rw[bor_nat (lt63 f) (lt63 e)];simp only[ju,Nat.testBit_or]
theorem bor_set {a b:Int} (e:qV a) (f:qV b):qV (bor a b):=by
 obtain⟨n,rfl,d⟩:=nat_of e;obtain⟨m,rfl,c⟩:=nat_of f;rw[bor_nat (lt63 d) (lt63 c)];have:n|||m<2^62:=Nat.or_lt_two_pow d c;unfold qV;omega
theorem Dv:qV 0:=by unfold qV;omega
theorem mC {k:Nat} (h:k<=61):qV ((2:Int)^k):=by
 rw[two_nat];have:2^k<2^62:=Nat.pow_lt_pow_right (by decide) (by omega);obtain⟨q,a⟩:∃q,q=2^k:=⟨_,rfl⟩;rw[<-a] at this⊢;unfold qV;omega
theorem ext {a b:Int} (c:qV a) (d:qV b) (h:∀p,has a p=has b p):a=b:=by
 obtain⟨n,rfl,f⟩:=nat_of c;obtain⟨m,rfl,e⟩:=nat_of d;have:n=m:=kg (fun i=>by have:=h i;unfold has at this;simpa using this);rw[this]
theorem has_lt {s:Int} {k:Nat} (c:0<=s) (h:s<2^k) {p:Nat} (b:has s p=true):p<k:=by
 obtain⟨n,rfl⟩:∃n:Nat,s=(n:Int):=⟨s.toNat,by omega⟩;rw[two_nat] at h;unfold has at b;rw[ju] at b;have d:=Nat.ge_two_pow_of_testBit b;rcases Nat.lt_or_ge p k with a|a;exact a;have:=Nat.pow_le_pow_right (n:=2) (by decide) a;omega
theorem lt_of_has {s:Int} {k:Nat} (a:qV s) (h:∀p,has s p=true->p<k):s<2^k:=by
 obtain⟨n,rfl,b⟩:=nat_of a;rw[two_nat];have:n<2^k:=Nat.lt_pow_two_of_testBit n (fun i hi=>by
  cases e:n.testBit i with
  |false=>rfl
  |true=>have:=h i (by unfold has;simpa using e);omega)
 omega
theorem or_two {n p:Nat} (h:n.testBit p=false):n+2^p=n|||2^p:=by
 have f:n=2^(p+1)*(n/2^(p+1))+n%2^(p+1):=(Nat.div_add_mod _ _).symm;have c:n%2^(p+1)<2^p:=by
  have b:n%2^(p+1)<2^(p+1):=Nat.mod_lt _ (Nat.pow_pos (by decide));rcases Nat.lt_or_ge (n%2^(p+1)) (2^p) with a|a
  .exact a
  .exfalso;have:(n%2^(p+1)).testBit p=true:=Nat.testBit_of_two_pow_le_and_two_pow_add_one_gt a b;rw[Nat.testBit_mod_two_pow,h] at this;simp at this
 apply kg;intro i;rw[Nat.testBit_or,Nat.testBit_two_pow];have e:n+2^p=2^(p+1)*(n/2^(p+1))+(2^p+n%2^(p+1)):=(by omega);have g:2^p+n%2^(p+1)<2^(p+1):=zz (Nat.add_lt_add_left c _) (by rw[Nat.pow_succ];omega);rw[e,Nat.testBit_two_pow_mul_add _ g]
 conv=>rhs;rw[f,Nat.testBit_two_pow_mul_add _ (Nat.mod_lt _ (Nat.pow_pos (by decide)))]
 have e2:2^p+n%2^(p+1)=2^p*1+n%2^(p+1):=(by omega);by_cases hi:i<p+1
 .rw[jg hi,jg hi,e2,Nat.testBit_two_pow_mul_add _ c];by_cases d:i<p
  .rw[jg d,zi (by omega),Bool.or_false]
  .have:i=p:=(by omega);subst this;rw[jc d,Nat.sub_self,jK rfl,Bool.or_true];simp
 .rw[jc hi,jc hi,zi (by omega),Bool.or_false]
theorem add_two {s:Int} (b:qV s) {p:Nat} (c:p<=61) (h:has s p=false):s+2^p=bor s (2^p):=by
 obtain⟨n,rfl,a⟩:=nat_of b;rw[two_nat,bor_nat (lt63 a) (pow63 (by omega))];unfold has at h;rw[ju] at h;rw[<-or_two h];omega
def size (s:Int):Int:=(((List.range 62).countP (fun p=>has s p):Nat):Int)
theorem size_zero:size 0=0:=by
 unfold size;have:(List.range 62).countP (fun p=>has 0 p)=0:=zN.2 (fun p _=>by rw[sB];simp);rw[this];rfl
theorem size_le (s:Int):0<=size s/\size s<=62:=by
 have:=List.countP_le_length (l:=List.range 62) (p:=fun p=>has s p);rw[zG] at this;unfold size;omega
theorem has_half {s:Int} (a:qV s) (p:Nat):has (s/2) p=has s (p+1):=by
 obtain⟨n,rfl,b⟩:=nat_of a;unfold has;have:((n:Int)/2).toNat=n/2:=(by omega);rw[this,ju,Nat.testBit_succ]
theorem size_half {s:Int} (d:qV s):size s=s%2+size (s/2):=by
 obtain⟨n,e,i⟩:=nat_of d;have b:has (s/2) 61=false:=by
  rw[has_half d];subst e;unfold has;rw[ju];exact Nat.testBit_lt_two_pow i
 have j:(List.range 62)=0::(List.range 61).map (·+1):=by
  rw[show(62:Nat)=61+1 from rfl,List.range_succ_eq_map]
 have c:(List.range 62)=List.range 61++[61]:=(by rw[show(62:Nat)=61+1 from rfl,zq]);have f:(has s 0=true)↔s%2=1:=by
  subst e;unfold has;rw[ju,Nat.testBit_zero];simp only[js];omega
 have g:(List.range 62).countP (fun p=>has (s/2) p)=(List.range 61).countP (fun p=>has s (p+1)):=by
  rw[c,zR];simp only[kh,List.countP_nil,b];simp only[has_half d];simp
 unfold size;rw[g]
 conv=>lhs;rw[j]
 rw[kh,List.countP_map];have h:((fun p=>has s p)∘fun(x:Nat)=>x+1)=fun p=>has s (p+1):=rfl
 rw[h];by_cases a:has s 0=true
 .rw[jg a];have:=f.1 a;omega
 .rw[jc a];have:¬s%2=1:=fun e=>a (f.2 e);omega
end BT
namespace BT
theorem uor_nat {a b:Nat} (c:a<2^63) (d:b<2^63):uor (a:Int) (b:Int)=((a|||b:Nat):Int):=by
 unfold uor;rw[BitVec.toNat_or,ofInt_nat c,ofInt_nat d,wrapU_nat (Nat.or_lt_two_pow c d)]
theorem has_uor {a b:Int} (c:qV a) (d:qV b) (p:Nat):has (uor a b) p=(has a p||has b p):=by
 obtain⟨n,rfl,f⟩:=nat_of c;obtain⟨m,rfl,e⟩:=nat_of d;unfold has;rw[uor_nat (lt63 f) (lt63 e)];simp only[ju,Nat.testBit_or]
theorem uor_set {a b:Int} (e:qV a) (f:qV b):qV (uor a b):=by
 obtain⟨n,rfl,d⟩:=nat_of e;obtain⟨m,rfl,c⟩:=nat_of f;rw[uor_nat (lt63 d) (lt63 c)];have:n|||m<2^62:=Nat.or_lt_two_pow d c;unfold qV;omega
theorem pred_odd (k:Nat):(2*k+1)&&&(2*k+1-1)=2*k:=by
 apply kg;intro i;rw[Nat.testBit_and,Nat.add_sub_cancel];cases i with
 |zero=>simp
 |succ i=>
  rw[Nat.testBit_succ,Nat.testBit_succ];have:(2*k+1)/2=k:=(by omega);have a:(2*k)/2=k:=(by omega);rw[this,a,Bool.and_self]
theorem pred_even (k:Nat) (_:k≠0):(2*k)&&&(2*k-1)=2*(k&&&(k-1)):=by
 apply kg;intro i;rw[Nat.testBit_and];cases i with
 |zero=>simp
 |succ i=>
  rw[Nat.testBit_succ,Nat.testBit_succ,Nat.testBit_succ];have:(2*k)/2=k:=(by omega);have a:(2*k-1)/2=k-1:=(by omega);have b:(2*(k&&&(k-1)))/2=k&&&(k-1):=(by omega);rw[this,a,b,Nat.testBit_and]
theorem size_dbl {k:Nat} (h:k<2^61):size ((2*k:Nat):Int)=size (k:Int):=by
 rw[size_half (s:=((2*k:Nat):Int)) (by unfold qV;omega)];have a:((2*k:Nat):Int)%2=0:=(by omega);have b:((2*k:Nat):Int)/2=(k:Int):=(by omega);rw[a,b];omega
theorem size_odd {k:Nat} (h:k<2^61):size ((2*k+1:Nat):Int)=1+size (k:Int):=by
 rw[size_half (s:=((2*k+1:Nat):Int)) (by unfold qV;omega)];have a:((2*k+1:Nat):Int)%2=1:=(by omega);have b:((2*k+1:Nat):Int)/2=(k:Int):=(by omega);rw[a,b]
theorem pred_nat:∀(n:Nat),n≠0->n<2^62->(n&&&(n-1))<n/\size ((n&&&(n-1):Nat):Int)+1=size (n:Int)
 |n,b,d=>by
  rcases Nat.mod_two_eq_zero_or_one n with e|e
  obtain⟨k,rfl⟩:∃k,n=2*k:=⟨n/2,by omega⟩
  have hk:k≠0:=by omega
  obtain⟨c,a⟩:=pred_nat k hk (by omega)
  rw[pred_even k hk]
  exact⟨by omega,by rw[size_dbl (by omega),size_dbl (by omega)];exact a⟩
  obtain⟨k,rfl⟩:∃k,n=2*k+1:=⟨n/2,by omega⟩
  rw[pred_odd]
  exact⟨by omega,by rw[size_dbl (by omega),size_odd (by omega)];omega⟩
termination_by n=>n
theorem pred {s:Int} (d:qV s) (h:s≠0):qV (yq s (s-1))/\yq s (s-1)<s/\size (yq s (s-1))+1=size s:=by
 obtain⟨n,rfl,a⟩:=nat_of d;have b:n≠0:=(by omega);have e:(n:Int)-1=((n-1:Nat):Int):=(by omega);rw[e,uand_nat (lt63 a) (by omega)];obtain⟨f,c⟩:=pred_nat n b a;exact⟨by unfold qV;omega,by omega,c⟩
end BT
namespace U
def dU {α:Type} (eq:α->α->Bool) (p:α):List α->List α
 |[]=>[]
 |y::r=>if eq y p=true then dU eq y r else y::dU eq y r
def aw {α:Type} (eq:α->α->Bool):List α->List α
 |[]=>[]
 |x::r=>x::dU eq x r
def jaf {α:Type} (eq:α->α->Bool) (l:List α) (i:Nat):Prop:=1<=i/\i<=l.length/\aw eq (l.take i)=l.take i
def nD {α:Type} (eq:α->α->Bool) (l:List α) (n:Nat):Int:=((aw eq (l.take n)).length:Int)
def Nz {α:Type} (eq:α->α->Bool) (l:List α) (i k:Nat) (r:List α):Prop:=1<=k/\i+k<=l.length/\r.length=l.length/\aw eq (l.take (i+k))=r.take (aw eq (l.take (i+k))).length/\r.drop (i+k-1)=l.drop (i+k-1)/\(aw eq (l.take (i+k))).length<i+k
end U
namespace L
theorem nodup_len {α:Type}:∀(a b:List α),a.Nodup->(∀x∈a,x∈b)->a.length<=b.length
 |[],_,_,_=>by simp
 |x::a,b,hn,h=>by
  obtain⟨e,f,rfl⟩:=List.append_of_mem (h x (by simp))
  rw[zp] at hn
  have:=nodup_len a (e++f) hn.2 (fun y d=>by
   have:=h y (by simp[d])
   rw[jr,jj] at this
   rw[jr]
   rcases this with c|c|c
   exact .inl c
   subst c;exact absurd d hn.1
   exact .inr c)
  simp at this⊢
  omega
theorem nK {α:Type} [DecidableEq α]:∀{a b:List α},a.Nodup->b.Nodup->(∀n,n∈a↔n∈b)->a.Perm b
 |[],b,_,_,h=>by
  have:b=[]:=by
   cases b with
   |nil=>rfl
   |cons x r=>exact absurd ((h x).2 (by simp)) (by simp)
  rw[this]
 |x::r,b,ha,hb,h=>by
  have i:x∈b:=(h x).1 (by simp);have f:=List.perm_cons_erase i;refine(List.Perm.cons x (nK (zp.1 ha).2 (hb.erase x) (fun n=> ?_))).trans f.symm;rw[hb.mem_erase_iff];constructor;intro c;exact⟨fun e=>by subst e;exact(zp.1 ha).1 c,(h n).1 (jo _ c)⟩;rintro⟨d,c⟩;rcases jj.1 ((h n).2 c) with e|g;exact absurd e d;exact g
theorem nodup_inj {α β:Type} {f:α->β}:∀{l:List α},(l.map f).Nodup->∀{x y:α},x∈l->y∈l->f x=f y->x=y
 |[],_,_,_,h,_,_=>by simp at h
 |a::r,hn,x,y,hx,hy,e=>by
  simp only[zu,zp] at hn
  rcases jj.1 hx with rfl|c
  rcases jj.1 hy with rfl|b
  rfl
  exact absurd (jT.2 ⟨y,b,e.symm⟩) hn.1
  rcases jj.1 hy with rfl|b
  exact absurd (jT.2 ⟨x,c,e⟩) hn.1
  exact nodup_inj hn.2 c b e
theorem nth_take {α:Type} [Inhabited α] {l:List α} {i n:Nat} (h:i<n):nth (l.take n) i=nth l i:=by
 unfold nth;rw[j8,j8,jP h]
theorem nth_drop {α:Type} [Inhabited α] {l r:List α} {a n:Nat} (h:l.drop a=r.drop a) (b:a<=n):nth l n=nth r n:=by
 have e:=jS (fun x=>x[n-a]?) h;simp only[zc] at e;rw[show a+(n-a)=n by omega] at e;unfold nth;rw[j8,j8,e]
theorem nth_map {α β:Type} [Inhabited α] [Inhabited β] {f:α->β} {l:List α} {i:Nat} (h:i<l.length):nth (l.map f) i=f (nth l i):=by
 rw[wG (by simpa using h),wG h];simp
theorem aO {α:Type} [Inhabited α] {l:List α} {i j:Nat} {x:α} (h:i<l.length):nth (l.set i x) j=if i=j then x else nth l j:=by
 unfold nth;rw[j8,j8,List.getElem?_set]
 split
 rename_i e;subst e;simp[h];rfl
theorem nth_rep {α:Type} [Inhabited α] {n i:Nat} {x:α} (h:i<n):nth (List.replicate n x) i=x:=by
 unfold nth;rw[j8,List.getElem?_replicate,jg h];rfl
theorem ext_nth {α:Type} [Inhabited α] {a b:List α} (h:a.length=b.length) (d:∀i,i<a.length->nth a i=nth b i):a=b:=by
 apply List.ext_getElem h;intro i c e;rw[<-wG c,<-wG e];exact d i c
theorem range_map_nth {α:Type} [Inhabited α] (l:List α):(List.range l.length).map (nth l)=l:=by
 apply ext_nth;simp;intro i hi;rw[nth_map (by simpa using hi)];congr 1;rw[wG (by simpa using hi)];simp
section
variable {α:Type} [Inhabited α] {eq:α->α->Bool}
theorem compT_snoc (y:α):∀(r:List α) (p:α),dU eq p (r++[y])=dU eq p r++(if eq y (nth (p::r) r.length)=true then[] else[y])
 |[],p=>rfl
 |z::r,p=>by
  have e:nth (p::z::r) (z::r).length=nth (z::r) r.length:=rfl
  rw[e]
  simp only[jV,dU]
  split
  exact compT_snoc y r z
  rw[compT_snoc y r z];rfl
theorem comp_snoc (y:α) {l:List α} (h:l≠[]):aw eq (l++[y])=aw eq l++(if eq y (nth l (l.length-1))=true then[] else[y]):=by
 cases l with
 |nil=>exact absurd rfl h
 |cons x r=>
  show x::dU eq x (r++[y])=_;rw[compT_snoc];have:(x::r).length-1=r.length:=(by simp);rw[this];rfl
theorem comp_take {l:List α} {n:Nat} (b:1<=n) (a:n<l.length):aw eq (l.take (n+1))=aw eq (l.take n)++(if eq (nth l n) (nth l (n-1))=true then[] else[nth l n]):=by
 rw[L.wb a,comp_snoc];have e:(l.take n).length-1=n-1:=(by rw[j6];omega);rw[e,nth_take (by omega)];intro e;have:=jS List.length e;rw[j6,zo] at this;omega
end
theorem comp_short {α:Type} {eq:α->α->Bool} {l:List α} (h:l.length<2):aw eq l=l:=by
 match l,h with
 |[],_=>rfl
 |[x],_=>rfl
theorem comp_len {α:Type} {eq:α->α->Bool} (l:List α):(aw eq l).length<=l.length:=by
 have:∀(r:List α) (p:α),(dU eq p r).length<=r.length:=by
  intro r
  induction r with
  |nil=>intro p;simp[dU]
  |cons y r a=>
   intro p;unfold dU
   split
   have:=a y;simp;omega;have:=a y;simp;omega
 cases l with
 |nil=>simp[aw]
 |cons x r=>have:=this r x;simp[aw];omega
theorem inv9_next {α:Type} [Inhabited α] {eq:α->α->Bool} {l r:List α} {i k:Nat} (hi:1<=i) (h:Nz eq l i k r) (g:i+k<l.length):
 (eq (nth r (i+k)) (nth r (i+k-1))=false->nD eq l (i+(k+1))=nD eq l (i+k)+1/\Nz eq l i (k+1) (r.set (nD eq l (i+k)).toNat (nth r (i+k))))/\
 (eq (nth r (i+k)) (nth r (i+k-1))=true->nD eq l (i+(k+1))=nD eq l (i+k)/\Nz eq l i (k+1) r):=by
 obtain⟨s,t,j,d,e,p⟩:=h;have o:nth r (i+k)=nth l (i+k):=nth_drop e (by omega);have e2:nth r (i+k-1)=nth l (i+k-1):=nth_drop e (by omega);have a:=comp_take (eq:=eq) (l:=l) (n:=i+k) (by omega) g;rw[show i+k+1=i+(k+1) by omega] at a;have m:r.drop (i+k)=l.drop (i+k):=by
  have:=jS (List.drop 1) e;rw[List.drop_drop,List.drop_drop,show i+k-1+1=i+k by omega] at this;exact this
 rw[o,e2];obtain⟨c,b⟩:∃c,c=aw eq (l.take (i+k)):=⟨_,rfl⟩;rw[<-b] at a d p;have q:(nD eq l (i+k))=(c.length:Int):=(by unfold nD;rw[<-b]);rw[q];refine⟨fun f=> ?_,fun f=> ?_⟩;rw[jc (by rw[f];simp)] at a;refine⟨by unfold nD;rw[a];simp,by omega,by omega,by simpa using j,?_,?_,?_⟩;rw[a];simp only[ju,jJ,jX,zo];rw[List.take_add_one,List.getElem?_set_self (by omega)];rw[List.take_set_of_le (by omega),<-d];rfl;rw[show i+(k+1)-1=i+k by omega];simp only[ju];rw[List.drop_set_of_lt (by omega)];exact m;rw[a];simp;omega;rw[jg f,j7] at a;refine⟨by unfold nD;rw[a],by omega,by omega,j,?_,?_,?_⟩;rw[a];exact d;rw[show i+(k+1)-1=i+k by omega];exact m;rw[a];omega
theorem compT_sub {α:Type} {eq:α->α->Bool}:∀(r:List α) (p x:α),x∈dU eq p r->x∈r
 |[],_,_,h=>by simp[dU] at h
 |y::r,p,x,h=>by
  unfold dU at h
  split at h
  exact jo _ (compT_sub r y x h)
  rcases jj.1 h with rfl|h
  simp
  exact jo _ (compT_sub r y x h)
theorem comp_sub {α:Type} {eq:α->α->Bool} {l:List α} {x:α} (h:x∈aw eq l):x∈l:=by
 cases l with
 |nil=>simp[aw] at h
 |cons y r=>
  unfold aw at h;rcases jj.1 h with rfl|h;simp;exact jo _ (compT_sub r y x h)
theorem compT_mem {α:Type} [DecidableEq α]:∀(r:List α) (p x:α),x∈r->x=p\/x∈dU (fun a b=>decide (a=b)) p r
 |y::r,p,x,h=>by
  unfold dU
  rcases jj.1 h with rfl|h
  by_cases e:x=p
  exact .inl e
  rw[jc (by simpa using e)];right;simp
  rcases compT_mem r y x h with rfl|c
  by_cases e:x=p
  exact .inl e
  rw[jc (by simpa using e)];right;simp
  right
  split
  exact c
  exact jo _ c
theorem comp_mem {α:Type} [DecidableEq α] {l:List α} {x:α}:x∈aw (fun a b=>decide (a=b)) l↔x∈l:=by
 refine⟨comp_sub,fun h=> ?_⟩;cases l with
 |nil=>simp at h
 |cons y r=>
  unfold aw;rcases jj.1 h with rfl|h;simp;rcases compT_mem r y x h with rfl|c;simp;exact jo _ c
theorem comp_asc {α:Type} [DecidableEq α] {lt:α->α->Bool}:∀{l:List α},qR lt l->PN lt l->(aw (fun a b=>decide (a=b)) l).Pairwise (fun a b=>lt a b=true):=by
 have i:∀(r:List α) (p:α),qR lt (p::r)->PN lt (p::r)->(p::dU (fun a b=>decide (a=b)) p r).Pairwise (fun a b=>lt a b=true):=by
  intro r
  induction r with
  |nil=>intro p _ _;exact List.pairwise_singleton _ _
  |cons y r n=>
   intro p f j;have d:=zx.1 j;have k:qR lt (y::r):=f.sub (fun z c=>jo _ c);have hi:=n y k d.2;unfold dU;by_cases e:y=p;rw[jg (by simpa using e)];subst e;exact hi;rw[jc (by simpa using e)];refine zx.2 ⟨fun z c=> ?_,hi⟩;have g:lt p y=true:=by
    cases h:lt p y with
    |true=>rfl
    |false=>exact absurd (f.total p y (by simp) (by simp) h (d.1 y (by simp))).symm e
   rcases jj.1 c with rfl|c;exact g;have m:=compT_sub r y z c;exact f.trans p y z (by simp) (by simp) (by simp[m]) g ((zx.1 hi).1 z c)
 intro l f j;cases l with
 |nil=>exact List.Pairwise.nil
 |cons p r=>exact i r p f j
theorem asc_nodup {α:Type} {lt:α->α->Bool} {l:List α} (hi:∀x,lt x x=false) (h:l.Pairwise (fun a b=>lt a b=true)):l.Nodup:=
 h.imp (fun{a b} h e=>by subst e;rw[hi] at h;cases h)
theorem filter_take {α:Type} [Inhabited α] {p:α->Bool} {l:List α} {i:Nat} (h:i<l.length):(l.take (i+1)).filter p=(l.take i).filter p++(if p (nth l i)=true then[nth l i] else[]):=by
 rw[wb h,List.filter_append];congr 1;by_cases e:p (nth l i)=true<;>simp[e]
theorem cB {p:Nat->Bool} {n:Nat}:(List.range (n+1)).filter p=(List.range n).filter p++(if p n=true then[n] else[]):=by
 rw[zq,List.filter_append];congr 1;by_cases e:p n=true<;>simp[e]
end L
end Go.X
namespace Go.X
open U
abbrev tSp:Ty:= .st [.int,.int]
abbrev tPe:Ty:= .st [.slice .int,.int,.int,.slice .int,.bool,.int]
abbrev tLw:Ty:= .st [.int,.int,.bool]
abbrev tCr:Ty:= .st [.int,.slice tPe,.slice tLw]
abbrev tJb:Ty:= .st [.int,.int,.int,.int,.int,.int]
abbrev tBk:Ty:= .st [tJb,.int,.int,.int]
abbrev tSh:Ty:= .st [.int,.int,.int,.int,.int]
abbrev tDy:Ty:= .st [tCr,.slice (.slice tSp),.slice tBk,.int,.int,.slice tSh]
abbrev SpD:Type:=Int×Int×Unit
abbrev PeD:Type:=List Int×Int×Int×List Int×Bool×Int×Unit
abbrev LwD:Type:=Int×Int×Bool×Unit
abbrev CrD:Type:=Int×List PeD×List LwD×Unit
abbrev JbD:Type:=Int×Int×Int×Int×Int×Int×Unit
abbrev BkD:Type:=JbD×Int×Int×Int×Unit
abbrev ShD:Type:=Int×Int×Int×Int×Int×Unit
abbrev DyD:Type:=CrD×List (List SpD)×List BkD×Int×Int×List ShD×Unit
namespace U
def lo (s:SpD):Int:=s.1
def hi (s:SpD):Int:=s.2.1
def kk (n a b:Int):Bool:=decide (a<=n)&&decide (n<=b)
def lv (p:PeD):List Int:=p.1
def fd (p:PeD):Int:=p.2.1
def cl (p:PeD):Int:=p.2.2.1
def yH (p:PeD):List Int:=p.2.2.2.1
def jbC (p:PeD):Bool:=p.2.2.2.2.1
def fe (p:PeD):Int:=p.2.2.2.2.2.1
def Vy (l:LwD):Int:=l.1
def jay (l:LwD):Int:=l.2.1
def jcB (l:LwD):Bool:=l.2.2.1
def la (c:CrD):Int:=c.1
def kB (c:CrD):List PeD:=c.2.1
def vP (c:CrD):List LwD:=c.2.2.1
def RE (j:JbD):Int:=j.1
def KW (j:JbD):Int:=j.2.1
def Xx (j:JbD):Int:=j.2.2.1
def Xy (j:JbD):Int:=j.2.2.2.1
def iH (j:JbD):Int:=j.2.2.2.2.1
def jaz (j:JbD):Int:=j.2.2.2.2.2.1
def yQ (b:BkD):JbD:=b.1
def jag (b:BkD):Int:=b.2.1
def w8 (b:BkD):Int:=b.2.2.1
def fK (b:BkD):Int:=b.2.2.2.1
def yR (s:ShD):Int:=s.1
def H4 (s:ShD):Int:=s.2.1
def Xz (s:ShD):Int:=s.2.2.1
def KE (s:ShD):Int:=s.2.2.2.1
def nE (s:ShD):Int:=s.2.2.2.2.1
def kE (d:DyD):CrD:=d.1
def wh (d:DyD):List (List SpD):=d.2.1
def kA (d:DyD):List BkD:=d.2.2.1
def Rn (d:DyD):Int:=d.2.2.2.1
def jah (d:DyD):Int:=d.2.2.2.2.1
def qh (d:DyD):List ShD:=d.2.2.2.2.2.1
def fL (L:Int) (p:PeD):Bool:=decide (((lv p).length:Int)=L/\0<=fd p/\fd p<=255/\0<=cl p/\cl p<=255/\(yH p).length<=10/\0<=fe p/\fe p<=1000)&&((lv p).all (fun n=>kk n 0 5)&&(yH p).all (fun n=>kk n 0 99))
def dV (l:LwD):Bool:=kk (Vy l) 1 5&&kk (jay l) 1 8
def kR (c:CrD):Bool:=decide (2<=la c/\la c<=5/\(kB c).length<=8/\(vP c).length=4)&&((kB c).all (fL (la c))&&(vP c).all dV)
def wV (c:CrD) (j:JbD):Bool:=decide (0<=RE j/\RE j<=la c-1/\0<=KW j/\KW j<=la c-1/\RE j≠KW j/\0<=Xx j/\Xx j<=99/\0<=Xy j/\Xy j<=7/\0<=iH j/\iH j<=3/\1<=jaz j/\jaz j<=8)
def qv (c:CrD) (j:JbD):Int:=if kR c=false then 30 else if wV c j=false then 31 else 0
def sn (s:SpD):Bool:=decide (0<=lo s/\lo s<=hi s/\hi s<=300)
def bG (n:Nat) (r:List SpD):Bool:=decide (r.length=n)&&r.all sn
def lS (n:Nat) (b:BkD):Bool:=decide (0<=jag b/\jag b<=(n:Int)-1/\0<=w8 b/\w8 b<fK b/\fK b<=1440)
def lT (nb a:Nat) (s:ShD):Bool:=decide (0<=yR s/\yR s<=99/\0<=H4 s/\H4 s<=9999/\1<=Xz s/\Xz s<=2/\0<=KE s/\KE s<=(nb:Int)-1/\0<=nE s/\nE s<=(a:Int)-1)
def wL (d:DyD):Bool:=decide ((kA d).length<=4/\1<=(wh d).length/\(wh d).length<=5/\0<=Rn d/\Rn d<=300/\0<=jah d/\jah d<=1440/\(qh d).length<=30)&&
 ((wh d).all (bG (wh d).length)&&((kA d).all (lS (wh d).length)&&(qh d).all (lT (kA d).length (kB (kE d)).length)))
def Di (a b:ShD):Bool:=decide (yR a=yR b)&& !decide (a=b)
def Av (l:List ShD) (i:Nat):Bool:=(l.take i).any (Di (nth l i))
def y5 (l:List ShD) (n:Nat):Bool:=(List.range n).any (Av l)
def aD (l:List ShD):Bool:=y5 l l.length
def KF (d:DyD):Bool:=(kA d).all (fun b=>wV (kE d) (yQ b))
def dW (d:DyD):Int:=if kR (kE d)=false then 30 else if KF d=false then 31 else if wL d=false then 50 else if aD (qh d)=true then 51 else 0
def HS (l:List ShD) (i:Nat):Bool:= !((l.take i).any (fun x=>decide (x=nth l i)))
def XA (l:List ShD) (n m:Nat):List ShD:=((List.range n).filter (fun i=>decide (yR (nth l i)=(m:Int))&&HS l i)).map (nth l)
def Vf (l:List ShD) (n:Nat):List ShD:=(List.range n).flatMap (XA l l.length)
def Ew (l:List ShD):List ShD:=Vf l 100
def KG (p:PeD) (a:Int):Bool:=(yH p).any (fun t=>decide (t=a))
def yI (s n:Int):Bool:=decide (nL (s/2^n.toNat) 1=1)
def y6 (c:CrD) (j:JbD) (p:Int):Bool:= !(KG (nth (kB c) p.toNat) (Xx j))&&yI (fd (nth (kB c) p.toNat)) (Xy j)&&yI (cl (nth (kB c) p.toNat)) (iH j)
def bk (d:DyD) (b:Int):BkD:=nth (kA d) b.toNat
def jai (d:DyD) (a b:Int):Int:=hi (nth (nth (wh d) (jag (bk d a)).toNat) (jag (bk d b)).toNat)
def cw (d:DyD) (a b:Int):Bool:=decide (w8 (bk d a)<w8 (bk d b)\/(w8 (bk d a)=w8 (bk d b)/\a<b))
def bH (d:DyD) (a b:Int):Int:=w8 (bk d b)-fK (bk d a)-Rn d-jai d a b
def lU (d:DyD) (a b:Int):Bool:=if cw d b a=true then decide (0<=bH d b a) else decide (0<=bH d a b)
def NA (d:DyD) (l:List Int):Int:=(l.map (fun b=>fK (bk d b)-w8 (bk d b))).foldl (·+·) 0
def jbD (d:DyD) (l:List Int):Bool:=(List.range l.length).all (fun i=>(l.take i).all (fun b=>lU d (nth l i) b))
def f7 (d:DyD) (p:Int) (l:List Int):Bool:=l.all (fun b=>y6 (kE d) (yQ (bk d b)) p)&&(jbD d l&&decide (NA d l<=jah d))
def yO (a b:ShD):Bool:=decide (H4 b<H4 a\/(H4 a=H4 b/\yR b<yR a))
def Aw (l:List ShD) (s:ShD):Bool:=decide (Xz s=1)&& !(l.any (fun t=>decide (KE t=KE s)&&decide (nE t=nE s)&&yO t s))
def jaj (a b:ShD):Bool:=yO b a
def jcC (t:List Int) (p:Int) (n:Nat):List Int:=((List.range n).filter (fun b=>yI (nth t b) p)).map (fun(b:Nat)=>(b:Int))
def on (t:List Int) (p:Int):List Int:=jcC t p t.length
def FQ (d:DyD) (x:List Int×List Int) (s:ShD):List Int×List Int:=
 if f7 d (nE s) (on x.1 (nE s)++[KE s])=true then(x.1.set (KE s).toNat (nth x.1 (KE s).toNat+2^(nE s).toNat),x.2) else(x.1,x.2++[yR s])
def jbE (c:CrD) (t:Int) (d a b:Int):Bool:=(List.range (kB c).length).any (fun i=>yI t (i:Int)&&decide (d<=nth (lv (nth (kB c) i)) a.toNat)&&decide (d<=nth (lv (nth (kB c) i)) b.toNat))
def dX (c:CrD) (j:JbD):LwD:=nth (vP c) (iH j).toNat
end U
inductive Rch (J:Nat->Nat->Bool) (n s:Nat):Nat->Prop where
 |base:Rch J n s s
 |step {a b:Nat}:Rch J n s a->b<n->J a b=true->Rch J n s b
theorem Rch.lt {J:Nat->Nat->Bool} {n s t:Nat} (a:s<n) (h:Rch J n s t):t<n:=by
 cases h with
 |base=>exact a
 |step _ h _=>exact h
theorem Rch.trans {J:Nat->Nat->Bool} {n s t u:Nat} (a:Rch J n s t) (b:Rch J n t u):Rch J n s u:=by
 induction b with
 |base=>exact a
 |step _ c d e=>exact .step e c d
theorem Rch.symm {J:Nat->Nat->Bool} {n s t:Nat} (c:∀a b,J a b=J b a) (f:s<n) (h:Rch J n s t):Rch J n t s:=by
 induction h with
 |base=>exact .base
 |step d i e g=>
  rename_i a b;have:Rch J n b a:= .step .base (d.lt f) (by rw[c];exact e);exact this.trans g
theorem Rch.closed {J:Nat->Nat->Bool} {n s t:Nat} {S:Nat->Prop} (i:s<n) (c:S s) (f:∀a b,a<n->S a->b<n->J a b=true->S b) (h:Rch J n s t):S t:=by
 induction h with
 |base=>exact c
 |step d e g j=>exact f _ _ (d.lt i) j e g
namespace U
def XB (J:Nat->Nat->Bool) (r a:Nat) (out:List Int) (b:Nat):List Int:=if nth out a=(r:Int)/\nth out b<0/\J a b=true then out.set b ((r:Int)+1) else out
def jcD (J:Nat->Nat->Bool) (r a:Nat) (out:List Int) (k:Nat):List Int:=(List.range k).foldl (XB J r a) out
def jcE (J:Nat->Nat->Bool) (n r:Nat) (out:List Int) (k:Nat):List Int:=(List.range k).foldl (fun o a=>jcD J r a o n) out
def vU (n s:Nat):List Int:=(List.replicate n (-1:Int)).set s 0
def xY (J:Nat->Nat->Bool) (n s k:Nat):List Int:=(List.range k).foldl (fun o r=>jcE J n r o n) (vU n s)
def so (J:Nat->Nat->Bool) (q:Nat) (x:List Int×List Int) (b:Nat):List Int×List Int:=if nth x.1 b<0/\J q b=true then(x.1.set b (nth x.1 q+1),x.2++[(b:Int)]) else x
def sq (J:Nat->Nat->Bool) (q:Nat) (x:List Int×List Int) (k:Nat):List Int×List Int:=(List.range k).foldl (so J q) x
def y7 (J:Nat->Nat->Bool) (n:Nat) (x:List Int×List Int):List Int×List Int:=match x.2 with
 |[]=>x
 |q::_=>((sq J q.toNat x n).1,(sq J q.toNat x n).2.drop 1)
def gq (J:Nat->Nat->Bool) (n s:Nat):Nat->List Int×List Int
 |0=>(vU n s,[(s:Int)])
 |k+1=>y7 J n (gq J n s k)
def jbF (J:Nat->Nat->Bool) (n s:Nat):List Int:=(gq J n s (n+1)).1
end U
theorem BO (n s:Nat):(vU n s).length=n:=by unfold vU;simp
theorem BP {n s x:Nat} (a:s<n) (b:x<n):nth (vU n s) x=if s=x then 0 else-1:=by
 unfold vU;rw[L.aO (by simpa using a),L.nth_rep b]
structure RA (J:Nat->Nat->Bool) (n s r a b:Nat) (out:List Int):Prop where
 len:out.length=n
 val:∀x,x<n->nth out x= -1\/(0<=nth out x/\nth out x<=(r:Int)+1)
 top:(a=0/\b=0)->∀x,x<n->nth out x<=(r:Int)
 zero:0<=nth out s
 rch:∀x,x<n->0<=nth out x->Rch J n s x
 lev:∀x,x<n->0<nth out x->∃y,y<n/\nth out y=nth out x-1
 cls:∀x y,x<n->y<n->0<=nth out x->(nth out x<(r:Int)\/(nth out x=(r:Int)/\(x<a\/(x=a/\y<b))))->J x y=true->0<=nth out y
theorem Te {J:Nat->Nat->Bool} {n s r a b:Nat} {out:List Int} (_:s<n) (t:a<n) (u:b<n) (h:RA J n s r a b out):RA J n s r a (b+1) (XB J r a out b):=by
 unfold XB
 split
 rename_i q;obtain⟨c1,c2,v⟩:=q;have p:b<out.length:=(by rw[h.len];exact u);have c:∀j,nth (out.set b ((r:Int)+1)) j=if b=j then(r:Int)+1 else nth out j:=fun j=>L.aO p
 have o:b≠a:=fun e=>by subst e;omega
 refine⟨by simpa using h.len,fun x g=> ?_,fun e=>by omega,?_,fun x g f=> ?_,fun x g f=> ?_,fun x y g k f d l=> ?_⟩;rw[c];split;right;omega;exact h.val x g;rw[c];split;omega;exact h.zero;rw[c] at f
 split at f
 rename_i e;subst e;exact .step (h.rch a t (by omega)) u v;exact h.rch x g f;rw[c] at f⊢
 split at f
 rename_i e;subst e;rw[jg rfl];exact⟨a,t,by rw[c,jc o];omega⟩;rename_i e;rw[jc e];obtain⟨y,k,e2⟩:=h.lev x g f;refine⟨y,k,?_⟩;rw[c,jc (fun e=>by subst e;omega)];exact e2;rw[c] at f d⊢
 split
 omega;rename_i z
 split at f
 rename_i e;rw[jg e] at d;omega;rename_i e;rw[jc e] at d;refine h.cls x y g k f ?_ l;rcases d with d|⟨d,i|⟨i,w⟩⟩;exact .inl d;exact .inr ⟨d,.inl i⟩;exact .inr ⟨d,.inr ⟨i,by omega⟩⟩;rename_i q;refine⟨h.len,h.val,fun e=>by omega,h.zero,h.rch,h.lev,fun x y g k f d l=> ?_⟩;rcases d with d|⟨d,i|⟨i,w⟩⟩;exact h.cls x y g k f (.inl d) l;exact h.cls x y g k f (.inr ⟨d,.inl i⟩) l;by_cases e:y=b;subst e;subst i;rcases Int.lt_or_le (nth out y) 0 with m|m;exact absurd ⟨d,m,l⟩ q;exact m;exact h.cls x y g k f (.inr ⟨d,.inr ⟨i,by omega⟩⟩) l
theorem X0 {J:Nat->Nat->Bool} {n s r a:Nat} {out:List Int} (c:s<n) (b:a<n) (h:RA J n s r a 0 out):∀k,k<=n->RA J n s r a k (jcD J r a out k)
 |0,_=>h
 |k+1,hk=>by
  have:=Te c b (show k<n by omega) (X0 c b h k (by omega))
  unfold jcD at this⊢
  rw[zq,jU];exact this
theorem Zi {J:Nat->Nat->Bool} {n s r a:Nat} {out:List Int} (_:0<n) (h:RA J n s r a n out):RA J n s r (a+1) 0 out:=by
 refine⟨h.len,h.val,fun e=>by omega,h.zero,h.rch,h.lev,fun x y i c d b g=>h.cls x y i c d ?_ g⟩;rcases b with b|⟨b,f|⟨f,j⟩⟩;exact .inl b;by_cases e:x=a;exact .inr ⟨b,.inr ⟨e,c⟩⟩;exact .inr ⟨b,.inl (by omega)⟩;omega
theorem X1 {J:Nat->Nat->Bool} {n s r:Nat} {out:List Int} (a:s<n) (h:RA J n s r 0 0 out):∀k,k<=n->RA J n s r k 0 (jcE J n r out k)
 |0,_=>h
 |k+1,hk=>by
  have:=Zi (by omega) (X0 a (show k<n by omega) (X1 a h k (by omega)) n (jk _))
  unfold jcE at this⊢
  rw[zq,jU];exact this
theorem Zj {J:Nat->Nat->Bool} {n s r:Nat} {out:List Int} (h:RA J n s r n 0 out):RA J n s (r+1) 0 0 out:=by
 refine⟨h.len,fun x a=> ?_,fun _ x a=> ?_,h.zero,h.rch,h.lev,fun x y a i d b g=>h.cls x y a i d ?_ g⟩;rcases h.val x a with e|⟨c,e2⟩;exact .inl e;exact .inr ⟨c,by omega⟩;rcases h.val x a with e|⟨c,e2⟩<;>omega
 rcases b with b|⟨b,f|⟨f,j⟩⟩;by_cases e:nth out x=(r:Int);exact .inr ⟨e,.inl a⟩;exact .inl (by omega);omega;omega
theorem X2 {J:Nat->Nat->Bool} {n s:Nat} (c:s<n):∀k,RA J n s k 0 0 (xY J n s k)
 |0=>by
  have hi:∀x,x<n->nth (xY J n s 0) x=if s=x then 0 else-1:=fun x a=>BP c a
  refine⟨BO n s,fun x a=> ?_,fun _ x a=> ?_,by rw[hi s c,jg rfl];omega,fun x a b=> ?_,fun x a b=> ?_,fun x y a g b f d=> ?_⟩
  rw[hi x a];split<;>simp
  rw[hi x a];split<;>simp
  rw[hi x a] at b
  split at b
  rename_i e;subst e;exact .base
  omega
  rw[hi x a] at b;split at b<;>omega
  omega
 |k+1=>by
  have:=Zj (X1 c (X2 (J:=J) c k) n (jk _))
  unfold xY at this⊢
  rw[zq,jU];exact this
theorem Tf {J:Nat->Nat->Bool} {n s r a b:Nat} {out:List Int} (h:RA J n s r a b out):∀(k:Nat) x,x<n->nth out x=(k:Int)->∀j,j<=k->∃y,y<n/\nth out y=(j:Int)
 |0,x,c,e,j,d=>⟨x,c,by rw[e];omega⟩
 |k+1,x,c,e,j,d=>by
  by_cases f:j=k+1
  exact⟨x,c,by rw[e];omega⟩
  obtain⟨y,g,e2⟩:=h.lev x c (by omega)
  exact Tf h k y g (by rw[e2];omega) j (by omega)
theorem ja4 {J:Nat->Nat->Bool} {n s x:Nat} (o:s<n) (u:x<n):nth (xY J n s n) x<0↔¬Rch J n s x:=by
 have h:=X2 (J:=J) o n;have i:∀y,y<n->nth (xY J n s n) y<(n:Int):=by
  intro y p;have c:=h.top ⟨rfl,rfl⟩ y p;rcases Int.lt_or_le (nth (xY J n s n) y) (n:Int) with l|l;exact l;exfalso;have e:nth (xY J n s n) y=(n:Int):=(by omega);have d:=Tf h n y p e;have:=L.nodup_len ((List.range (n+1)).map (fun(j:Nat)=>(j:Int))) (xY J n s n) (List.Pairwise.map _ (fun a b f=>by intro e2;exact f (by omega)) List.nodup_range) (fun z v=>by
   obtain⟨j,g,rfl⟩:=jT.1 v;obtain⟨w,t,q⟩:=d j (by have:=jC.1 g;omega);rw[<-q];exact L.kx (by rw[h.len];exact t))
  rw[h.len] at this;simp at this;omega
 constructor;intro A k;have:=k.closed (S:=fun y=>0<=nth (xY J n s n) y) o h.zero (fun a b m c r g=>h.cls a b m r c (.inl (i a m)) g);have this:0<=nth (xY J n s n) x:=this;omega;intro k;rcases Int.lt_or_le (nth (xY J n s n) x) 0 with c|c;exact c;exact absurd (h.rch x u c) k
def IX (out:List Int):Nat:=out.countP (fun z=>decide (z<0))
theorem GI:∀{out:List Int} {b:Nat} {v:Int},b<out.length->nth out b<0->0<=v->IX (out.set b v)+1=IX out
 |[],b,v,h,_,_=>by simp at h
 |z::r,0,v,_,a,h2=>by
  have a:z<0:=a
  unfold IX
  rw[List.set_cons_zero,kh,kh,jc (by simpa using h2),jg (by simpa using a)]
 |z::r,b+1,v,h,a,h2=>by
  have:=GI (out:=r) (b:=b) (v:=v) (by simpa using h) a h2
  unfold IX at this⊢
  rw[List.set_cons_succ,kh,kh]
  omega
structure jci (J:Nat->Nat->Bool) (n s:Nat) (ex:Nat->Nat->Prop) (x:List Int×List Int):Prop where
 len:x.1.length=n
 low:∀y,y<n->-1<=nth x.1 y/\nth x.1 y<=(n:Int)*2
 zero:0<=nth x.1 s
 rch:∀y,y<n->0<=nth x.1 y->Rch J n s y
 que:∀q,q∈x.2->0<=q/\q<(n:Int)/\0<=nth x.1 q.toNat
 cls:∀y z,y<n->z<n->0<=nth x.1 y->(y:Int)∉x.2\/ex y z->J y z=true->0<=nth x.1 z
def LZ (n:Nat) (x:List Int×List Int):Prop:=∀y,y<n->nth x.1 y+(IX x.1:Int)<=(n:Int)-1
theorem Fm (J:Nat->Nat->Bool) (q:Nat) (x:List Int×List Int) (k:Nat):sq J q x (k+1)=so J q (sq J q x k) k:=by
 unfold sq;rw[zq,jU];rfl
structure InI (J:Nat->Nat->Bool) (n s q k:Nat) (x0 x:List Int×List Int):Prop where
 i:jci J n s (fun y z=>y=q/\z<k) x
 le:LZ n x
 mu:IX x.1+x.2.length=IX x0.1+x0.2.length
 pre:∃l,x.2=x0.2++l
 keep:∀y,y<n->0<=nth x0.1 y->nth x.1 y=nth x0.1 y
theorem Zk {J:Nat->Nat->Bool} {n s q k:Nat} {x0 x:List Int×List Int} (M:s<n) (p:q<n) (w:0<=nth x0.1 q) (hk:k<n) (h:InI J n s q k x0 x):InI J n s q (k+1) x0 (so J q x k):=by
 have G:nth x.1 q=nth x0.1 q:=h.keep q p w;unfold so
 split
 rename_i t;obtain⟨c1,c2⟩:=t;have m:k<x.1.length:=(by rw[h.i.len];exact hk);have b:∀j,nth (x.1.set k (nth x.1 q+1)) j=if k=j then nth x.1 q+1 else nth x.1 j:=fun j=>L.aO m
 have E:=GI (v:=nth x.1 q+1) m c1 (by omega);have F:=h.le q p;have u:k≠q:=fun e=>by subst e;omega
 obtain⟨l,C⟩:=h.pre;refine⟨⟨by simpa using h.i.len,fun y d=> ?_,?_,fun y d c=> ?_,fun z f=> ?_,fun y z d f c a g=> ?_⟩,fun y d=> ?_,?_,⟨l++[(k:Int)],by simp only[C,jL]⟩,fun y d c=> ?_⟩;simp only;rw[b];split;have:=h.i.low q p;omega;exact h.i.low y d;simp only;rw[b];split;omega;exact h.i.zero;simp only at c⊢;rw[b] at c
 split at c
 rename_i e;subst e;exact .step (h.i.rch q p (by omega)) hk c2;exact h.i.rch y d c;simp only at f⊢;rcases jr.1 f with f|f;obtain⟨H,I,K⟩:=h.i.que z f;refine⟨H,I,?_⟩;rw[b];split;omega;exact K;simp at f;subst f;refine⟨by omega,by omega,?_⟩;rw[ju,b,jg rfl];omega;simp only at c a⊢;rw[b] at c⊢
 split
 omega;rename_i B;by_cases e:k=y;subst e;rcases a with a|⟨a,_⟩;exact absurd (je _ (by simp)) a;exact absurd a u;rw[jc e] at c;refine h.i.cls y z d f c ?_ g;rcases a with a|⟨o,A⟩;exact .inl (fun D=>a (jh _ D));exact .inr ⟨o,by omega⟩;simp only;rw[b];split;omega;have:=h.le y d;omega;have:=h.mu;simp only[jJ,jX,zo];omega;have:=h.keep y d c;simp only;rw[b,jc (fun e=>by subst e;omega)];exact this;rename_i t;refine⟨⟨h.i.len,h.i.low,h.i.zero,h.i.rch,h.i.que,fun y z d f c a g=> ?_⟩,h.le,h.mu,h.pre,h.keep⟩;rcases a with a|⟨o,A⟩;exact h.i.cls y z d f c (.inl a) g;by_cases e:z=k;subst e;subst o;rcases Int.lt_or_le (nth x.1 z) 0 with r|r;exact absurd ⟨r,g⟩ t;exact r;exact h.i.cls y z d f c (.inr ⟨o,by omega⟩) g
theorem Tg {J:Nat->Nat->Bool} {n s q:Nat} {x:List Int×List Int} (e:s<n) (d:q<n) (b:0<=nth x.1 q) (hi:jci J n s (fun _ _=>False) x) (a:LZ n x):∀k,k<=n->InI J n s q k x (sq J q x k)
 |0,_=>⟨⟨hi.len,hi.low,hi.zero,hi.rch,hi.que,fun y z i j f c g=>hi.cls y z i j f (by rcases c with h|⟨_,h⟩;exact .inl h;omega) g⟩,a,rfl,⟨[],by simp[sq]⟩,fun _ _ _=>rfl⟩
 |k+1,hk=>by rw[Fm];exact Zk e d b (by omega) (Tg e d b hi a k (by omega))
structure jaw (J:Nat->Nat->Bool) (n s:Nat) (x:List Int×List Int):Prop where
 i:jci J n s (fun _ _=>False) x
 le:LZ n x
theorem Wh {J:Nat->Nat->Bool} {n s:Nat} {x:List Int×List Int} (k:s<n) (h:jaw J n s x):jaw J n s (y7 J n x)/\(x.2≠[]->IX (y7 J n x).1+(y7 J n x).2.length+1=IX x.1+x.2.length):=by
 obtain⟨st,o⟩:=x;cases o with
 |nil=>exact⟨h,fun h=>absurd rfl h⟩
 |cons q r=>
  obtain⟨p,t,m⟩:=h.i.que q (by simp);have hi:=Tg k (q:=q.toNat) (by omega) m h.i h.le n (jk _);obtain⟨l,d⟩:=hi.pre;have e2:(y7 J n (st,q::r))=((sq J q.toNat (st,q::r) n).1,r++l):=by
   show((sq J q.toNat (st,q::r) n).1,(sq J q.toNat (st,q::r) n).2.drop 1)=_;rw[d];rfl
  rw[e2];have b:=hi.mu;rw[d] at b;refine⟨⟨⟨hi.i.len,hi.i.low,hi.i.zero,hi.i.rch,fun z c=>hi.i.que z (by rw[d];simp only at c⊢;exact jo _ c),fun y z j c f a g=> ?_⟩,hi.le⟩,fun _=> ?_⟩;rcases a with a|a;by_cases e:y=q.toNat;exact hi.i.cls y z j c f (.inr ⟨e,c⟩) g;refine hi.i.cls y z j c f (.inl ?_) g;rw[d];intro b;rcases jj.1 b with e2|b;omega;exact a b;exact a.elim;simp only[jV,jX] at b⊢;omega
theorem Oz {J:Nat->Nat->Bool} {n s:Nat} (f:s<n):jaw J n s (gq J n s 0)/\IX (gq J n s 0).1+(gq J n s 0).2.length=n:=by
 have hi:∀x,x<n->nth (vU n s) x=if s=x then 0 else-1:=fun x i=>BP f i
 have h:IX (vU n s)+1=n:=by
  have:=GI (out:=List.replicate n (-1:Int)) (b:=s) (v:=0) (by simpa using f) (by rw[L.nth_rep f];decide) (by decide);unfold vU;rw[this];unfold IX;rw[List.countP_replicate];simp
 refine⟨⟨⟨BO n s,fun y d=> ?_,?_,fun y d c=> ?_,fun q g=> ?_,fun y z d k c a j=> ?_⟩,fun y d=> ?_⟩,?_⟩;show-1<=nth (vU n s) y/\_;rw[show nth (gq J n s 0).1 y=_ from hi y d,hi y d];split<;>omega
 show 0<=nth (vU n s) s;rw[hi s f,jg rfl];omega;have c:0<=nth (vU n s) y:=c;rw[hi y d] at c
 split at c
 rename_i e;subst e;exact .base;omega;have g:q∈[(s:Int)]:=g;simp at g;subst g;refine⟨by omega,by omega,?_⟩;show 0<=nth (vU n s) (s:Int).toNat;rw[ju,hi s f,jg rfl];omega;have c:0<=nth (vU n s) y:=c;rw[hi y d] at c
 split at c
 rename_i e;subst e;rcases a with a|a;exact absurd (show(s:Int)∈[(s:Int)] by simp) a;exact a.elim;omega;show nth (vU n s) y+(IX (vU n s):Int)<=(n:Int)-1;rw[hi y d];split<;>omega
 show IX (vU n s)+1=n;exact h
theorem BQ {J:Nat->Nat->Bool} {n s:Nat} (b:s<n):∀k,jaw J n s (gq J n s k)/\((gq J n s k).2=[]\/IX (gq J n s k).1+(gq J n s k).2.length+k=n)
 |0=>⟨(Oz b).1,.inr (Oz b).2⟩
 |k+1=>by
  obtain⟨d,a⟩:=BQ b k
  obtain⟨f,g⟩:=Wh b d
  refine⟨f,?_⟩
  by_cases e:(gq J n s k).2=[]
  left
  show(y7 J n (gq J n s k)).2=[]
  unfold y7
  split
  exact e
  rename_i c;rw[e] at c;cases c
  right
  have:=g e
  rcases a with a|a
  exact absurd a e
  show IX (y7 J n (gq J n s k)).1+(y7 J n (gq J n s k)).2.length+(k+1)=n
  omega
theorem Zl {J:Nat->Nat->Bool} {n s:Nat} (a:s<n):(gq J n s (n+1)).2=[]:=by
 rcases(BQ (J:=J) a (n+1)).2 with h|h;exact h;omega
theorem Wi {J:Nat->Nat->Bool} {n s k:Nat} (h:(gq J n s k).2=[]):∀m,k<=m->gq J n s m=gq J n s k:=by
 intro m c
 induction m with
 |zero=>have:k=0:=by omega
        subst this;rfl
 |succ m b=>
  by_cases e:k=m+1;rw[e];have e2:=b (by omega);show y7 J n (gq J n s m)=_;rw[e2];unfold y7
  split
  rfl;rename_i a;rw[h] at a;cases a
theorem ja5 {J:Nat->Nat->Bool} {n s x:Nat} (e:s<n) (l:x<n):nth (jbF J n s) x<0↔¬Rch J n s x:=by
 have h:=(BQ (J:=J) e (n+1)).1;have j:=Zl (J:=J) e;constructor;intro m d;have:=d.closed (S:=fun y=>0<=nth (jbF J n s) y) e h.i.zero (fun a b f c g k=>h.i.cls a b f g c (.inl (by rw[j];simp)) k);have this:0<=nth (jbF J n s) x:=this;omega;intro d;rcases Int.lt_or_le (nth (jbF J n s) x) 0 with c|c;exact c;exact absurd (h.i.rch x l c) d
theorem Zm {J:Nat->Nat->Bool} {n a b:Nat} (e:∀x y,J x y=J y x) (c:a<n) (d:b<n):nth (xY J n a n) b<0↔nth (jbF J n b) a<0:=by
 rw[ja4 c d,ja5 d c];exact not_congr ⟨fun h=>h.symm e c,fun h=>h.symm e d⟩
namespace U
def vV {α:Type} (p:α->Bool) (l:List α):Int:=match l.findIdx? p with|some i=>(i:Int)|none=> -1
def km {α:Type} (F:α×Unit->Bool×Unit) (g:α):Bool:=(F (g,())).1
end U
def gfb (t:Ty) (σ:St) (s:Nat):(Ty.st [t]).Data->(Ty.st [.bool]).Data:=gfn [t] [.bool] σ s
theorem qN:∀(l:List Prop) {k:Prop},kG l->k->asks l k
 |[],_,_,hk=>hk
 |_::r,_,h,hk=>⟨h.1,qN r h.2 hk⟩
theorem vK {α:Type} [Inhabited α] {l:List α} {p:α->Bool} {i:Nat} (h:i<l.length) (a:∀b:Nat,b<i->p (nth l b)=false) (c:p (nth l i)=true):vV p l=i:=by
 have:l.findIdx? p=some i:=by
  rw[zJ];refine⟨h,by rw[<-L.wG h];exact c,fun j d=> ?_⟩;have:=a j d;rw[L.wG (by omega)] at this;simp[this]
 unfold vV;rw[this]
theorem qx {α:Type} [Inhabited α] {l:List α} {p:α->Bool} {i:Nat} (h:l.length<=i) (a:∀b:Nat,b<i->p (nth l b)=false):vV p l= -1:=by
 have:l.findIdx? p=none:=by
  rw[kc];intro x c;obtain⟨k,hk,rfl⟩:=L.mem_iff.1 c;exact a k (by omega)
 unfold vV;rw[this]
theorem ff {α:Type} (p:α->Bool) (l:List α):decide (0<=vV p l)=l.any p:=by
 rw[j0];unfold vV;simp only[js]
 split
 rename_i i e;rw[zJ] at e;obtain⟨h,a,_⟩:=e;exact⟨fun _=>j9.2 ⟨_,List.getElem_mem h,a⟩,fun _=>by omega⟩;rename_i e;rw[kc] at e;refine⟨fun h=>by omega,fun h=> ?_⟩;obtain⟨x,b,a⟩:=j9.1 h;have:=e x b;exact absurd (a.symm.trans this) (by simp)
theorem rg {α:Type} (F:α×Unit->Bool×Unit) (l:List α):(!l.any (km fun(x:α×Unit)=>(!km F x.fst,())))=l.all (km F):=by
 induction l with
 |nil=>rfl
 |cons a r b=>
  simp only[List.any_cons,List.all_cons,Bool.not_or,b];have:(!km (fun(x:α×Unit)=>(!km F x.fst,())) a)=km F a:=by
   show(!(!km F a))=_;rw[Bool.not_not]
  rw[this]
open Go.Proofs
namespace U
def sr (s n:Int):Bool:=decide (yq (s/2^n.toNat) 1=1)
def jaA (b:Bool):Int:=if b=true then 1 else 0
def KH (c:CrD) (f g:Int->Bool) (p:PeD):Bool:=((((((decide (((lv p).length:Int)=la c)&&(lv p).all f)&&kk (fd p) 0 255)&&kk (cl p) 0 255)&&decide (((yH p).length:Int)<=10))&&(yH p).all g)&&kk (fe p) 0 1000)
end U
def L0:wd:=⟨[.val .int,.val .int,.val .int],[.bool],false,fun _=>[],fun d=>(kk d.1 d.2.1 d.2.2.1,())⟩
def L1:Prop:=∀(d:Int×Int×Int×Unit),(decide (d.2.1<=d.1)&&decide (d.1<=d.2.2.1),())=(kk d.1 d.2.1 d.2.2.1,())
def lk:wd:=⟨[.val (.uint .u64),.val .int],[.bool],false,fun d=>[0<=d.2.1,d.2.1<=64],fun d=>(sr d.1 d.2.1,())⟩
def IY:Prop:=∀(d:Int×Int×Unit),0<=d.2.1->d.2.1<=64->0<=d.2.1/\d.2.1<=64/\(decide (yq (d.1/(2:Int)^d.2.1.toNat) (1:Int)=1),())=(sr d.1 d.2.1,())
def yl:wd:=⟨[.val (.uint .u64)],[.int],false,fun d=>[BT.qV d.1],fun d=>(BT.size d.1,())⟩
def GJ:Ann:=fun r=>match r with
 |1=>some fun σ=>{X:=Int×Int,sl:=fun x=>[(0,.dat (.uint .u64) x.1),(2,.dat .int x.2)],ob:=fun _=>[],inv:=fun x=>BT.qV x.1/\x.2+BT.size x.1=BT.size (gd (.uint .u64) σ 0),mu:=fun x=>x.1.toNat}
 |_=>none
def GK:Prop:=∀(d:Int×Unit),BT.qV d.1->(∃(x:Int×Int),((d.1=x.1/\0=x.2/\True)/\True)/\BT.qV x.1/\x.2+BT.size x.1=BT.size d.1)/\∀(x:Int×Int),BT.qV x.1/\x.2+BT.size x.1=BT.size d.1->(decide (x.1≠0)=true->kK (x.2+1)/\0<=x.1-1/\x.1-1<=18446744073709551615/\∃(a:Int×Int),((yq x.1 (x.1-1)=a.1/\x.2+1=a.2/\True)/\True)/\(BT.qV a.1/\a.2+BT.size a.1=BT.size d.1)/\a.1.toNat<x.1.toNat)/\(decide (x.1≠0)=false->(x.2,())=(BT.size d.1,()))
def PO:wd:=⟨[.val .bool],[.int],false,fun _=>[],fun d=>(jaA d.1,())⟩
def PP:Prop:=∀(d:Bool×Unit),(d.1=true->((1:Int),())=(jaA d.1,()))/\(d.1=false->((0:Int),())=(jaA d.1,()))
def ox:wd:=⟨[.val (.slice .int),.fn [.int] [.bool]],[.int],false,fun d=>[∀g∈d.1,kG (d.2.1.pre (g,()))],fun d=>(vV (km (α:=Int) d.2.1.F) d.1,())⟩
def oy:Ann:=fun r=>match r with
 |2=>some fun σ=>{X:=Nat,sl:=fun i=>[(8,.dat .int (i:Int))],ob:=fun _=>[],inv:=fun i=>i<=(gd (.slice .int) σ 0).length/\∀b:Nat,b<i->km (gfb .int σ 1) (nth (gd (.slice .int) σ 0) b)=false,mu:=fun i=>(gd (.slice .int) σ 0).length-i}
 |_=>none
def oz:Prop:=∀(d:List Int×FnD [Ty.int] [Ty.bool]×Unit),(∀(g:Int),g∈d.1->kG (d.2.1.1 (g,())))->d.1.length<4611686018427387904->(∃(x:Nat),((0=(x:Int)/\True)/\True)/\x<=d.1.length/\∀(b:Nat),b<x->km d.2.1.2 (nth d.1 b)=false)/\∀(x:Nat),(x<=d.1.length/\∀(b:Nat),b<x->km d.2.1.2 (nth d.1 b)=false)->(decide ((x:Int)<d.1.length)=true->0<=(x:Int)/\(x:Int)<d.1.length/\asks (d.2.1.1 (nth d.1 (x:Int).toNat,())) (((d.2.1.2 (nth d.1 (x:Int).toNat,())).1=true->((x:Int),())=(vV (km d.2.1.2) d.1,()))/\((d.2.1.2 (nth d.1 (x:Int).toNat,())).1=false->kK ((x:Int)+1)/\∃(a:Nat),(((x:Int)+1=(a:Int)/\True)/\True)/\(a<=d.1.length/\∀(b:Nat),b<a->km d.2.1.2 (nth d.1 b)=false)/\d.1.length-a<d.1.length-x)))/\(decide ((x:Int)<d.1.length)=false->((-1:Int),())=(vV (km d.2.1.2) d.1,()))
def ii:wd:=⟨[.val (.slice .int),.fn [.int] [.bool]],[.bool],false,fun d=>[∀g∈d.1,kG (d.2.1.pre (g,()))],fun d=>(d.1.any (km (α:=Int) d.2.1.F),())⟩
def ij:Prop:=∀(d:List Int×FnD [Ty.int] [Ty.bool]×Unit),(∀(g:Int),g∈d.1->kG (d.2.1.1 (g,())))->(∀(g:Int),g∈d.1->kG (d.2.1.1 (g,())))/\(decide (0<=vV (km d.2.1.2) d.1),())=(d.1.any (km d.2.1.2),())
def oA:wd:=⟨[.val (.slice tLw),.fn [tLw] [.bool]],[.int],false,fun d=>[∀g∈d.1,kG (d.2.1.pre (g,()))],fun d=>(vV (km (α:=LwD) d.2.1.F) d.1,())⟩
def oB:Ann:=fun r=>match r with
 |2=>some fun σ=>{X:=Nat,sl:=fun i=>[(8,.dat .int (i:Int))],ob:=fun _=>[],inv:=fun i=>i<=(gd (.slice tLw) σ 0).length/\∀b:Nat,b<i->km (gfb tLw σ 1) (nth (gd (.slice tLw) σ 0) b)=false,mu:=fun i=>(gd (.slice tLw) σ 0).length-i}
 |_=>none
def oC:Prop:=∀(d:List LwD×FnD [tLw] [Ty.bool]×Unit),(∀(g:LwD),g∈d.1->kG (d.2.1.1 (g,())))->d.1.length<4611686018427387904->(∃(x:Nat),((0=(x:Int)/\True)/\True)/\x<=d.1.length/\∀(b:Nat),b<x->km d.2.1.2 (nth d.1 b)=false)/\∀(x:Nat),(x<=d.1.length/\∀(b:Nat),b<x->km d.2.1.2 (nth d.1 b)=false)->(decide ((x:Int)<d.1.length)=true->0<=(x:Int)/\(x:Int)<d.1.length/\asks (d.2.1.1 (nth d.1 (x:Int).toNat,())) (((d.2.1.2 (nth d.1 (x:Int).toNat,())).1=true->((x:Int),())=(vV (km d.2.1.2) d.1,()))/\((d.2.1.2 (nth d.1 (x:Int).toNat,())).1=false->kK ((x:Int)+1)/\∃(a:Nat),(((x:Int)+1=(a:Int)/\True)/\True)/\(a<=d.1.length/\∀(b:Nat),b<a->km d.2.1.2 (nth d.1 b)=false)/\d.1.length-a<d.1.length-x)))/\(decide ((x:Int)<d.1.length)=false->((-1:Int),())=(vV (km d.2.1.2) d.1,()))
def ik:wd:=⟨[.val (.slice tLw),.fn [tLw] [.bool]],[.bool],false,fun d=>[∀g∈d.1,kG (d.2.1.pre (g,()))],fun d=>(d.1.any (km (α:=LwD) d.2.1.F),())⟩
def il:Prop:=∀(d:List LwD×FnD [tLw] [Ty.bool]×Unit),(∀(g:LwD),g∈d.1->kG (d.2.1.1 (g,())))->(∀(g:LwD),g∈d.1->kG (d.2.1.1 (g,())))/\(decide (0<=vV (km d.2.1.2) d.1),())=(d.1.any (km d.2.1.2),())
def im:wd:=⟨[.val (.slice tPe),.fn [tPe] [.bool]],[.int],false,fun d=>[∀g∈d.1,kG (d.2.1.pre (g,()))],fun d=>(vV (km (α:=PeD) d.2.1.F) d.1,())⟩
def io:Ann:=fun r=>match r with
 |2=>some fun σ=>{X:=Nat,sl:=fun i=>[(8,.dat .int (i:Int))],ob:=fun _=>[],inv:=fun i=>i<=(gd (.slice tPe) σ 0).length/\∀b:Nat,b<i->km (gfb tPe σ 1) (nth (gd (.slice tPe) σ 0) b)=false,mu:=fun i=>(gd (.slice tPe) σ 0).length-i}
 |_=>none
def iq:Prop:=∀(d:List PeD×FnD [tPe] [Ty.bool]×Unit),(∀(g:PeD),g∈d.1->kG (d.2.1.1 (g,())))->d.1.length<4611686018427387904->(∃(x:Nat),((0=(x:Int)/\True)/\True)/\x<=d.1.length/\∀(b:Nat),b<x->km d.2.1.2 (nth d.1 b)=false)/\∀(x:Nat),(x<=d.1.length/\∀(b:Nat),b<x->km d.2.1.2 (nth d.1 b)=false)->(decide ((x:Int)<d.1.length)=true->0<=(x:Int)/\(x:Int)<d.1.length/\asks (d.2.1.1 (nth d.1 (x:Int).toNat,())) (((d.2.1.2 (nth d.1 (x:Int).toNat,())).1=true->((x:Int),())=(vV (km d.2.1.2) d.1,()))/\((d.2.1.2 (nth d.1 (x:Int).toNat,())).1=false->kK ((x:Int)+1)/\∃(a:Nat),(((x:Int)+1=(a:Int)/\True)/\True)/\(a<=d.1.length/\∀(b:Nat),b<a->km d.2.1.2 (nth d.1 b)=false)/\d.1.length-a<d.1.length-x)))/\(decide ((x:Int)<d.1.length)=false->((-1:Int),())=(vV (km d.2.1.2) d.1,()))
def cI:wd:=⟨[.val (.slice tPe),.fn [tPe] [.bool]],[.bool],false,fun d=>[∀g∈d.1,kG (d.2.1.pre (g,()))],fun d=>(d.1.any (km (α:=PeD) d.2.1.F),())⟩
def cJ:Prop:=∀(d:List PeD×FnD [tPe] [Ty.bool]×Unit),(∀(g:PeD),g∈d.1->kG (d.2.1.1 (g,())))->(∀(g:PeD),g∈d.1->kG (d.2.1.1 (g,())))/\(decide (0<=vV (km d.2.1.2) d.1),())=(d.1.any (km d.2.1.2),())
def uP:wd:=⟨[.val .int,.rfn [.int] [.bool]],[.bool],false,fun d=>[kG (d.2.1.pre (d.1,()))],fun d=>(!(km (α:=Int) d.2.1.F d.1),())⟩
def uQ:Prop:=∀(d:Int×FnD [Ty.int] [Ty.bool]×Unit),kG (d.2.1.1 (d.1,()))->asks (d.2.1.1 (d.1,())) ((!(d.2.1.2 (d.1,())).1,())=(!km d.2.1.2 d.1,()))
def DM:wd:=⟨[.val (.slice .int),.fn [.int] [.bool]],[.bool],false,fun d=>[∀g∈d.1,kG (d.2.1.pre (g,()))],fun d=>(d.1.all (km (α:=Int) d.2.1.F),())⟩
def DN:Prop:=∀(d:List Int×FnD [Ty.int] [Ty.bool]×Unit),(∀(g:Int),g∈d.1->kG (d.2.1.1 (g,())))->(∀(g:Int),g∈d.1->kG [kG (d.2.1.1 (g,()))])/\(!d.1.any (km fun(a:Int×Unit)=>(!km d.2.1.2 a.1,())),())=(d.1.all (km d.2.1.2),())
def uR:wd:=⟨[.val tLw,.rfn [tLw] [.bool]],[.bool],false,fun d=>[kG (d.2.1.pre (d.1,()))],fun d=>(!(km (α:=LwD) d.2.1.F d.1),())⟩
def uS:Prop:=∀(d:LwD×FnD [tLw] [Ty.bool]×Unit),kG (d.2.1.1 (d.1,()))->asks (d.2.1.1 (d.1,())) ((!(d.2.1.2 (d.1,())).1,())=(!km d.2.1.2 d.1,()))
def DO:wd:=⟨[.val (.slice tLw),.fn [tLw] [.bool]],[.bool],false,fun d=>[∀g∈d.1,kG (d.2.1.pre (g,()))],fun d=>(d.1.all (km (α:=LwD) d.2.1.F),())⟩
def DP:Prop:=∀(d:List LwD×FnD [tLw] [Ty.bool]×Unit),(∀(g:LwD),g∈d.1->kG (d.2.1.1 (g,())))->(∀(g:LwD),g∈d.1->kG [kG (d.2.1.1 (g,()))])/\(!d.1.any (km fun(a:LwD×Unit)=>(!km d.2.1.2 a.1,())),())=(d.1.all (km d.2.1.2),())
def oD:wd:=⟨[.val tPe,.rfn [tPe] [.bool]],[.bool],false,fun d=>[kG (d.2.1.pre (d.1,()))],fun d=>(!(km (α:=PeD) d.2.1.F d.1),())⟩
def oE:Prop:=∀(d:PeD×FnD [tPe] [Ty.bool]×Unit),kG (d.2.1.1 (d.1,()))->asks (d.2.1.1 (d.1,())) ((!(d.2.1.2 (d.1,())).1,())=(!km d.2.1.2 d.1,()))
def sV:wd:=⟨[.val (.slice tPe),.fn [tPe] [.bool]],[.bool],false,fun d=>[∀g∈d.1,kG (d.2.1.pre (g,()))],fun d=>(d.1.all (km (α:=PeD) d.2.1.F),())⟩
def sW:Prop:=∀(d:List PeD×FnD [tPe] [Ty.bool]×Unit),(∀(g:PeD),g∈d.1->kG (d.2.1.1 (g,())))->(∀(g:PeD),g∈d.1->kG [kG (d.2.1.1 (g,()))])/\(!d.1.any (km fun(a:PeD×Unit)=>(!km d.2.1.2 a.1,())),())=(d.1.all (km d.2.1.2),())
def IZ:wd:=⟨[.val .int],[.bool],false,fun _=>[],fun d=>(kk d.1 0 5,())⟩
def I0:Prop:=∀(d:Int×Unit),(kk d.1 (0:Int) (5:Int),())=(kk d.1 (0:Int) (5:Int),())
def I1:wd:=⟨[.val .int],[.bool],false,fun _=>[],fun d=>(kk d.1 0 99,())⟩
def I2:Prop:=∀(d:Int×Unit),(kk d.1 (0:Int) (99:Int),())=(kk d.1 (0:Int) (99:Int),())
def I3:wd:=⟨[.val tPe,.ref tCr,.rfn [.int] [.bool],.rfn [.int] [.bool]],[.bool],false,fun d=>[∀g∈U.lv d.1,kG (d.2.2.1.pre (g,())),∀g∈yH d.1,kG (d.2.2.2.1.pre (g,()))],fun d=>(KH d.2.1 (km d.2.2.1.F) (km d.2.2.2.1.F) d.1,())⟩
def I4:Prop:=∀(d:PeD×CrD×FnD [Ty.int] [Ty.bool]×FnD [Ty.int] [Ty.bool]×Unit),(∀(g:Int),g∈U.lv d.1->kG (d.2.2.1.1 (g,())))->(∀(g:Int),g∈yH d.1->kG (d.2.2.2.1.1 (g,())))->d.1.1.length<4611686018427387904->(decide ((d.1.1.length:Int)=d.2.1.1)=true->∀(g:Int),g∈d.1.1->kG (d.2.2.1.1 (g,())))/\(((decide ((d.1.1.length:Int)=d.2.1.1)&&d.1.1.all (km d.2.2.1.2)&&kk d.1.2.1 (0:Int) (255:Int)&&kk d.1.2.2.1 (0:Int) (255:Int))=true->d.1.2.2.2.1.length<4611686018427387904)->((decide ((d.1.1.length:Int)=d.2.1.1)&&d.1.1.all (km d.2.2.1.2)&&kk d.1.2.1 (0:Int) (255:Int)&&kk d.1.2.2.1 (0:Int) (255:Int)&&decide ((d.1.2.2.2.1.length:Int)<=10))=true->∀(g:Int),g∈d.1.2.2.2.1->kG (d.2.2.2.1.1 (g,())))/\(decide ((d.1.1.length:Int)=d.2.1.1)&&d.1.1.all (km d.2.2.1.2)&&kk d.1.2.1 (0:Int) (255:Int)&&kk d.1.2.2.1 (0:Int) (255:Int)&&decide ((d.1.2.2.2.1.length:Int)<=10)&&d.1.2.2.2.1.all (km d.2.2.2.1.2)&&kk d.1.q4.2.1 (0:Int) (1000:Int),())=(KH d.2.1 (km d.2.2.1.2) (km d.2.2.2.1.2) d.1,()))
def I5:wd:=⟨[.val tLw],[.bool],false,fun _=>[],fun d=>(dV d.1,())⟩
def I6:Prop:=∀(d:LwD×Unit),(kk d.1.1 (1:Int) (5:Int)&&kk d.1.2.1 (1:Int) (8:Int),())=(dV d.1,())
def I7:wd:=⟨[.val .int,.ref tCr],[.bool],false,fun d=>[kK (U.la d.2.1-1)],fun d=>(kk d.1 0 (U.la d.2.1-1),())⟩
def I8:Prop:=∀(d:Int×CrD×Unit),kK (U.la d.2.1-1)->kK (d.2.1.1-1)/\(kk d.1 (0:Int) (d.2.1.1-1),())=(kk d.1 (0:Int) (U.la d.2.1-1),())
def PQ:wd:=⟨[.val tCr,.val tJb],[.int],false,fun _=>[],fun d=>(qv d.1 d.2.1,())⟩
abbrev jgN (d:CrD×JbD×Unit):=(!kk d.2.1.1 (0:Int) (U.la d.1-1)|| !kk d.2.1.2.1 (0:Int) (U.la d.1-1)||decide (d.2.1.1=d.2.1.2.1)|| !kk d.2.1.2.2.1 (0:Int) (99:Int)|| !kk d.2.1.2.2.2.1 (0:Int) (7:Int)|| !kk d.2.1.q4.1 (0:Int) (3:Int)|| !kk d.2.1.q4.2.1 (1:Int) (8:Int))
abbrev je6 (d:CrD×JbD×Unit):=(8<(d.1.2.1.length:Int))
abbrev jgO:=(km fun(a:LwD×Unit)=>(dV a.1,()))
def PS:Prop:=∀(d:CrD×JbD×Unit),((!!kk d.1.1 (2:Int) (5:Int))=true->d.1.2.1.length<4611686018427387904)->((!(!kk d.1.1 (2:Int) (5:Int)||decide (je6 d)))=true->∀(g:PeD),g∈d.1.2.1->kG [∀(c:Int),c∈U.lv g->kG [],∀(c:Int),c∈yH g->kG []])/\(((!(!kk d.1.1 (2:Int) (5:Int)||decide (je6 d)|| !d.1.2.1.all (km fun(b:PeD×Unit)=>(KH d.1 (km fun(b:Int×Unit)=>(kk b.1 (0:Int) (5:Int),())) (km fun(b:Int×Unit)=>(kk b.1 (0:Int) (99:Int),())) b.1,()))))=true->d.1.2.2.1.length<4611686018427387904)->((!(!kk d.1.1 (2:Int) (5:Int)||decide (je6 d)|| !d.1.2.1.all (km fun(a:PeD×Unit)=>(KH d.1 (km fun(a:Int×Unit)=>(kk a.1 (0:Int) (5:Int),())) (km fun(a:Int×Unit)=>(kk a.1 (0:Int) (99:Int),())) a.1,()))||decide ((d.1.2.2.1.length:Int)≠4)))=true->∀(g:LwD),g∈d.1.2.2.1->kG [])/\((!kk d.1.1 (2:Int) (5:Int)||decide (je6 d)|| !d.1.2.1.all (km fun(a:PeD×Unit)=>(KH d.1 (km fun(a:Int×Unit)=>(kk a.1 (0:Int) (5:Int),())) (km fun(a:Int×Unit)=>(kk a.1 (0:Int) (99:Int),())) a.1,()))||decide ((d.1.2.2.1.length:Int)≠4)|| !d.1.2.2.1.all jgO)=true->((30:Int),())=(qv d.1 d.2.1,()))/\((!kk d.1.1 (2:Int) (5:Int)||decide (je6 d)|| !d.1.2.1.all (km fun(a:PeD×Unit)=>(KH d.1 (km fun(a:Int×Unit)=>(kk a.1 (0:Int) (5:Int),())) (km fun(a:Int×Unit)=>(kk a.1 (0:Int) (99:Int),())) a.1,()))||decide ((d.1.2.2.1.length:Int)≠4)|| !d.1.2.2.1.all jgO)=false->kK (U.la d.1-1)/\((!!kk d.2.1.1 (0:Int) (U.la d.1-1))=true->kK (U.la d.1-1))/\((jgN d)=true->((31:Int),())=(qv d.1 d.2.1,()))/\((jgN d)=false->((0:Int),())=(qv d.1 d.2.1,()))))
theorem PT:L1:=by
 intro d;rfl
theorem yF:wm PR 158 L0:=kZ PT Tryz.func158 kcN koN
theorem L2:IY:=by
 intro d a b;exact⟨a,b,rfl⟩
theorem I9:wm PR 208 lk:=kZ L2 Tryz.func208 kcN koN
theorem Ja:GK:=by
 rintro⟨s,⟨⟩⟩ e;refine⟨⟨(s,0),⟨⟨rfl,rfl,tZ⟩,tZ⟩,e,by simp⟩,?_⟩;rintro⟨x,n⟩ ⟨a,b⟩;have a:BT.qV x:=a;have g:=BT.size_le s;have f:=BT.size_le x;refine⟨fun h=> ?_,fun h=> ?_⟩;have h:x≠0:=jb h;obtain⟨d,i,j⟩:=BT.pred a h;have c:=a;unfold BT.qV at c;simp only at b⊢;exact⟨iZ6,by omega,by omega,(yq x (x-1),n+1),⟨⟨rfl,rfl,tZ⟩,tZ⟩,⟨d,(by omega:n+1+BT.size (yq x (x-1))=BT.size s)⟩,(by unfold BT.qV at d;omega:(yq x (x-1)).toNat<x.toNat)⟩;have h:x=0:=(by simpa using h);subst h;simp only[BT.size_zero] at b;simp only at b⊢;rw[show n=BT.size s by omega]
theorem GM:wm PR 160 yl:=vd GJ Ja Tryz.func160 kcN koN
theorem Th:PP:=by
 rintro⟨b,⟨⟩⟩;exact⟨fun h=>by simp only at h;subst h;rfl,fun h=>by simp only at h;subst h;rfl⟩
theorem PU:wm PR 152 PO:=kZ Th Tryz.func152 kcN koN
theorem rh:oz:=by
 rintro⟨l,f,⟨⟩⟩ a g;refine⟨⟨0,⟨⟨rfl,tZ⟩,tZ⟩,jw _,fun b c=>by omega⟩,fun i hi=>⟨fun h=> ?_,fun h=> ?_⟩⟩;have h:i<l.length:=(by simpa using h);simp only[ju] at*;refine⟨by omega,by omega,qN _ (a _ (L.kx h)) ⟨fun c=> ?_,fun c=>⟨iZ6,i+1,⟨⟨by simp,tZ⟩,tZ⟩,⟨by omega,fun b d=> ?_⟩,by omega⟩⟩⟩;rw[vK (p:=km (α:=Int) f.F) h hi.2 c];by_cases e:b=i;subst e;exact c;exact hi.2 b (by omega);have h:l.length<=i:=(by simpa using h);rw[qx (p:=km (α:=Int) f.F) h hi.2]
theorem oF:wm PR 162 ox:=vd oy rh Tryz.func162 kcN koN
theorem lq:ij:=by
 rintro⟨l,f,⟨⟩⟩ a;refine⟨a,?_⟩;exact jS (·,()) (ff (km (α:=Int) f.F) l)
theorem vN:wm PR 115 ii:=kZ lq Tryz.func115 (kcC oF kcN) koN
theorem ri:oC:=by
 rintro⟨l,f,⟨⟩⟩ a g;refine⟨⟨0,⟨⟨rfl,tZ⟩,tZ⟩,jw _,fun b c=>by omega⟩,fun i hi=>⟨fun h=> ?_,fun h=> ?_⟩⟩;have h:i<l.length:=(by simpa using h);simp only[ju] at*;refine⟨by omega,by omega,qN _ (a _ (L.kx h)) ⟨fun c=> ?_,fun c=>⟨iZ6,i+1,⟨⟨by simp,tZ⟩,tZ⟩,⟨by omega,fun b d=> ?_⟩,by omega⟩⟩⟩;rw[vK (p:=km (α:=LwD) f.F) h hi.2 c];by_cases e:b=i;subst e;exact c;exact hi.2 b (by omega);have h:l.length<=i:=(by simpa using h);rw[qx (p:=km (α:=LwD) f.F) h hi.2]
theorem oG:wm PR 231 oA:=vd oB ri Tryz.func231 kcN koN
theorem lr:il:=by
 rintro⟨l,f,⟨⟩⟩ a;refine⟨a,?_⟩;exact jS (·,()) (ff (km (α:=LwD) f.F) l)
theorem ir:wm PR 215 ik:=kZ lr Tryz.func215 (kcC oG kcN) koN
theorem lu:iq:=by
 rintro⟨l,f,⟨⟩⟩ a g;refine⟨⟨0,⟨⟨rfl,tZ⟩,tZ⟩,jw _,fun b c=>by omega⟩,fun i hi=>⟨fun h=> ?_,fun h=> ?_⟩⟩;have h:i<l.length:=(by simpa using h);simp only[ju] at*;refine⟨by omega,by omega,qN _ (a _ (L.kx h)) ⟨fun c=> ?_,fun c=>⟨iZ6,i+1,⟨⟨by simp,tZ⟩,tZ⟩,⟨by omega,fun b d=> ?_⟩,by omega⟩⟩⟩;rw[vK (p:=km (α:=PeD) f.F) h hi.2 c];by_cases e:b=i;subst e;exact c;exact hi.2 b (by omega);have h:l.length<=i:=(by simpa using h);rw[qx (p:=km (α:=PeD) f.F) h hi.2]
theorem iu:wm PR 230 im:=vd io lu Tryz.func230 kcN koN
theorem du:cJ:=by
 rintro⟨l,f,⟨⟩⟩ a;refine⟨a,?_⟩;exact jS (·,()) (ff (km (α:=PeD) f.F) l)
theorem cK:wm PR 213 cI:=kZ du Tryz.func213 (kcC iu kcN) koN
theorem BR:uQ:=by
 intro d h;exact qN _ h rfl
theorem uT:wm PR 212 uP:=kZ BR Tryz.func212 kcN koN
theorem GN:DN:=by
 intro d h;exact⟨fun g a=>⟨h g a,tZ⟩,jS (·,()) (rg d.snd.fst.2 d.fst)⟩
theorem DQ:wm PR 174 DM:=kZ GN Tryz.func174 (kcC vN (kcC uT kcN)) koN
theorem BS:uS:=by
 intro d h;exact qN _ h rfl
theorem uU:wm PR 216 uR:=kZ BS Tryz.func216 kcN koN
theorem GO:DP:=by
 intro d h;exact⟨fun g a=>⟨h g a,tZ⟩,jS (·,()) (rg d.snd.fst.2 d.fst)⟩
theorem DR:wm PR 178 DO:=kZ GO Tryz.func178 (kcC ir (kcC uU kcN)) koN
theorem rj:oE:=by
 intro d h;exact qN _ h rfl
theorem oH:wm PR 214 oD:=kZ rj Tryz.func214 kcN koN
theorem uV:sW:=by
 intro d h;exact⟨fun g a=>⟨h g a,tZ⟩,jS (·,()) (rg d.snd.fst.2 d.fst)⟩
theorem sX:wm PR 177 sV:=kZ uV Tryz.func177 (kcC cK (kcC oH kcN)) koN
theorem L3:I0:=fun _=>rfl
theorem Jb:wm PR 171 IZ:=kZ L3 Tryz.func171 (kcC yF kcN) koN
theorem L4:I2:=fun _=>rfl
theorem Jc:wm PR 172 I1:=kZ L4 Tryz.func172 (kcC yF kcN) koN
theorem L5:I4:=by
 unfold I4 Prod.q4;rintro⟨p,c,f,g,⟨⟩⟩ a b _;exact⟨fun _=>a,fun _=>⟨fun _=>b,rfl⟩⟩
theorem Jd:wm PR 173 I3:=kZ L5 Tryz.func173 (kcC yF (kcC DQ kcN)) koN
theorem L6:I6:=fun _=>rfl
theorem Je:wm PR 175 I5:=kZ L6 Tryz.func175 (kcC yF kcN) koN
theorem L7:I8:=fun _ h=>⟨h,rfl⟩
theorem Jf:wm PR 176 I7:=kZ L7 Tryz.func176 (kcC yF kcN) koN
theorem Zn (c:CrD) (p:PeD):KH c (fun x=>kk x 0 5) (fun x=>kk x 0 99) p=fL (U.la c) p:=by
 rw[j0];simp only[KH,fL,kk,ji,js];constructor;rintro⟨⟨⟨⟨⟨⟨e,f⟩,a⟩,b⟩,k⟩,i⟩,d⟩;exact⟨⟨e,a.1,a.2,b.1,b.2,by omega,d.1,d.2⟩,f,i⟩;rintro⟨⟨e,a,g,b,h,k,d,j⟩,f,i⟩;exact⟨⟨⟨⟨⟨⟨e,f⟩,a,g⟩,b,h⟩,by omega⟩,i⟩,d,j⟩
theorem Zo (c:CrD):(((((!kk c.1 2 5||decide (8<((c.2.1.length:Nat):Int)))|| !c.2.1.all (fL (U.la c)))||decide (((c.2.2.1.length:Nat):Int)≠4))|| !c.2.2.1.all dV))= !kR c:=by
 unfold kR;show _= !(decide (2<=c.1/\c.1<=5/\c.2.1.length<=8/\c.2.2.1.length=4)&&(c.2.1.all (fL (U.la c))&&c.2.2.1.all dV));cases c.2.1.all (fL (U.la c))<;>cases c.2.2.1.all dV<;>simp only[kk,Bool.not_true,Bool.not_false,Bool.or_true,Bool.or_false,Bool.and_true,Bool.and_false,Bool.true_or]
 rw[j0];simp only[zm,jI,Bool.and_eq_false_iff,js,jD];omega
theorem ja6 (c:CrD) (j:JbD):((((((!kk j.1 0 (U.la c-1)|| !kk j.2.1 0 (U.la c-1))||decide (j.1=j.2.1))|| !kk j.2.2.1 0 99)|| !kk j.2.2.2.1 0 7)|| !kk j.2.2.2.2.1 0 3)|| !kk j.2.2.2.2.2.1 1 8)= !wV c j:=by
 have key:(wV c j=false)↔¬(0<=j.1/\j.1<=U.la c-1/\0<=j.2.1/\j.2.1<=U.la c-1/\j.1≠j.2.1/\0<=j.2.2.1/\j.2.2.1<=99/\0<=j.2.2.2.1/\j.2.2.2.1<=7/\0<=j.2.2.2.2.1/\j.2.2.2.2.1<=3/\1<=j.2.2.2.2.2.1/\j.2.2.2.2.2.1<=8):=by
  unfold wV;exact jD
 rw[j0,jI,key];simp only[kk,zm,jI,Bool.and_eq_false_iff,js,jD];omega
theorem Ti:PS:=by
 unfold PS jgO je6 jgN Prod.q4;rintro⟨c,j,⟨⟩⟩;have f:∀p,km (fun(x:PeD×Unit)=>(KH c (km fun(x:Int×Unit)=>(kk x.fst 0 5,())) (km fun(x:Int×Unit)=>(kk x.fst 0 99,())) x.fst,())) p=fL (U.la c) p:=fun p=>Zn c p
 have e2:(km fun(x:LwD×Unit)=>(dV x.fst,()))=dV:=rfl;have d:=Zo c;have e:=ja6 c j;intro _;refine⟨fun _ g _=>⟨fun _ _=>tZ,fun _ _=>tZ,tZ⟩,fun _=> ?_⟩;simp only at d e⊢;rw[funext f,e2,d,e];refine⟨fun _ _ _=>tZ,fun h=> ?_,fun h=> ?_⟩;have h:kR c=false:=(by simpa using h);unfold qv;rw[jg h];have h:kR c=true:=(by simpa using h);have i:2<=U.la c/\U.la c<=5:=by
  unfold kR at h;simp only[ji,js] at h;exact⟨h.1.1,h.1.2.1⟩
 have b:kK (U.la c-1):=iZ6;refine⟨b,fun _=>b,fun a=> ?_,fun a=> ?_⟩;have a:wV c j=false:=(by simpa using a);unfold qv;rw[jc (by rw[h];simp),jg a];have a:wV c j=true:=(by simpa using a);unfold qv;rw[jc (by rw[h];simp),jc (by rw[a];simp)]
theorem Fo:wm PR 137 PQ:=kZ Ti Tryz.func137 (kcC yF (kcC sX (kcC DR (kcC Jb (kcC Jc (kcC Jd (kcC Je (kcC Jf kcN)))))))) koN
abbrev tTk:Ty:= .st [tCr,tJb,tLw]
abbrev TkD:Type:=CrD×JbD×LwD×Unit
namespace U
def tk (o:Option TkD):TkD:=kQ (Ty.dflt tTk) o
def tc (t:TkD):CrD:=t.1
def tj (t:TkD):JbD:=t.2.1
def tl (t:TkD):LwD:=t.2.2.1
def FR (c:CrD) (j:JbD):Option TkD:=if qv c j=0 then some (c,j,dX c j,()) else none
def bI (t:TkD):Prop:=kR (tc t)=true/\wV (tc t) (tj t)=true/\tl t=dX (tc t) (tj t)
def Ro (a b c:Bool):Int:=jaA a+2*jaA b+4*jaA c
def vg (t:TkD) (p:PeD):Int:=Ro (KG p (Xx (tj t))) (!yI (fd p) (Xy (tj t))) (!yI (cl p) (iH (tj t)))
def su (t:TkD) (p:PeD):List (Int×Int):=[(0,jaA (!KG p (Xx (tj t)))),(1,nL (fd p/2^(Xy (tj t)).toNat) 1),(2,nL (cl p/2^(iH (tj t)).toNat) 1)]
def am (all left:List (Int×Int)) (out:Int):Prop:=BT.qV out/\left.Nodup/\(∀e∈left,e∈all)/\∀p:Nat,BT.has out p=true↔∃e∈all,e∉left/\e.2=0/\e.1.toNat=p
def yb (t:TkD) (s:Int) (n:Nat):List (Int×PeD×Unit):=((List.range n).filter (fun(i:Nat)=>sr s (i:Int))).map (fun(i:Nat)=>((i:Int),nth (kB (tc t)) i,()))
def uF (t:TkD) (s:Int):List (Int×PeD×Unit):=yb t s (kB (tc t)).length
def jn (t:TkD) (a b:Int) (x:Int×PeD×Unit):Bool:=decide (Vy (tl t)<=min (nth (lv x.2.1) a.toNat) (nth (lv x.2.1) b.toNat))
def lV (t:TkD) (s a b:Int):Bool:=(uF t s).any (jn t a b)
def y8 (t:TkD) (a b:Int) (q:List (Int×PeD×Unit)):Bool:=match q.getLast? with|some x=>jn t a b x|none=>false
end U
def BU:wd:=⟨[.val (.slice .int),.val .int],[.int],false,fun _=>[],fun d=>(vV (fun x=>decide (x=d.2.1)) d.1,())⟩
def BV:Ann:=fun r=>match r with
 |2=>some fun σ=>{X:=Nat,sl:=fun i=>[(8,.dat .int (i:Int))],ob:=fun _=>[],inv:=fun i=>i<=(gd (.slice .int) σ 0).length/\∀b:Nat,b<i->decide (nth (gd (.slice .int) σ 0) b=gd .int σ 1)=false,mu:=fun i=>(gd (.slice .int) σ 0).length-i}
 |_=>none
def BW:Prop:=∀(d:List Int×Int×Unit),d.1.length<4611686018427387904->(∃(x:Nat),((0=(x:Int)/\True)/\True)/\x<=d.1.length/\∀(b:Nat),b<x->decide (nth d.1 b=d.2.1)=false)/\∀(x:Nat),(x<=d.1.length/\∀(b:Nat),b<x->decide (nth d.1 b=d.2.1)=false)->(decide ((x:Int)<d.1.length)=true->0<=(x:Int)/\(x:Int)<d.1.length/\(decide (d.2.1=nth d.1 (x:Int).toNat)=true->((x:Int),())=(vV (fun(c:Int)=>decide (c=d.2.1)) d.1,()))/\(decide (d.2.1=nth d.1 (x:Int).toNat)=false->kK ((x:Int)+1)/\∃(a:Nat),(((x:Int)+1=(a:Int)/\True)/\True)/\(a<=d.1.length/\∀(b:Nat),b<a->decide (nth d.1 b=d.2.1)=false)/\d.1.length-a<d.1.length-x))/\(decide ((x:Int)<d.1.length)=false->((-1:Int),())=(vV (fun(c:Int)=>decide (c=d.2.1)) d.1,()))
def rk:wd:=⟨[.val (.slice .int),.val .int],[.bool],false,fun _=>[],fun d=>(d.1.any (fun x=>decide (x=d.2.1)),())⟩
def rm:Prop:=∀(d:List Int×Int×Unit),(decide (0<=vV (fun(a:Int)=>decide (a=d.2.1)) d.1),())=(d.1.any fun(b:Int)=>decide (b=d.2.1),())
def Tj:wd:=⟨[.val tCr,.val tJb],[.ptr tTk,.int],false,fun _=>[],fun d=>(FR d.1 d.2.1,qv d.1 d.2.1,())⟩
def Tk:Prop:=∀(d:CrD×JbD×Unit),(decide (qv d.1 d.2.1≠0)=true->(none,qv d.1 d.2.1,())=(FR d.1 d.2.1,qv d.1 d.2.1,()))/\(decide (qv d.1 d.2.1≠0)=false->0<=d.2.1.q4.1/\d.2.1.q4.1<(d.1.2.2.1.length:Int)/\(some (d.1,d.2.1,nth d.1.2.2.1 d.2.1.q4.1.toNat,()),(0:Int),())=(FR d.1 d.2.1,qv d.1 d.2.1,()))
def LM (d:PD [.ref (.ptr tTk),.ref (.uint .u64)]) (xs:List (Ty.st [.int,tPe]).Data):Prop:=xs=uF (U.tk d.1) d.2.1
def PV (d:PD [.ref (.ptr tTk),.ref (.uint .u64)]):Ak (YS [.int,tPe]):=fun r=>match r with
 |1=>some fun _ _=>{X:=Nat,sl:=fun i=>[(12,.dat .int (i:Int))],ob:=fun _=>[],ys:=fun i=>(yb (U.tk d.1) d.2.1 i,true),inv:=fun i=>i<=(kB (U.tc (U.tk d.1))).length,mu:=fun i=>(kB (U.tc (U.tk d.1))).length-i}
 |_=>none
abbrev je7 (d:Option (CrD×JbD×LwD×Unit)×Int×Unit):=(kQ (((0:Int),[],[],()),((0:Int),(0:Int),(0:Int),(0:Int),(0:Int),(0:Int),()),((0:Int),(0:Int),false,()),()) d.1)
abbrev jdP (d:Option (CrD×JbD×LwD×Unit)×Int×Unit):=(kB (U.tc (U.tk d.1)))
abbrev je8 (x:Nat)(d:Option (CrD×JbD×LwD×Unit)×Int×Unit):=((x:Int),nth (je7 d).1.2.1 (x:Int).toNat,())
abbrev jgc (x:Nat)(a:Nat):=(((x:Int)+1=(a:Int)/\True)/\True)
def bt:Prop:=∀(d:Option (CrD×JbD×LwD×Unit)×Int×Unit) (l:Nat),d.1.isSome=true->(jdP d).length<=60->d.1.isSome=true/\((je7 d).1.2.1.length<4611686018427387904->(∃(x:Nat),((0=(x:Int)/\True)/\True)/\([],true)=(yb (U.tk d.1) d.2.1 x,true)/\x<=(jdP d).length)/\∀(x:Nat),x<=(jdP d).length->(decide ((x:Int)<(je7 d).1.2.1.length)=true->0<=(x:Int)/\(x:Int)<(je7 d).1.2.1.length/\0<=(x:Int)/\(x:Int)<=64/\(sr d.2.1 (x:Int)=true->l=l/\(∃(rest:List (Int×PeD×Unit)),yb (U.tk d.1) d.2.1 x++[(je8 x d)]++rest=uF (U.tk d.1) d.2.1)/\(((sr d.2.1 (x:Int)&& !true)=true->true=true->yb (U.tk d.1) d.2.1 x++[(je8 x d)]=uF (U.tk d.1) d.2.1)/\((sr d.2.1 (x:Int)&& !true)=false->kK ((x:Int)+1)/\∃(a:Nat),(jgc x a)/\(yb (U.tk d.1) d.2.1 x++[(je8 x d)],true)=(yb (U.tk d.1) d.2.1 a,true)/\a<=(jdP d).length/\(jdP d).length-a<(jdP d).length-x))/\((sr d.2.1 (x:Int)&& !false)=true->false=true->yb (U.tk d.1) d.2.1 x++[(je8 x d)]=uF (U.tk d.1) d.2.1)/\((sr d.2.1 (x:Int)&& !false)=false->kK ((x:Int)+1)/\∃(a:Nat),(jgc x a)/\(yb (U.tk d.1) d.2.1 x++[(je8 x d)],false)=(yb (U.tk d.1) d.2.1 a,true)/\a<=(jdP d).length/\(jdP d).length-a<(jdP d).length-x))/\(sr d.2.1 (x:Int)=false->((sr d.2.1 (x:Int)&& !false)=true->true=true->yb (U.tk d.1) d.2.1 x=uF (U.tk d.1) d.2.1)/\((sr d.2.1 (x:Int)&& !false)=false->kK ((x:Int)+1)/\∃(a:Nat),(jgc x a)/\(yb (U.tk d.1) d.2.1 x,true)=(yb (U.tk d.1) d.2.1 a,true)/\a<=(jdP d).length/\(jdP d).length-a<(jdP d).length-x)))/\(decide ((x:Int)<(je7 d).1.2.1.length)=false->true=true->yb (U.tk d.1) d.2.1 x=uF (U.tk d.1) d.2.1))
theorem iv:(V8 (ctx 28 [(208,lk)] []) (wq Tryz.f207) [.int,tPe] [.ref (.ptr tTk),.ref (.uint .u64)] LM (fun d=>[d.1.isSome=true,(kB (U.tc (U.tk d.1))).length<=60]) (fun d _=>PV d) (fun d l=>hkY [.int,tPe] l [24] (fun q=>∃rest,LM d (q++rest)) (fun _=>none)))=bt:=by kernel_rfl
def wa:om:=⟨[.val (.ptr tTk),.val (.uint .u64)],fun _=>[],207,[.ptr tTk,.uint .u64],fun d=>(d.1,d.2.1,())⟩
def dx:Prop:=∀(d:Option (CrD×JbD×LwD×Unit)×Int×Unit),d=d
theorem mF:(S3 (ctx 6 [] []) (fun _=>none) Tryz.f159 (wq Tryz.f159) wa)=dx:=by kernel_rfl
def OA (sv:SV):Option (Prop×(List (Ty.st [.int,tPe]).Data->Prop)):=match sv with
 | .clo 207 [.ep b t,.ep c s]=>(match wN b (.ptr tTk) t,wN c (.uint .u64) s with
  |some a,some d=>some ((a.isSome=true/\(kB (U.tc (U.tk a))).length<=60),fun xs=>xs=uF (U.tk a) d)
  |_,_=>none)
 |_=>none
def Tl:IL [.int,tPe]:={ps:=[.ref (.ptr tTk),.ref .int,.ref .int,.own (.box 4 [.dat .bool]) true],slots:=[4,6,7,8],dst:=34,pre:=fun _=>[],G:=fun d q=>((d.2.2.2.1.1||y8 (U.tk d.1) d.2.1 d.2.2.1 q,()),()),stop:=fun d q=>y8 (U.tk d.1) d.2.1 d.2.2.1 q,seq:=OA}
def BX:Nat->Option ((ts:List Ty)×IL ts):=fun r=>match r with
 |3=>some ⟨[.int,tPe],Tl⟩
 |_=>none
def fS:wd:=⟨[.val (.ptr tTk),.val (.uint .u64),.val .int,.val .int],[.bool],false,
 fun d=>[d.1.isSome=true,bI (U.tk d.1),0<=d.2.2.1,d.2.2.1<U.la (U.tc (U.tk d.1)),0<=d.2.2.2.1,d.2.2.2.1<U.la (U.tc (U.tk d.1))],fun d=>(lV (U.tk d.1) d.2.1 d.2.2.1 d.2.2.2.1,())⟩
abbrev jgP (d:Option (CrD×JbD×LwD×Unit)×Int×Int×Int×Unit)(x:Int×PeD×Unit):=((kQ (((0:Int),[],[],()),((0:Int),(0:Int),(0:Int),(0:Int),(0:Int),(0:Int),()),((0:Int),(0:Int),false,()),()) d.1).2.2.1.1<=min (nth x.2.1.1 d.2.2.1.toNat) (nth x.2.1.1 d.2.2.2.1.toNat))
abbrev jgd (d:Option (CrD×JbD×LwD×Unit)×Int×Int×Int×Unit):=(fun(a:List (Int×PeD×Unit))=>y8 (U.tk d.1) d.2.2.1 d.2.2.2.1 a)
def fT:Prop:=∀(d:Option (CrD×JbD×LwD×Unit)×Int×Int×Int×Unit),d.1.isSome=true->bI (U.tk d.1)->0<=d.2.2.1->d.2.2.1<U.la (U.tc (U.tk d.1))->0<=d.2.2.2.1->d.2.2.2.1<U.la (U.tc (U.tk d.1))->(d.1.isSome=true/\(kB (U.tc (U.tk d.1))).length<=60)/\True/\(d.1,d.2.2.1,d.2.2.2.1,(false||y8 (U.tk d.1) d.2.2.1 d.2.2.2.1 [],()),())=(d.1,d.2.2.1,d.2.2.2.1,(false,()),())/\(∀(q:List (Int×PeD×Unit)) (x:Int×PeD×Unit) (rest:List (Int×PeD×Unit)),q++x::rest=uF (U.tk d.1) d.2.1->vM (jgd d) q->0<=d.2.2.1/\d.2.2.1<(x.2.1.1.length:Int)/\0<=d.2.2.2.1/\d.2.2.2.1<(x.2.1.1.length:Int)/\d.1.isSome=true/\(decide (jgP d x)=true->y8 (U.tk d.1) d.2.2.1 d.2.2.2.1 (q++[x])=true/\((true,()),())=((false||y8 (U.tk d.1) d.2.2.1 d.2.2.2.1 (q++[x]),()),()))/\(decide (jgP d x)=false->y8 (U.tk d.1) d.2.2.1 d.2.2.2.1 (q++[x])=false/\((false||y8 (U.tk d.1) d.2.2.1 d.2.2.2.1 q,()),())=((false||y8 (U.tk d.1) d.2.2.1 d.2.2.2.1 (q++[x]),()),())))/\(∀(xs:List (Int×PeD×Unit)),xs=uF (U.tk d.1) d.2.1->vM (jgd d) xs->(false,())=(lV (U.tk d.1) d.2.1 d.2.2.1 d.2.2.2.1,()))/\∀(q:List (Int×PeD×Unit)) (x:Int×PeD×Unit) (rest:List (Int×PeD×Unit)),q++x::rest=uF (U.tk d.1) d.2.1->vM (jgd d) q->y8 (U.tk d.1) d.2.2.1 d.2.2.2.1 (q++[x])=true->(false||y8 (U.tk d.1) d.2.2.1 d.2.2.2.1 (q++[x]),())=(lV (U.tk d.1) d.2.1 d.2.2.1 d.2.2.2.1,())
theorem oI:(Ox (KV 33 [] [] [(159,wa)] []) fS (fun _ _=>none) (hkC (KV 33 [] [] [(159,wa)] []) (fun _=>none) BX [] []) Tryz.f210 (wq Tryz.f210))=fT:=by kernel_rfl
theorem DS:BW:=by
 rintro⟨l,x,⟨⟩⟩ d;refine⟨⟨0,⟨⟨rfl,tZ⟩,tZ⟩,jw _,fun b a=>by omega⟩,fun i hi=>⟨fun h=> ?_,fun h=> ?_⟩⟩;have h:i<l.length:=(by simpa using h);simp only[ju] at*;refine⟨by omega,by omega,fun a=> ?_,fun a=>⟨iZ6,i+1,⟨⟨by simp,tZ⟩,tZ⟩,⟨by omega,fun b c=> ?_⟩,by omega⟩⟩;rw[vK (p:=fun y=>decide (y=x)) h hi.2 (by have:=jb a;rw[<-this];exact jK rfl)];by_cases e:b=i;subst e;exact zi (fun e=>jd a e.symm);exact hi.2 b (by omega);have h:l.length<=i:=(by simpa using h);rw[qx (p:=fun y=>decide (y=x)) h hi.2]
theorem BY:wm PR 111 BU:=vd BV DS Tryz.func111 kcN koN
theorem sY:rm:=by
 rintro⟨l,x,⟨⟩⟩;exact jS (·,()) (ff (fun y=>decide (y=x)) l)
theorem ck:wm PR 76 rk:=kZ sY Tryz.func76 (kcC BY kcN) koN
theorem oJ {c:CrD} {j:JbD} (h:qv c j=0):kR c=true/\wV c j=true:=by
 unfold qv at h
 split at h
 omega
 split at h
 omega;rename_i a b;exact⟨by simpa using a,by simpa using b⟩
theorem w5 {c:CrD} (h:kR c=true):2<=U.la c/\U.la c<=5/\(kB c).length<=8/\(vP c).length=4/\(∀p∈kB c,fL (U.la c) p=true)/\∀l∈vP c,dV l=true:=by
 unfold kR at h;simp only[ji,js,jY] at h;exact⟨h.1.1,h.1.2.1,h.1.2.2.1,h.1.2.2.2,h.2.1,h.2.2⟩
theorem lw {c:CrD} {j:JbD} (h:wV c j=true):(0<=RE j/\RE j<U.la c)/\(0<=KW j/\KW j<U.la c)/\RE j≠KW j/\(0<=Xy j/\Xy j<=7)/\(0<=iH j/\iH j<=3)/\(1<=jaz j/\jaz j<=8):=by
 unfold wV at h;have h:=jb h;obtain⟨d,m,e,n,f,_,_,g,i,k,l,a,b⟩:=h;exact⟨⟨d,by omega⟩,⟨e,by omega⟩,f,⟨g,i⟩,⟨k,l⟩,a,b⟩
theorem Tm {c:CrD} {j:JbD} (h:qv c j=0):FR c j=some (c,j,dX c j,())/\bI (c,j,dX c j,()):=by
 obtain⟨a,b⟩:=oJ h;exact⟨by unfold FR;rw[jg h],a,b,rfl⟩
theorem Wj:Tk:=by
 unfold Tk Prod.q4;rintro⟨c,j,⟨⟩⟩;refine⟨fun h=> ?_,fun h=> ?_⟩;have h:qv c j≠0:=jb h;simp only;unfold FR;rw[jc h];have h:qv c j=0:=(by simpa using h);obtain⟨b,d⟩:=oJ h;obtain⟨_,_,_,a,_⟩:=w5 b;obtain⟨_,_,_,_,hk,_⟩:=lw d;have hk:0<=j.2.2.2.2.1/\j.2.2.2.2.1<=3:=hk;have a:c.2.2.1.length=4:=a;refine⟨hk.1,by simp only;omega,?_⟩;simp only;rw[(Tm h).1,h];rfl
theorem Jg:wm PR 105 Tj:=kZ Wj Tryz.func105 (kcC Fo kcN) koN
theorem sZ (t:TkD) (s:Int) (n:Nat):yb t s (n+1)=yb t s n++(if sr s (n:Int)=true then[((n:Int),nth (kB (U.tc t)) n,())] else[]):=by
 unfold yb;rw[L.cB,zA]
 split<;>simp
theorem Tn (t:TkD) (s:Int) {n m:Nat} (h:n<=m):∃rest,yb t s n++rest=yb t s m:=by
 induction m with
 |zero=>
  have:n=0:=(by omega);subst this;exact⟨[],by simp⟩
 |succ m b=>
  by_cases e:n=m+1;subst e;exact⟨[],by simp⟩;obtain⟨r,a⟩:=b (by omega);rw[sZ,<-a];exact⟨r++_,by rw[jL]⟩
theorem ru:bt:=by
 unfold bt jgc je8 jdP je7;rintro⟨(_|t),s,⟨⟩⟩ l i e;cases i;have e:(kB (U.tc t)).length<=60:=e;refine⟨rfl,fun _=>⟨⟨0,⟨⟨rfl,tZ⟩,tZ⟩,rfl,jw _⟩,fun x g=> ?_⟩⟩;have g:x<=(kB (U.tc t)).length:=g;have c:U.tk (some t)=t:=rfl;refine⟨fun h=> ?_,fun h=> ?_⟩;have h:x<(kB (U.tc t)).length:=by
  have:=jb h;have this:(x:Int)<(kB (U.tc t)).length:=this;omega
 have j:(x:Int)<(kB (U.tc t)).length:=(by omega);refine⟨by omega,j,by omega,by omega,fun b=> ?_,fun b=> ?_⟩;have d:yb t s (x+1)=yb t s x++[((x:Int),nth (kB (U.tc t)) x,())]:=(by rw[sZ,jg b]);obtain⟨r,f⟩:=Tn t s (show x+1<=(kB (U.tc t)).length by omega);refine⟨rfl,⟨r,by rw[d] at f;exact f⟩,⟨fun a=>absurd a (by rw[Bool.not_true,Bool.and_false];simp),fun _=>⟨iZ6,x+1,⟨⟨by omega,tZ⟩,tZ⟩,?_,(show x+1<=(kB (U.tc t)).length by omega),(show(kB (U.tc t)).length-(x+1)<(kB (U.tc t)).length-x by omega)⟩⟩,
  fun _ a=>(by cases a),fun a=> ?_⟩
 rw[c,d];rfl;rw[Bool.not_false,Bool.and_true] at a;exact absurd b (by simp only at a⊢;rw[a];simp);have d:yb t s (x+1)=yb t s x:=by
  rw[sZ,jc (by simp only at b⊢;rw[b];simp),j7]
 refine⟨fun a=> ?_,fun _=>⟨iZ6,x+1,⟨⟨by omega,tZ⟩,tZ⟩,?_,(show x+1<=(kB (U.tc t)).length by omega),(show(kB (U.tc t)).length-(x+1)<(kB (U.tc t)).length-x by omega)⟩⟩;rw[Bool.not_false,Bool.and_true] at a;exact absurd a (by simp only at b⊢;rw[b];simp);rw[c,d];have h:(kB (U.tc t)).length<=x:=by
  have:=jd h;have this:¬(x:Int)<(kB (U.tc t)).length:=this;omega
 intro _;rw[show x=(kB (U.tc t)).length by omega];rfl
theorem L8 {H:Imm} {lb:Array Value} {d:PD [.ref (.ptr tTk),.ref (.uint .u64)]} (g:pvs PR H [.ref (.ptr tTk),.ref (.uint .u64)] lb.toList d) (a:d.1.isSome=true) (b:(kB (U.tc (U.tk d.1))).length<=60):V6 PR H [.int,tPe] (LM d) (.func (.func 207) #[] lb):=
 XZ (C:=ctx 28 [(208,lk)] []) (nz ⟨fun _=>I9,tZ⟩ trivial) mixed Tryz.func207 (by kernel_rfl) (by kernel_rfl) (by kernel_rfl) (by kernel_rfl) (by decide) (iv.mpr ru) (fun d l B0 R h c e f=>ja0 c f) g ⟨a,b,tZ⟩
theorem uW:dx:=by intro d;rfl
theorem dz:IQ PR 159 wa:=ja3 (mF.mpr uW) Tryz.func159 (by kernel_rfl) (by kernel_rfl) (by kernel_rfl) (by kernel_rfl) trivial trivial
theorem Zp:∀(f:Nat) (p:Nat×ot),kN ([]:List (Nat×Nat×ot)) f=some p->ROK PR f p.2:=fun _ _ h=>by cases h
theorem Jh {sv:SV} {pr:Prop} {L:List (Ty.st [.int,tPe]).Data->Prop} {v:Value} {ρ:Env} (a:OA sv=some (pr,L)) (b:pr) (g:SV.den PR ρ sv v):V6 PR ρ.H [.int,tPe] L v:=by
 unfold OA at a
 split at a
 case h_2=>cases a
 rename_i m t n s
 split at a
 case h_2=>cases a
 rename_i q p l f;simp only[jv,Prod.mk.injEq] at a;obtain⟨rfl,rfl⟩:=a;obtain⟨e,rfl⟩:=kz l;subst e;obtain⟨e2,rfl⟩:=kz f;subst e2;simp only[SV.den,SV.denL] at g;obtain⟨lb,rfl,x,r,k,h,y,o,c,i,j⟩:=g;exact L8 (d:=(t,s,())) (by rw[k,c,j];exact⟨h,i,rfl⟩) b.1 b.2
theorem rz (t:TkD) (a b:Int) (q:List (Int×PeD×Unit)) (x:Int×PeD×Unit):y8 t a b (q++[x])=U.jn t a b x:=by
 unfold y8;rw[List.getLast?_append];simp
theorem L9 {t:TkD} {a b:Int} {q:List (Int×PeD×Unit)} (h:vM (fun q=>y8 t a b q) q):q.any (U.jn t a b)=false:=by
 rw[zl];intro x c;obtain⟨u,v,rfl⟩:=List.append_of_mem c;have:=h u x v rfl;simp only[rz] at this;rw[this];simp
theorem PW {t:TkD} {s:Int} {x:Int×PeD×Unit} (h:x∈uF t s):x.2.1∈kB (U.tc t):=by
 unfold uF yb at h;obtain⟨i,hi,rfl⟩:=jT.1 h;have:=jC.1 (jQ.1 hi).1;exact L.kx this
theorem Zq {n:Int} {p:PeD} (h:fL n p=true):((U.lv p).length:Int)=n:=by
 unfold fL at h;simp only[ji,js] at h;exact h.1.1
theorem BZ:fT:=by
 unfold fT jgd jgP;rintro⟨(_|t),s,a,b,⟨⟩⟩ r l v f w g;cases r;obtain⟨c1,c2,A⟩:=l;have c1:kR (U.tc t)=true:=c1;obtain⟨B,C,D,E,p,F⟩:=w5 c1;have k:(kB (U.tc t)).length<=60:=(by omega);have c:U.tk (some t)=t:=rfl;refine⟨⟨rfl,k⟩,tZ,rfl,fun q x rest i e=> ?_,fun xs j e=> ?_,fun q x rest i e d=> ?_⟩;have z:x∈uF t s:=(by rw[c] at i;rw[<-i];simp);have o:=Zq (p _ (PW z));have o:((x.2.1.1.length:Nat):Int)=U.la (U.tc t):=o;have f:a<U.la (U.tc t):=f;have g:b<U.la (U.tc t):=g;have m:y8 t a b q=false:=by
  cases n:q.getLast? with
  |none=>unfold y8;rw[n]
  |some y=>
   obtain⟨u,rfl⟩:=List.getLast?_eq_some_iff.1 n;have:=e u y [] rfl;exact this
 refine⟨v,by simp only;omega,w,by simp only;omega,rfl,fun h=> ?_,fun h=> ?_⟩;have h:U.jn t a b x=true:=h;have:y8 t a b (q++[x])=true:=(by rw[rz];exact h);rw[c];simp only;exact⟨this,by rw[this];rfl⟩;have h:U.jn t a b x=false:=h;have:y8 t a b (q++[x])=false:=(by rw[rz];exact h);rw[c];simp only;exact⟨this,by rw[this,m]⟩;rw[c] at j e;subst j;have:=L9 e;simp only;rw[c];unfold lV;rw[this];rw[c] at i d⊢;simp only at d⊢;rw[d];unfold lV;rw[<-i];rw[rz] at d;simp[d]
theorem Ji:(KV 33 [] [] [(159,wa)] []).ok PR:=LY trivial trivial ⟨dz,tZ⟩ trivial
theorem uX:wm PR 210 fS:=
 S8 (body:=wq Tryz.f210) (C:=KV 33 [] [] [(159,wa)] []) (hk:=hkC (KV 33 [] [] [(159,wa)] []) (fun _=>none) BX [] []) Ji mixed Tryz.func210 (by kernel_rfl) (by kernel_rfl) (by kernel_rfl) (by decide)
  (fun B=>Fk Ji mixed (fun k ts rs sv pr L v ρ hk c a b=>by
   unfold BX at hk
   split at hk
   case h_2=>cases hk
   simp only[jv] at hk
   cases hk
   exact Jh c a b) Zp B) (oI.mpr BZ)
namespace U
def gm (x:Int) (N n:Nat):List Int:=List.replicate n x++List.replicate (N-n) 0
def KX (t:TkD) (c:Int) (a b:Nat):Bool:=lV t c (a:Int) (b:Int)
def fM (t:TkD) (a:Int):List Int:=jbF (KX t a) (la (tc t)).toNat (KW (tj t)).toNat
def wt (t:TkD) (a:Int) (k:Nat):List Int×List Int:=gq (KX t a) (la (tc t)).toNat (KW (tj t)).toNat k
def yA (t:TkD) (a:Int) (x:List Int×List Int) (i:Nat):List Int×List Int:=sq (KX t a) (nth x.2 0).toNat x i
def jaB (t:TkD) (a:Int) (x:List Int×List Int) (lo:Nat):Prop:=jaw (KX t a) (la (tc t)).toNat (KW (tj t)).toNat x/\x.2≠[]/\x.2.length<=10/\lo<=10
end U
def glo (σ:St) (s:Nat):Nat:=match σ.get s with
 | .osl _ _ lo _=>lo
 |_=>0
def GP:wd:=⟨[.val (.uint .u64),.val (.uint .u64)],[.uint .u64,.uint .u64],false,fun d=>[0<=d.1,d.1<=1000,0<=d.2.1,d.2.1<=1000],fun d=>((0:Int),d.1*d.2.1,())⟩
abbrev jel (d:Int×Int×Unit):=(d.1/(2:Int)^Int.toNat 32*yq d.2.1 (4294967295:Int)+yq d.1 (4294967295:Int)*yq d.2.1 (4294967295:Int)/(2:Int)^Int.toNat 32)
abbrev jdQ (d:Int×Int×Unit):=(d.2.1/(2:Int)^Int.toNat 32)
abbrev jge (d:Int×Int×Unit):=(yq (jel d) (4294967295:Int)+yq d.1 (4294967295:Int)*(jdQ d))
def GQ:Prop:=∀(d:Int×Int×Unit),0<=d.1->d.1<=1000->0<=d.2.1->d.2.1<=1000->(0:Int)<=32/\(32:Int)<=64/\(0:Int)<=32/\(32:Int)<=64/\0<=yq d.1 (4294967295:Int)*yq d.2.1 (4294967295:Int)/\yq d.1 (4294967295:Int)*yq d.2.1 (4294967295:Int)<=18446744073709551615/\0<=d.1/(2:Int)^Int.toNat 32*yq d.2.1 (4294967295:Int)/\d.1/(2:Int)^Int.toNat 32*yq d.2.1 (4294967295:Int)<=18446744073709551615/\(0:Int)<=32/\(32:Int)<=64/\0<=d.1/(2:Int)^Int.toNat 32*yq d.2.1 (4294967295:Int)+yq d.1 (4294967295:Int)*yq d.2.1 (4294967295:Int)/(2:Int)^Int.toNat 32/\d.1/(2:Int)^Int.toNat 32*yq d.2.1 (4294967295:Int)+yq d.1 (4294967295:Int)*yq d.2.1 (4294967295:Int)/(2:Int)^Int.toNat 32<=18446744073709551615/\(0:Int)<=32/\(32:Int)<=64/\0<=yq d.1 (4294967295:Int)*(jdQ d)/\yq d.1 (4294967295:Int)*(jdQ d)<=18446744073709551615/\0<=yq (jel d) (4294967295:Int)+yq d.1 (4294967295:Int)*(jdQ d)/\yq (jel d) (4294967295:Int)+yq d.1 (4294967295:Int)*(jdQ d)<=18446744073709551615/\0<=d.1/(2:Int)^Int.toNat 32*(jdQ d)/\d.1/(2:Int)^Int.toNat 32*(jdQ d)<=18446744073709551615/\0<=d.1/(2:Int)^Int.toNat 32*(jdQ d)+(jel d)/(2:Int)^Int.toNat 32/\d.1/(2:Int)^Int.toNat 32*(jdQ d)+(jel d)/(2:Int)^Int.toNat 32<=18446744073709551615/\(0:Int)<=32/\(32:Int)<=64/\0<=d.1/(2:Int)^Int.toNat 32*(jdQ d)+(jel d)/(2:Int)^Int.toNat 32+(jge d)/(2:Int)^Int.toNat 32/\d.1/(2:Int)^Int.toNat 32*(jdQ d)+(jel d)/(2:Int)^Int.toNat 32+(jge d)/(2:Int)^Int.toNat 32<=18446744073709551615/\0<=d.1*d.2.1/\d.1*d.2.1<=18446744073709551615/\(d.1/(2:Int)^Int.toNat 32*(jdQ d)+(jel d)/(2:Int)^Int.toNat 32+(jge d)/(2:Int)^Int.toNat 32,d.1*d.2.1,())=((0:Int),d.1*d.2.1,())
def Ma:wd:=⟨[.val (.uint .u64),.val (.uint .u64)],[.uint .u64,.uint .u64],false,fun d=>[0<=d.1,d.1<=1000,0<=d.2.1,d.2.1<=1000],fun d=>((0:Int),d.1*d.2.1,())⟩
def Mb:Prop:=∀(d:Int×Int×Unit),0<=d.1->d.1<=1000->0<=d.2.1->d.2.1<=1000->(false=true->False)/\(qF->0<=d.1/\d.1<=1000/\0<=d.2.1/\d.2.1<=1000/\((0:Int),d.1*d.2.1,())=((0:Int),d.1*d.2.1,()))
def uY:qb:=⟨[.val (.slice .int),.val .int],[.cl (.row 3 .int .no)],fun d=>[d.1.length=1,0<=d.2.1,d.2.1<=1000],fun d=>((List.replicate d.2.1.toNat (nth d.1 0),()),())⟩
def uZ:Ann:=fun r=>match r with
 |8=>some fun σ=>{X:=Nat,sl:=fun n=>[(8,.dat .int (n:Int))],ob:=fun n=>[(7,some (.row 3 .int false .no (gm (nth (gd (.slice .int) σ 0) 0) (gd .int σ 1).toNat n)))],inv:=fun n=>n<=(gd .int σ 1).toNat/\(1<=n\/(gd .int σ 1).toNat=0),mu:=fun n=>(gd .int σ 1).toNat-n}
 |_=>none
abbrev jdV (d:List Int×Int×Unit):=(d.1.length:Int)
abbrev je9 (d:List Int×Int×Unit):=(List.replicate ((jdV d)*d.2.1).toNat (0:Int))
abbrev jfa (d:List Int×Int×Unit)(x:Nat):=(gm (nth d.1 0) d.2.1.toNat x)
abbrev jez (d:List Int×Int×Unit)(x:Nat):=(↑(jfa d x).length:Int)
abbrev jgf (x:Nat)(d:List Int×Int×Unit):=(List.take ((x:Int).toNat-Int.toNat 0) (List.drop (Int.toNat 0) (jfa d x)))
abbrev jfI (d:List Int×Int×Unit)(x:Nat):=((jez d x).toNat-(x:Int).toNat)
abbrev jgQ (d:List Int×Int×Unit):=(decide ((0:Int)<0)||decide (9223372036854775807<(jdV d)*d.2.1))
def u5:Prop:=∀(d:List Int×Int×Unit),d.1.length=1->0<=d.2.1->d.2.1<=1000->(decide (d.2.1<0)=true->False)/\(decide (d.2.1<0)=false->d.1.length<4611686018427387904->0<=(jdV d)/\(jdV d)<=18446744073709551615/\0<=d.2.1/\d.2.1<=18446744073709551615/\0<=(jdV d)/\(jdV d)<=1000/\0<=d.2.1/\d.2.1<=1000/\((jgQ d)=true->False)/\((jgQ d)=false->kK ((jdV d)*d.2.1)/\0<=(jdV d)*d.2.1/\(jdV d)*d.2.1=(jdV d)*d.2.1/\((jdV d)*d.2.1).toNat*8<=140737488355328/\0+(je9 d).length<=(je9 d).length/\(∃(x:Nat),(((↑(List.take (je9 d).length d.1).length:Int)=(x:Int)/\True)/\Ry (je9 d) 0 (je9 d).length d.1=gm (nth d.1 0) d.2.1.toNat x/\True)/\x<=d.2.1.toNat/\(1<=x\/d.2.1.toNat=0))/\∀(x:Nat),x<=d.2.1.toNat/\(1<=x\/d.2.1.toNat=0)->(jfa d x).length<4611686018427387904->(decide ((x:Int)<(jez d x))=true->0<=(x:Int)/\(x:Int)<=(jez d x)/\(jez d x)<=(jez d x)/\(0:Int)<=0/\0<=(x:Int)/\(x:Int)<=(jez d x)/\(x:Int).toNat+(jfI d x)<=(jfa d x).length/\kK ((x:Int)+(List.take (jfI d x) (jgf x d)).length)/\∃(a:Nat),(((x:Int)+(List.take (jfI d x) (jgf x d)).length=(a:Int)/\True)/\Ry (jfa d x) (x:Int).toNat (jfI d x) (jgf x d)=gm (nth d.1 0) d.2.1.toNat a/\True)/\(a<=d.2.1.toNat/\(1<=a\/d.2.1.toNat=0))/\d.2.1.toNat-a<d.2.1.toNat-x)/\(decide ((x:Int)<(jez d x))=false->(gm (nth d.1 0) d.2.1.toNat x,())=(List.replicate d.2.1.toNat (nth d.1 0),())/\()=())))
def ym:wd:=⟨[.val (.ptr tTk),.val (.uint .u64)],[.slice .int],false,fun d=>[d.1.isSome=true,bI (U.tk d.1)],fun d=>(fM (U.tk d.1) d.2.1,())⟩
def GR:Ann:=fun r=>match r with
 |4=>some fun σ=>{X:=Nat×List Int,sl:=fun x=>[(6,.osl 6 .int x.2.length (wt (U.tk (gd (.ptr tTk) σ 0)) (gd (.uint .u64) σ 1) x.1).2.length)],ob:=fun x=>[(5,some (.row 3 .int false .no (wt (U.tk (gd (.ptr tTk) σ 0)) (gd (.uint .u64) σ 1) x.1).1)),(6,some (.row 3 .int false .no (x.2++(wt (U.tk (gd (.ptr tTk) σ 0)) (gd (.uint .u64) σ 1) x.1).2)))],inv:=fun x=>x.2.length<=x.1/\x.1<=(U.la (U.tc (U.tk (gd (.ptr tTk) σ 0)))).toNat,mu:=fun x=>(U.la (U.tc (U.tk (gd (.ptr tTk) σ 0)))).toNat+1-x.1}
 |7=>some fun σ=>{X:=Nat×List Int,sl:=fun x=>[(28,.any),(35,.dat .int (x.1:Int)),(6,.osl 6 .int x.2.length (yA (U.tk (gd (.ptr tTk) σ 0)) (gd (.uint .u64) σ 1) (gr .int σ 5,(gr .int σ 6).drop (glo σ 6)) x.1).2.length)],ob:=fun x=>[(5,some (.row 3 .int false .no (yA (U.tk (gd (.ptr tTk) σ 0)) (gd (.uint .u64) σ 1) (gr .int σ 5,(gr .int σ 6).drop (glo σ 6)) x.1).1)),(6,some (.row 3 .int false .no (x.2++(yA (U.tk (gd (.ptr tTk) σ 0)) (gd (.uint .u64) σ 1) (gr .int σ 5,(gr .int σ 6).drop (glo σ 6)) x.1).2)))],inv:=fun x=>x.1<=(gr .int σ 5).length/\x.2.length<=glo σ 6/\jaB (U.tk (gd (.ptr tTk) σ 0)) (gd (.uint .u64) σ 1) (gr .int σ 5,(gr .int σ 6).drop (glo σ 6)) (glo σ 6),mu:=fun x=>(gr .int σ 5).length-x.1}
 |2000011=>some fun _=>{X:=Unit,sl:=fun _=>[],ob:=fun _=>[],inv:=fun _=>True,mu:=fun _=>0}
 |_=>none
abbrev jee (d:Option (CrD×JbD×LwD×Unit)×Int×Unit):=(kQ (((0:Int),[],[],()),((0:Int),(0:Int),(0:Int),(0:Int),(0:Int),(0:Int),()),((0:Int),(0:Int),false,()),()) d.1)
abbrev jdC (d:Option (CrD×JbD×LwD×Unit)×Int×Unit)(x:Nat×List Int):=(wt (U.tk d.1) d.2.1 x.1)
abbrev jeL (d:Option (CrD×JbD×LwD×Unit)×Int×Unit)(x:Nat×List Int):=((jdC d x).1,List.drop x.2.length (x.2++(jdC d x).2))
abbrev jdv (d:Option (CrD×JbD×LwD×Unit)×Int×Unit)(x:Nat×List Int)(a:Nat×List Int):=(yA (U.tk d.1) d.2.1 (jeL d x) a.1)
abbrev jd2 (d:Option (CrD×JbD×LwD×Unit)×Int×Unit)(x:Nat×List Int)(a:Nat×List Int):=(nth (jdv d x a).1 (a.1:Int).toNat<0)
abbrev jem (a:Nat×List Int):=(a.2.length+Int.toNat 0)
abbrev jeM (d:Option (CrD×JbD×LwD×Unit)×Int×Unit)(x:Nat×List Int)(a:Nat×List Int):=(yA (U.tk d.1) d.2.1 (jeL d x) a.1)
def GS:Prop:=∀(d:Option (CrD×JbD×LwD×Unit)×Int×Unit),d.1.isSome=true->bI (U.tk d.1)->d.1.isSome=true/\[(-1:Int)].length=1/\(0:Int)<=(jee d).1.1/\(jee d).1.1<=1000/\d.1.isSome=true/\(0:Int)<=(jee d).2.1.2.1/\(jee d).2.1.2.1<(↑(List.replicate (jee d).1.1.toNat (nth [(-1:Int)] 0)).length:Int)/\d.1.isSome=true/\(∃(x:Nat×List Int),(((x.2.length=0/\(jdC d x).2.length=[(jee d).2.1.2.1].length)/\True)/\(List.replicate (jee d).1.1.toNat (nth [(-1:Int)] 0)).set (jee d).2.1.2.1.toNat 0=(jdC d x).1/\[(jee d).2.1.2.1]=x.2++(jdC d x).2/\True)/\x.2.length<=x.1/\x.1<=(U.la (U.tc (U.tk d.1))).toNat)/\∀(x:Nat×List Int),x.2.length<=x.1/\x.1<=(U.la (U.tc (U.tk d.1))).toNat->(jdC d x).2.length<4611686018427387904->(decide ((0:Int)<(jdC d x).2.length)=true->(jdC d x).1.length<4611686018427387904->(∃(a:Nat×List Int),((0=(a.1:Int)/\(x.2.length=a.2.length/\(jdC d x).2.length=(jdv d x a).2.length)/\True)/\(jdC d x).1=(jdv d x a).1/\x.2++(jdC d x).2=a.2++(jdv d x a).2/\True)/\a.1<=(jdC d x).1.length/\a.2.length<=x.2.length/\jaB (U.tk d.1) d.2.1 (jeL d x) x.2.length)/\∀(a:Nat×List Int),a.1<=(jdC d x).1.length/\a.2.length<=x.2.length/\jaB (U.tk d.1) d.2.1 (jeL d x) x.2.length->(decide ((a.1:Int)<(jdC d x).1.length)=true->0<=(a.1:Int)/\(a.1:Int)<(jdv d x a).1.length/\(decide (jd2 d x a)=true->(0:Int)<=0)/\(decide (jd2 d x a)=true->(0:Int)<(jdv d x a).2.length)/\(decide (jd2 d x a)=true->d.1.isSome=true)/\(decide (jd2 d x a)=true->bI (U.tk d.1))/\(decide (jd2 d x a)=true->0<=nth (a.2++(jdv d x a).2) (jem a))/\(decide (jd2 d x a)=true->nth (a.2++(jdv d x a).2) (jem a)<U.la (U.tc (U.tk d.1)))/\(decide (jd2 d x a)=true->0<=(a.1:Int))/\(decide (jd2 d x a)=true->(a.1:Int)<U.la (U.tc (U.tk d.1)))/\((decide (jd2 d x a)&&lV (U.tk d.1) d.2.1 (nth (a.2++(jdv d x a).2) (jem a)) (a.1:Int))=true->(0:Int)<=0/\(0:Int)<(jdv d x a).2.length/\0<=nth (a.2++(jdv d x a).2) (jem a)/\nth (a.2++(jdv d x a).2) (jem a)<(↑(jdv d x a).1.length:Int)/\kK (nth (jdv d x a).1 (nth (a.2++(jdv d x a).2) (jem a)).toNat+1)/\0<=(a.1:Int)/\(a.1:Int)<(jdv d x a).1.length/\a.2.length+(jdv d x a).2.length=(a.2++(jdv d x a).2).length/\0<(jdv d x a).2.length/\a.2.length+(jdv d x a).2.length+[(a.1:Int)].length<4611686018427387904/\((jdv d x a).2.length+[(a.1:Int)].length)*8<=140737488355328/\∀(pre:List Int),pre.length<=a.2.length->kK ((a.1:Int)+1)/\∃(b:Nat×List Int),(((a.1:Int)+1=(b.1:Int)/\(pre.length=b.2.length/\(jdv d x a).2.length+[(a.1:Int)].length=(jeM d x b).2.length)/\True)/\pre++List.drop a.2.length (a.2++(jdv d x a).2)++[(a.1:Int)]=b.2++(jeM d x b).2/\(jdv d x a).1.set (a.1:Int).toNat (nth (jdv d x a).1 (nth (a.2++(jdv d x a).2) (jem a)).toNat+1)=(jeM d x b).1/\True)/\(b.1<=(jdC d x).1.length/\b.2.length<=x.2.length/\jaB (U.tk d.1) d.2.1 (jeL d x) x.2.length)/\(jdC d x).1.length-b.1<(jdC d x).1.length-a.1)/\((decide (jd2 d x a)&&lV (U.tk d.1) d.2.1 (nth (a.2++(jdv d x a).2) (jem a)) (a.1:Int))=false->kK ((a.1:Int)+1)/\∃(b:Nat×List Int),(((a.2.length=b.2.length/\(jdv d x a).2.length=(jeM d x b).2.length)/\(a.1:Int)+1=(b.1:Int)/\True)/\a.2++(jdv d x a).2=b.2++(jeM d x b).2/\(jdv d x a).1=(jeM d x b).1/\True)/\(b.1<=(jdC d x).1.length/\b.2.length<=x.2.length/\jaB (U.tk d.1) d.2.1 (jeL d x) x.2.length)/\(jdC d x).1.length-b.1<(jdC d x).1.length-a.1))/\(decide ((a.1:Int)<(jdC d x).1.length)=false->(0:Int)<=1/\(1:Int)<=(jdv d x a).2.length/\(↑(jdv d x a).2.length:Int)<=(jdv d x a).2.length/\∃(b:Nat×List Int),(((a.2.length+Int.toNat 1=b.2.length/\(↑(jdv d x a).2.length:Int).toNat-Int.toNat 1=(wt (U.tk d.1) d.2.1 b.1).2.length)/\True)/\(jdv d x a).1=(wt (U.tk d.1) d.2.1 b.1).1/\a.2++(jdv d x a).2=b.2++(wt (U.tk d.1) d.2.1 b.1).2/\True)/\(b.2.length<=b.1/\b.1<=(U.la (U.tc (U.tk d.1))).toNat)/\(U.la (U.tc (U.tk d.1))).toNat+1-b.1<(U.la (U.tc (U.tk d.1))).toNat+1-x.1))/\(decide ((0:Int)<(jdC d x).2.length)=false->((jdC d x).1,())=(fM (U.tk d.1) d.2.1,()))
theorem GU {x:Int} (a:0<=x) (b:x<=4294967295):yq x 4294967295=x:=by
 obtain⟨n,rfl⟩:∃n:Nat,x=(n:Int):=⟨x.toNat,by omega⟩;rw[show(4294967295:Int)=((4294967295:Nat):Int) from rfl,BT.uand_nat (by omega) (by omega),show(4294967295:Nat)=2^32-1 from rfl,Nat.and_two_pow_sub_one_eq_mod,Nat.mod_eq_of_lt (by omega)]
theorem Jj:GQ:=by
 unfold GQ jge jdQ jel;rintro⟨x,y,⟨⟩⟩ b c a d;simp only at b c a d;have f:=GU b (by omega);have g:=GU a (by omega);have e:=GU (x:=0) (by omega) (by omega);have h:x/2^Int.toNat 32=0:=Int.ediv_eq_zero_of_lt b (by show x<2^32;omega);have i:y/2^Int.toNat 32=0:=Int.ediv_eq_zero_of_lt a (by show y<2^32;omega);have k:0<=x*y:=z6 b a;have l:x*y<=1000*1000:=Int.mul_le_mul c d a (by omega);have c1:x*y/2^Int.toNat 32=0:=Int.ediv_eq_zero_of_lt k (by show x*y<2^32;omega);have j:(0:Int)/2^Int.toNat 32=0:=Int.zero_ediv _;simp only[f,g,h,i,Int.zero_mul,Int.mul_zero,Int.add_zero,c1,e,j]
 and_intros<;>first|omega|rfl|trivial
theorem GV:wm PR 237 GP:=kZ Jj Tryz.func237 kcN koN
theorem PX:Mb:=by
 rintro⟨x,y,⟨⟩⟩ a b c d;exact⟨fun h=>(by cases h),fun _=>⟨a,b,c,d,rfl⟩⟩
theorem Mc:wm PR 229 Ma:=kZ PX Tryz.func229 (kcC GV kcN) koN
theorem GW {x:Int} {N n:Nat} (h:n<=N):(gm x N n).length=N:=by
 unfold gm;simp;omega
theorem Jk {x:Int} {N n:Nat} (_:n<=N):(gm x N n).take n=List.replicate n x:=by
 unfold gm;rw[List.take_append_of_le_length (by simp),zy (by simp)]
theorem To {x:Int} {N n:Nat} (h:n<=N):Ry (gm x N n) n (N-n) (List.replicate n x)=gm x N (n+min (N-n) n):=by
 unfold Ry;rw[Jk h,List.take_replicate,zC];unfold gm;rw[List.drop_append,zC,List.drop_of_length_le (by simp),jW,List.drop_replicate,<-List.replicate_append_replicate];congr 2;omega
theorem B4:u5:=by
 unfold u5 jgQ jfI jgf jez jfa je9 jdV;rintro⟨l,n,⟨⟩⟩ b g e;simp only at b g e;obtain⟨N,rfl⟩:∃N:Nat,n=(N:Int):=⟨n.toNat,by omega⟩;obtain⟨y,rfl⟩:∃y,l=[y]:=by
  cases l with
  |nil=>simp at b
  |cons y r=>cases r with
   |nil=>exact⟨y,rfl⟩
   |cons z r=>simp at b
 have c:(([y].length:Nat):Int)*(N:Int)=(N:Int):=(by simp);have f:nth [y] 0=y:=rfl
 dsimp only
 refine⟨fun h=> ?_,fun _ _=>⟨by simp,by simp,by omega,by omega,by simp,by simp,by omega,e,fun h=> ?_,fun _=> ?_⟩⟩;have:=jb h;omega;rw[c] at h;have h:(9223372036854775807:Int)<(N:Int):=(by simpa using h);omega;rw[c,f];simp only[ju,zC];refine⟨iZ6,by omega,tZ,by omega,by omega,⟨min 1 N,⟨⟨?_,tZ⟩,?_,tZ⟩,by omega,by omega⟩,fun x a i=>⟨fun h=> ?_,fun h=> ?_⟩⟩;rw[j6];simp only[jX,zo];omega;rcases zP N with d|d;subst d;rfl;obtain⟨M,rfl⟩:∃M,N=M+1:=⟨N-1,by omega⟩;have:min 1 (M+1)=1:=(by omega);rw[this];simp[Ry,gm,List.replicate_succ];have h:=jb h;rw[GW a.1] at h;simp only[GW a.1,Int.toNat_zero,List.drop_zero,Nat.sub_zero,Jk a.1,List.take_replicate,zC];refine⟨by omega,by omega,by omega,by omega,by omega,by omega,by omega,iZ6,x+min (N-x) x,⟨⟨by omega,tZ⟩,To a.1,tZ⟩,⟨by omega,by omega⟩,by omega⟩;have h:=jd h;rw[GW a.1] at h;have h:x=N:=(by have:=a.1;omega);subst h;refine⟨?_,tZ⟩;unfold gm;rw[Nat.sub_self];simp
theorem u6:yE PR 209 uY:=ux uZ B4 Tryz.func209 (kcC Mc kcN) koN
theorem Zr {a b:List Int}:nth (a++b) (a.length+Int.toNat 0)=nth b 0:=by
 unfold nth;simp only[j8,Int.toNat_zero,zK];rw[jx (jk _),Nat.sub_self]
theorem Jl {t:TkD} {s:Int} (a:bI t):2<=U.la (U.tc t)/\U.la (U.tc t)<=5/\0<=KW (U.tj t)/\KW (U.tj t)<U.la (U.tc t):=by
 obtain⟨c1,c2,_⟩:=a;obtain⟨b,c,_⟩:=w5 c1;obtain⟨_,⟨d,e⟩,_⟩:=lw c2;exact⟨b,c,d,e⟩
theorem Jm:GS:=by
 unfold GS jeM jem jd2 jdv jeL jdC jee;rintro⟨(_|t),s,⟨⟩⟩ h0 m;cases h0;have m:bI t:=m;obtain⟨l1,l2,j1,j2⟩:=Jl (s:=s) m;have w:U.tk (some t)=t:=rfl;obtain⟨n,A⟩:∃n,n=(U.la (U.tc t)).toNat:=⟨_,rfl⟩;obtain⟨v,hv⟩:∃v,v=(KW (U.tj t)).toNat:=⟨_,rfl⟩;have Z:v<n:=(by omega);have X:∀k,jaw (KX t s) n v (wt t s k)/\((wt t s k).2=[]\/IX (wt t s k).1+(wt t s k).2.length+k=n):=by
  intro k;rw[A,hv] at*;exact BQ Z k
 refine⟨rfl,rfl,(by omega:0<=U.la (U.tc t)),(by omega:U.la (U.tc t)<=1000),rfl,j1,?_,rfl,⟨(0,[]),⟨⟨⟨rfl,rfl⟩,tZ⟩,rfl,?_,tZ⟩,jk _,jw _⟩,fun x hx S=>⟨fun j T=> ?_,fun h=> ?_⟩⟩;show KW (U.tj t)<(((List.replicate (U.la (U.tc t)).toNat (nth [(-1:Int)] 0)).length:Nat):Int);rw[zC];omega;show[KW (U.tj t)]=[]++[(((KW (U.tj t)).toNat:Nat):Int)];rw[jW,Int.toNat_of_nonneg j1];obtain⟨k,pre⟩:=x;obtain⟨W,H⟩:=hx;simp only[w,List.drop_left] at W H j T S⊢;rw[<-A] at H⊢;obtain⟨B,o⟩:=X k;have j:0<(wt t s k).2.length:=(by have:=jb j;omega);have d:(wt t s k).2≠[]:=fun e=>by rw[e] at j;simp at j
 have F:=B.i.len;rcases o with o|o;exact absurd o d;have p:wt t s (k+1)=y7 (KX t s) n (wt t s k):=(by rw[A];rfl);generalize V:wt t s k=x0 at*;obtain⟨g,r0,a⟩:∃q r,x0.2=q::r:=by
  cases I:x0.2 with
  |nil=>exact absurd I d
  |cons q r=>exact⟨q,r,rfl⟩
 obtain⟨L,g2,g3⟩:=B.i.que g (by rw[a];simp);have y:nth x0.2 0=g:=(by rw[a];rfl);have hla:((n:Nat):Int)=U.la (U.tc t):=(by omega);have f:jaB t s (x0.1,x0.2) pre.length:=by
  unfold jaB;rw[<-A,<-hv];exact⟨B,d,by simp only;omega,by omega⟩
 refine⟨⟨(0,pre),⟨⟨rfl,⟨rfl,rfl⟩,tZ⟩,rfl,rfl,tZ⟩,jw _,jk _,f⟩,?_⟩;rintro⟨i,p5⟩ ⟨hi,Q,_⟩;simp only at hi Q;have C:InI (KX t s) n v g.toNat i x0 (yA t s (x0.1,x0.2) i):=by
  have:=Tg (J:=KX t s) Z (q:=g.toNat) (by omega) g3 B.i B.le i (by omega);unfold yA;simp only[y];exact this
 have c:yA t s (x0.1,x0.2) (i+1)=so (KX t s) g.toNat (yA t s (x0.1,x0.2) i) i:=by
  unfold yA;simp only[y];exact Fm _ _ _ _
 have D:i=n->wt t s (k+1)=((yA t s (x0.1,x0.2) i).1,(yA t s (x0.1,x0.2) i).2.drop 1):=by
  intro e;subst e;rw[p];have:y7 (KX t s) i x0=((sq (KX t s) g.toNat x0 i).1,(sq (KX t s) g.toNat x0 i).2.drop 1):=by
   clear p c C f F d B X V;obtain⟨st,qu⟩:=x0;simp only at a;subst a;rfl
  rw[this];unfold yA;simp only[y]
 generalize hFI:yA t s (x0.1,x0.2) i=u at*;obtain⟨l,P⟩:=C.pre;have hQ:nth u.2 0=g:=(by rw[P,a];rfl);have G:0<u.2.length:=(by rw[P,a];simp);have hmu:=C.mu;have hFl:=C.i.len;have E:∀i:Nat,KX t s g.toNat i=lV t s g (i:Int):=by
  intro i;unfold KX;rw[Int.toNat_of_nonneg L]
 simp only[Zr,hQ];simp only[ju];refine⟨fun h=> ?_,fun h=> ?_⟩;have h:i<n:=(by have:=jb h;omega);refine⟨by omega,by omega,fun _=>by omega,fun _=>by omega,fun _=>rfl,fun _=>m,fun _=>L,fun _=>by omega,fun _=>by omega,fun _=>by omega,fun z=> ?_,fun z=> ?_⟩;rw[ji] at z;have h3:=jb z.1;have Y:=C.i.low g.toNat (by omega);have b:yA t s (x0.1,x0.2) (i+1)=(u.1.set i (nth u.1 g.toNat+1),u.2++[(i:Int)]):=by
  rw[c];unfold so;rw[jg ⟨h3,by rw[E];exact z.2⟩]
 refine⟨by omega,by omega,L,by omega,iZ6,by omega,by omega,by simp,G,by simp only[jX,zo];omega,by simp only[jX,zo];omega,fun K R=>⟨iZ6,(i+1,K),⟨⟨by simp,⟨rfl,?_⟩,tZ⟩,?_,?_,tZ⟩,⟨by simp only;omega,by simp only;omega,f⟩,by simp only;omega⟩⟩;rw[b];simp;rw[b,jL];rw[b];have b:yA t s (x0.1,x0.2) (i+1)=u:=by
  rw[c];unfold so;rw[jc (fun N=>by
   rw[E] at N;rw[N.2,jK N.1] at z;cases z)]
 refine⟨iZ6,(i+1,p5),⟨⟨⟨rfl,?_⟩,by simp,tZ⟩,?_,?_,tZ⟩,⟨by simp only;omega,by simp only;omega,f⟩,by simp only;omega⟩;rw[b];rw[b];rw[b];have h:i=n:=(by have:=jd h;omega);have O:=D h;have M:u.2=g::(r0++l):=(by rw[P,a];rfl);refine⟨by omega,by omega,by omega,(k+1,p5++[g]),⟨⟨⟨?_,?_⟩,tZ⟩,?_,?_,tZ⟩,⟨by simp only[jJ,jX,zo];omega,by simp only;omega⟩,by simp only;omega⟩;simp only[jJ,jX,zo];rfl;rw[O];simp only[zY];rfl;rw[O];rw[O,M];simp;simp only[w] at h⊢;have h:(wt t s x.1).2=[]:=by
  have:=jd h;exact zf (by omega)
 have hk:x.1<=n:=(by have:=hx.2;rw[w,<-A] at this;exact this);have h1:gq (KX t s) (U.la (U.tc t)).toNat (KW (U.tj t)).toNat ((U.la (U.tc t)).toNat+1)=wt t s x.1:=Wi (k:=x.1) h _ (by rw[<-A];omega);show((wt t s x.1).1,())=((gq (KX t s) (U.la (U.tc t)).toNat (KW (U.tj t)).toNat ((U.la (U.tc t)).toNat+1)).1,());rw[h1]
theorem GX:wm PR 161 ym:=vd GR Jm Tryz.func161 (kcC uX kcN) (koC u6 koN)
namespace U
def bX (t:TkD) (o:Int) (q:List (Int×PeD×Unit)):Int:=q.foldl (fun o x=>uor o (vg t x.2.1)) o
def dY (q:List (Int×PeD×Unit)):Bool:=q.any (fun x=>jbC x.2.1)
def Ey (b:Bool) (o k:Int):Int:=if b=true then uor o k else o
def qK (t:TkD) (s:Int):Int:=Ey (decide (nth (fM t s) (RE (tj t)).toNat<0)) (Ey (jcB (tl t)&& !dY (uF t s)) (Ey (decide (BT.size s≠max (jaz (tj t)) (jay (tl t)))) (bX t 0 (uF t s)) 8) 16) 32
def HT (c:CrD) (n:Int):Bool:=kk n 0 (2^(kB c).length-1)
def ao (c:CrD) (j:JbD) (n:Int):Int:=if qv c j≠0 then qv c j else if HT c n=true then 0 else 1
def jaC (c:CrD) (j:JbD) (n:Int):Int:=if ao c j n=0 then qK (c,j,dX c j,()) n else 0
def bJ (c:CrD) (j:JbD) (n:Nat):List Int:=((List.range n).filter (fun i=>decide (vg (c,j,dX c j,()) (nth (kB c) i)=0))).map (fun(i:Nat)=>(i:Int))
def cx (c:CrD) (j:JbD):List Int:=if qv c j=0 then bJ c j (kB c).length else[]
end U
def ve:wd:=⟨[.val (.ptr tTk),.val tPe],[.uint .u64],false,fun d=>[d.1.isSome=true,bI (U.tk d.1)],fun d=>(vg (U.tk d.1) d.2.1,())⟩
def Tp:IL [.int,tPe]:={ps:=[.ref (.ptr tTk),.own (.box 159 [.dat (.uint .u64)]) true,.own (.box 4 [.dat .bool]) true],slots:=[2,4,5],dst:=65,pre:=fun d=>[d.1.isSome=true,bI (U.tk d.1)],G:=fun d q=>((bX (U.tk d.1) d.2.1.1 q,()),(d.2.2.1.1||dY q,()),()),seq:=OA}
def B5:Nat->Option ((ts:List Ty)×IL ts):=fun r=>match r with
 |4=>some ⟨[.int,tPe],Tp⟩
 |_=>none
def fU:wd:=⟨[.val (.ptr tTk),.val (.uint .u64)],[.uint .u64],false,fun d=>[d.1.isSome=true,bI (U.tk d.1),BT.qV d.2.1],fun d=>(qK (U.tk d.1) d.2.1,())⟩
abbrev jdF (d:Option (CrD×JbD×LwD×Unit)×Int×Unit):=(kQ (((0:Int),[],[],()),((0:Int),(0:Int),(0:Int),(0:Int),(0:Int),(0:Int),()),((0:Int),(0:Int),false,()),()) d.1)
abbrev jen (d:Option (CrD×JbD×LwD×Unit)×Int×Unit):=(nth (fM (U.tk d.1) d.2.1) (jdF d).2.1.1.toNat<0)
abbrev jef (d:Option (CrD×JbD×LwD×Unit)×Int×Unit):=(qK (U.tk d.1) d.2.1,())
abbrev jgg:=(fun(a:List (Int×PeD×Unit))=>false)
abbrev jfJ (d:Option (CrD×JbD×LwD×Unit)×Int×Unit):=(↑(fM (U.tk d.1) d.2.1).length:Int)
def fV:Prop:=∀(d:Option (CrD×JbD×LwD×Unit)×Int×Unit),d.1.isSome=true->bI (U.tk d.1)->BT.qV d.2.1->(d.1.isSome=true/\(kB (U.tc (U.tk d.1))).length<=60)/\(d.1.isSome=true/\bI (U.tk d.1)/\True)/\(d.1,(bX (U.tk d.1) (0:Int) [],()),(false||dY [],()),())=(d.1,((0:Int),()),(false,()),())/\(∀(q:List (Int×PeD×Unit)) (x:Int×PeD×Unit) (rest:List (Int×PeD×Unit)),q++x::rest=uF (U.tk d.1) d.2.1->vM jgg q->d.1.isSome=true/\bI (U.tk d.1)/\qF/\((uor (bX (U.tk d.1) (0:Int) q) (vg (U.tk d.1) x.2.1),()),(false||dY q||x.2.1.q4.1,()),())=((bX (U.tk d.1) (0:Int) (q++[x]),()),(false||dY (q++[x]),()),()))/\(∀(xs:List (Int×PeD×Unit)),xs=uF (U.tk d.1) d.2.1->vM jgg xs->BT.qV d.2.1/\d.1.isSome=true/\d.1.isSome=true/\(decide (BT.size d.2.1≠max (jdF d).2.1.q4.2.1 (jdF d).2.2.1.2.1)=true->d.1.isSome=true/\(((jdF d).2.2.1.2.2.1&& !(false||dY xs))=true->d.1.isSome=true/\bI (U.tk d.1)/\d.1.isSome=true/\(0:Int)<=(jdF d).2.1.1/\(jdF d).2.1.1<(jfJ d)/\(decide (jen d)=true->(uor (uor (uor (bX (U.tk d.1) (0:Int) xs) (8:Int)) (16:Int)) (32:Int),())=(jef d))/\(decide (jen d)=false->(uor (uor (bX (U.tk d.1) (0:Int) xs) (8:Int)) (16:Int),())=(jef d)))/\(((jdF d).2.2.1.2.2.1&& !(false||dY xs))=false->d.1.isSome=true/\bI (U.tk d.1)/\d.1.isSome=true/\(0:Int)<=(jdF d).2.1.1/\(jdF d).2.1.1<(jfJ d)/\(decide (jen d)=true->(uor (uor (bX (U.tk d.1) (0:Int) xs) (8:Int)) (32:Int),())=(jef d))/\(decide (jen d)=false->(uor (bX (U.tk d.1) (0:Int) xs) (8:Int),())=(jef d))))/\(decide (BT.size d.2.1≠max (jdF d).2.1.q4.2.1 (jdF d).2.2.1.2.1)=false->d.1.isSome=true/\(((jdF d).2.2.1.2.2.1&& !(false||dY xs))=true->d.1.isSome=true/\bI (U.tk d.1)/\d.1.isSome=true/\(0:Int)<=(jdF d).2.1.1/\(jdF d).2.1.1<(jfJ d)/\(decide (jen d)=true->(uor (uor (bX (U.tk d.1) (0:Int) xs) (16:Int)) (32:Int),())=(jef d))/\(decide (jen d)=false->(uor (bX (U.tk d.1) (0:Int) xs) (16:Int),())=(jef d)))/\(((jdF d).2.2.1.2.2.1&& !(false||dY xs))=false->d.1.isSome=true/\bI (U.tk d.1)/\d.1.isSome=true/\(0:Int)<=(jdF d).2.1.1/\(jdF d).2.1.1<(jfJ d)/\(decide (jen d)=true->(uor (bX (U.tk d.1) (0:Int) xs) (32:Int),())=(jef d))/\(decide (jen d)=false->(bX (U.tk d.1) (0:Int) xs,())=(jef d)))))/\∀(q:List (Int×PeD×Unit)) (x:Int×PeD×Unit) (rest:List (Int×PeD×Unit)),q++x::rest=uF (U.tk d.1) d.2.1->vM jgg q->false=true->(bX (U.tk d.1) (0:Int) (q++[x]),())=(jef d)
theorem oK:(Ox (KV 64 [(106,ve),(160,yl),(161,ym)] [] [(159,wa)] []) fU (fun _ _=>none) (hkC (KV 64 [(106,ve),(160,yl),(161,ym)] [] [(159,wa)] []) (fun _=>none) B5 [] []) Tryz.f113 (wq Tryz.f113))=fV:=by kernel_rfl
def Tq:wd:=⟨[.val tCr,.val tJb,.val .int],[.ptr tTk,.int],false,fun _=>[],fun d=>(FR d.1 d.2.1,ao d.1 d.2.1 d.2.2.1,())⟩
abbrev jeN (d:CrD×JbD×Int×Unit):=(qv d.1 d.2.1=0)
abbrev jgR (d:CrD×JbD×Int×Unit):=(decide (jeN d)&& !kk d.2.2.1 (0:Int) ((1:Int)*2^(d.1.2.1.length:Int).toNat-1))
def Tr:Prop:=∀(d:CrD×JbD×Int×Unit),(decide (jeN d)=true->d.1.2.1.length<4611686018427387904)->(decide (jeN d)=true->0<=(d.1.2.1.length:Int))/\(decide (jeN d)=true->(d.1.2.1.length:Int)<=64)/\(decide (jeN d)=true->kK ((1:Int)*2^(d.1.2.1.length:Int).toNat))/\(decide (jeN d)=true->kK ((1:Int)*2^(d.1.2.1.length:Int).toNat-1))/\((jgR d)=true->(FR d.1 d.2.1,(1:Int),())=(FR d.1 d.2.1,ao d.1 d.2.1 d.2.2.1,()))/\((jgR d)=false->(FR d.1 d.2.1,qv d.1 d.2.1,())=(FR d.1 d.2.1,ao d.1 d.2.1 d.2.2.1,()))
def Md:wd:=⟨[.val tCr,.val tJb,.val .int],[.int,.int],false,fun _=>[],fun d=>(jaC d.1 d.2.1 d.2.2.1,ao d.1 d.2.1 d.2.2.1,())⟩
def Me:Prop:=∀(d:CrD×JbD×Int×Unit),(decide (ao d.1 d.2.1 d.2.2.1≠0)=true->((0:Int),ao d.1 d.2.1 d.2.2.1,())=(jaC d.1 d.2.1 d.2.2.1,ao d.1 d.2.1 d.2.2.1,()))/\(decide (ao d.1 d.2.1 d.2.2.1≠0)=false->0<=d.2.2.1/\d.2.2.1<=18446744073709551615/\(FR d.1 d.2.1).isSome=true/\bI (U.tk (FR d.1 d.2.1))/\BT.qV d.2.2.1/\kK (qK (U.tk (FR d.1 d.2.1)) d.2.2.1)/\(qK (U.tk (FR d.1 d.2.1)) d.2.2.1,(0:Int),())=(jaC d.1 d.2.1 d.2.2.1,ao d.1 d.2.1 d.2.2.1,()))
def Wk:wd:=⟨[.val tCr,.val tJb],[.slice .int,.int],false,fun _=>[],fun d=>(cx d.1 d.2.1,qv d.1 d.2.1,())⟩
def Wl:Ann:=fun r=>match r with
 |6=>some fun σ=>{X:=Nat,sl:=fun i=>[(23,.dat .int (i:Int)),(8,.own 8 .int)],ob:=fun i=>[(8,some (.row 3 .int false .yes (bJ (gd tCr σ 0) (gd tJb σ 1) i)))],inv:=fun i=>i<=(kB (gd tCr σ 0)).length,mu:=fun i=>(kB (gd tCr σ 0)).length-i}
 |_=>none
def Wm:Prop:=∀(d:CrD×JbD×Unit),(decide (qv d.1 d.2.1≠0)=true->([],qv d.1 d.2.1,())=(cx d.1 d.2.1,qv d.1 d.2.1,()))/\(decide (qv d.1 d.2.1≠0)=false->d.1.2.1.length<4611686018427387904->(∃(x:Nat),((0=(x:Int)/\True/\True)/\bJ d.1 d.2.1 x=[]/\True)/\x<=(kB d.1).length)/\∀(x:Nat),x<=(kB d.1).length->(decide ((x:Int)<d.1.2.1.length)=true->0<=(x:Int)/\(x:Int)<d.1.2.1.length/\(FR d.1 d.2.1).isSome=true/\bI (U.tk (FR d.1 d.2.1))/\(decide (vg (U.tk (FR d.1 d.2.1)) (nth d.1.2.1 (x:Int).toNat)=0)=true->((bJ d.1 d.2.1 x).length+[(x:Int)].length)*8<=140737488355328/\kK ((x:Int)+1)/\∃(a:Nat),(((x:Int)+1=(a:Int)/\True/\True)/\bJ d.1 d.2.1 x++[(x:Int)]=bJ d.1 d.2.1 a/\True)/\a<=(kB d.1).length/\(kB d.1).length-a<(kB d.1).length-x)/\(decide (vg (U.tk (FR d.1 d.2.1)) (nth d.1.2.1 (x:Int).toNat)=0)=false->kK ((x:Int)+1)/\∃(a:Nat),((True/\(x:Int)+1=(a:Int)/\True)/\bJ d.1 d.2.1 x=bJ d.1 d.2.1 a/\True)/\a<=(kB d.1).length/\(kB d.1).length-a<(kB d.1).length-x))/\(decide ((x:Int)<d.1.2.1.length)=false->(bJ d.1 d.2.1 x,(0:Int),())=(cx d.1 d.2.1,qv d.1 d.2.1,())))
theorem Tt (a b c:Bool):0<=Ro a b c/\Ro a b c<=7:=by
 unfold Ro jaA;cases a<;>cases b<;>cases c<;>simp
theorem B6 (t:TkD) (p:PeD):0<=vg t p/\vg t p<=7:=Tt _ _ _
theorem Jn {s:Int} (h:0<=s/\s<=1000):BT.qV s:=by unfold BT.qV;omega
theorem Tu {a b:Int} (c:0<=a/\a<64) (d:0<=b/\b<64):0<=uor a b/\uor a b<64:=by
 obtain⟨n,rfl⟩:∃n:Nat,a=(n:Int):=⟨a.toNat,by omega⟩;obtain⟨m,rfl⟩:∃m:Nat,b=(m:Int):=⟨b.toNat,by omega⟩;rw[BT.uor_nat (by omega) (by omega)];have:n|||m<2^6:=Nat.or_lt_two_pow (by omega) (by omega);omega
theorem Mf (t:TkD):∀(q:List (Int×PeD×Unit)) (o:Int),(0<=o/\o<64)->0<=bX t o q/\bX t o q<64
 |[],o,h=>h
 |x::q,o,h=>by
  have:=B6 t x.2.1
  exact Mf t q _ (Tu h ⟨by omega,by omega⟩)
theorem B7 {b:Bool} {o k:Int} (h:0<=o/\o<64) (hk:0<=k/\k<64):0<=Ey b o k/\Ey b o k<64:=by
 unfold Ey
 split
 exact Tu h hk;exact h
theorem PY (t:TkD) (s:Int):0<=qK t s/\qK t s<64:=by
 unfold qK;exact B7 (B7 (B7 (Mf t _ _ (by omega)) (by omega)) (by omega)) (by omega)
theorem Tv (t:TkD) (o:Int) (q:List (Int×PeD×Unit)) (x:Int×PeD×Unit):bX t o (q++[x])=uor (bX t o q) (vg t x.2.1):=by
 unfold bX;rw[jU];rfl
theorem Wn {t:TkD} {s:Int} (a:bI t):((fM t s).length:Int)=U.la (U.tc t):=by
 obtain⟨f,g,c,d⟩:=Jl (s:=s) a;have b:(KW (U.tj t)).toNat<(U.la (U.tc t)).toNat:=(by omega);have:=(BQ (J:=KX t s) b ((U.la (U.tc t)).toNat+1)).1.i.len;have e:(fM t s).length=(U.la (U.tc t)).toNat:=this;omega
theorem B8:fV:=by
 unfold fV jfJ jgg jef jen jdF Prod.q4;rintro⟨(_|t),s,⟨⟩⟩ n a c;cases n;have a:bI t:=a;have c:BT.qV s:=c;obtain⟨c1,c2,_⟩:=id a;obtain⟨_,_,p,_⟩:=w5 c1;obtain⟨⟨m,r⟩,_⟩:=lw c2;have o:=Wn (s:=s) a;have f:U.tk (some t)=t:=rfl;have b:0<=RE (U.tj t)/\RE (U.tj t)<(((fM t s).length:Nat):Int):=⟨m,by omega⟩;refine⟨⟨rfl,(by omega:(kB (U.tc t)).length<=60)⟩,⟨rfl,a,tZ⟩,rfl,fun q x rest u _=>⟨rfl,a,rfl,?_⟩,fun xs g _=>⟨c,rfl,rfl,?_⟩,fun q x rest _ _ h=>by cases h⟩;simp only[f,Tv];unfold dY;simp only[List.any_append,List.any_cons,List.any_nil,Bool.or_false,Bool.false_or];rfl;simp only[f] at g⊢;subst g;have key:∀(j k l:Bool),decide (BT.size s≠max (jaz (U.tj t)) (jay (U.tl t)))=j->(jcB (U.tl t)&& !dY (uF t s))=k->decide (nth (fM t s) (RE (U.tj t)).toNat<0)=l->
  Ey l (Ey k (Ey j (bX t 0 (uF t s)) 8) 16) 32=qK t s:=by
  intro j k l i e d;unfold qK;rw[i,e,d]
 refine⟨fun i=>⟨rfl,fun e=>⟨rfl,a,rfl,b.1,b.2,fun d=> ?_,fun d=> ?_⟩,fun e=>⟨rfl,a,rfl,b.1,b.2,fun d=> ?_,fun d=> ?_⟩⟩,fun i=>⟨rfl,fun e=>⟨rfl,a,rfl,b.1,b.2,fun d=> ?_,fun d=> ?_⟩,fun e=>⟨rfl,a,rfl,b.1,b.2,fun d=> ?_,fun d=> ?_⟩⟩⟩<;>
  (rw[Bool.false_or] at e;have:=key _ _ _ i e d;rw[<-this];rfl)
theorem GY {c:CrD} (h:kR c=true):(0:Int)<2^(kB c).length/\(2:Int)^(kB c).length<=256:=by
 obtain⟨_,_,a,_⟩:=w5 h;rw[BT.two_nat];have b:2^(kB c).length<=2^8:=Nat.pow_le_pow_right (by decide) a;have d:0<2^(kB c).length:=Nat.pow_pos (by decide);omega
theorem Wo:Tr:=by
 unfold Tr jgR jeN;rintro⟨c,j,n,⟨⟩⟩ _;have e:∀l:Nat,(1:Int)*2^((l:Int)).toNat=2^l:=fun l=>by rw[Int.one_mul,ju]
 simp only[e];refine⟨fun _=>by omega,fun h=> ?_,fun h=> ?_,fun h=> ?_,fun h=> ?_,fun h=> ?_⟩;have:=(w5 (oJ (jb h)).1).2.2.1;have this:c.2.1.length<=8:=this;omega;have:=GY (oJ (jb h)).1;have this:(0:Int)<2^c.2.1.length/\(2:Int)^c.2.1.length<=256:=this;exact iZ6;have:=GY (oJ (jb h)).1;have this:(0:Int)<2^c.2.1.length/\(2:Int)^c.2.1.length<=256:=this;exact iZ6;rw[ji] at h;have a:=jb h.1;have b:HT c n=false:=by
  have d:kk n 0 (2^c.2.1.length-1)=false:=(by simpa using h.2);exact d
 unfold ao;rw[jc (by omega),jc (by rw[b];simp)];unfold ao;by_cases a:qv c j=0;rw[jK a,Bool.true_and] at h;have b:HT c n=true:=by
  have d:kk n 0 (2^c.2.1.length-1)=true:=(by simpa using h);exact d
 rw[jc (by omega),jg b,a];rw[jg a]
theorem Tw:wm PR 112 Tq:=kZ Wo Tryz.func112 (kcC Jg (kcC yF kcN)) koN
theorem PZ {c:CrD} {j:JbD} {n:Int} (h:ao c j n=0):qv c j=0/\0<=n/\n<2^(kB c).length:=by
 unfold ao at h
 split at h
 rename_i b;omega;rename_i b
 split at h
 rename_i a;unfold HT kk at a;simp only[ji,js] at a;exact⟨by omega,a.1,by omega⟩;omega
theorem P0:Me:=by
 rintro⟨c,j,n,⟨⟩⟩;refine⟨fun h=> ?_,fun h=> ?_⟩;have h:ao c j n≠0:=jb h;simp only;unfold jaC;rw[jc h];have h:ao c j n=0:=(by simpa using h);obtain⟨d,e,f⟩:=PZ h;obtain⟨b,e2⟩:=Tm d;have i:=GY (oJ d).1;have a:U.tk (FR c j)=(c,j,dX c j,()):=(by rw[b];rfl);have g:=PY (c,j,dX c j,()) n;simp only[a];refine⟨e,by omega,by rw[b];rfl,e2,Jn ⟨e,by omega⟩,iZ6,?_⟩;unfold jaC;rw[jg h,h]
theorem Fp (c:CrD) (j:JbD) (n:Nat):bJ c j (n+1)=bJ c j n++(if vg (c,j,dX c j,()) (nth (kB c) n)=0 then[(n:Int)] else[]):=by
 unfold bJ;rw[L.cB,zA];by_cases h:vg (c,j,dX c j,()) (nth (kB c) n)=0;rw[jg (jK h),jg h];rfl;rw[jc (by simpa using h),jc h];rfl
theorem Tx (c:CrD) (j:JbD) (n:Nat):(bJ c j n).length<=n:=by
 unfold bJ;rw[zr];exact jE (z7 _ _) (by simp)
theorem Zs:Wm:=by
 rintro⟨c,j,⟨⟩⟩;refine⟨fun h=> ?_,fun h _=>⟨⟨0,⟨⟨rfl,tZ,tZ⟩,rfl,tZ⟩,jw _⟩,fun x f=>⟨fun a=> ?_,fun a=> ?_⟩⟩⟩;have h:qv c j≠0:=jb h;simp only;unfold cx;rw[jc h];have h:qv c j=0:=(by simpa using h);obtain⟨e,e2⟩:=Tm h;have d:U.tk (FR c j)=(c,j,dX c j,()):=(by rw[e];rfl);have a:x<(kB c).length:=by
  have a:=jb a;have a:(x:Int)<(kB c).length:=a;omega
 have g:(x:Int)<(kB c).length:=(by omega);have i:=(w5 (oJ h).1).2.2.1;have k:=Tx c j x;simp only[d,ju];refine⟨by omega,g,by rw[e];rfl,e2,fun b=>⟨by simp only[jX,zo];omega,iZ6,x+1,⟨⟨by simp,tZ,tZ⟩,?_,tZ⟩,a,by omega⟩,fun b=>⟨iZ6,x+1,⟨⟨tZ,by simp,tZ⟩,?_,tZ⟩,a,by omega⟩⟩;have b:vg (c,j,dX c j,()) (nth (kB c) x)=0:=jb b;rw[Fp,jg b];have b:¬vg (c,j,dX c j,()) (nth (kB c) x)=0:=jd b;rw[Fp,jc b,j7];have h:qv c j=0:=(by simpa using h);have a:(kB c).length<=x:=by
  have a:=jd a;have a:¬(x:Int)<(kB c).length:=a;omega
 have f:x<=(kB c).length:=f;simp only;unfold cx;rw[jg h,h,show x=(kB c).length by omega]
def B9:Ann:=fun r=>match r with
 |2=>some fun σ=>{X:=List (Int×Int)×Int,sl:=fun x=>[(4,.dat (.uint .u64) x.2)],ob:=fun x=>[(37,some (.iter .int .int x.1 none))],inv:=fun x=>am (su (U.tk (gd (.ptr tTk) σ 0)) (gd tPe σ 1)) x.1 x.2,mu:=fun x=>x.1.length}
 |_=>none
abbrev jeA (d:Option (CrD×JbD×LwD×Unit)×PeD×Unit):=(kQ (((0:Int),[],[],()),((0:Int),(0:Int),(0:Int),(0:Int),(0:Int),(0:Int),()),((0:Int),(0:Int),false,()),()) d.1)
def Ca:Prop:=∀(d:Option (CrD×JbD×LwD×Unit)×PeD×Unit),d.1.isSome=true->bI (U.tk d.1)->d.1.isSome=true/\d.1.isSome=true/\(0:Int)<=(jeA d).2.1.2.2.2.1/\(jeA d).2.1.2.2.2.1<=64/\d.1.isSome=true/\(0:Int)<=(jeA d).2.1.q4.1/\(jeA d).2.1.q4.1<=64/\[(0:Int),(1:Int),(2:Int)].Nodup/\∀(l:List (Int×Int)),l.Perm [((0:Int),jaA !d.2.1.2.2.2.1.any fun(e:Int)=>decide (e=(jeA d).2.1.2.2.1)),((1:Int),nL (d.2.1.2.1/(2:Int)^(jeA d).2.1.2.2.2.1.toNat) (1:Int)),((2:Int),nL (d.2.1.2.2.1/(2:Int)^(jeA d).2.1.q4.1.toNat) (1:Int))]->(((∃(x:List (Int×Int)×Int),((0=x.2/\True)/\l=x.1/\True)/\am (su (U.tk d.1) d.2.1) x.1 x.2)/\∀(x:List (Int×Int)×Int),am (su (U.tk d.1) d.2.1) x.1 x.2->(x.1=[]->(false=true->False)/\(qF->(x.2,())=(vg (U.tk d.1) d.2.1,())))/\∀(pre:List (Int×Int)) (a:Int×Int) (b:List (Int×Int)),x.1=pre++a::b->(true=true->(decide (a.2=0)=true->0<=a.1/\a.1<=64/\(0:Int)<=1*2^a.1.toNat/\(1:Int)*2^a.1.toNat<=18446744073709551615/\∃(c:List (Int×Int)×Int),((uor x.2 ((1:Int)*2^a.1.toNat)=c.2/\True)/\pre++b=c.1/\True)/\am (su (U.tk d.1) d.2.1) c.1 c.2/\c.1.length<x.1.length)/\(decide (a.2=0)=false->∃(c:List (Int×Int)×Int),((x.2=c.2/\True)/\pre++b=c.1/\True)/\am (su (U.tk d.1) d.2.1) c.1 c.2/\c.1.length<x.1.length))/\(true=false->(x.2,())=(vg (U.tk d.1) d.2.1,())))/\True)/\True
theorem Wp (z:Int):nL z 1=0\/nL z 1=1:=by
 unfold nL;rw[BitVec.toNat_and];have a:(BitVec.ofInt 64 1).toNat=1:=rfl;rw[a,Nat.and_one_is_mod];rcases Nat.mod_two_eq_zero_or_one (BitVec.ofInt 64 z).toNat with h|h;rw[h];exact .inl rfl;rw[h];exact .inr rfl
theorem OB (s n:Int):(nL (s/2^n.toNat) 1=0)↔(!yI s n)=true:=by
 unfold yI;rcases Wp (s/2^n.toNat) with h|h<;>rw[h]<;>simp
theorem Wq (a b c:Bool) (p:Nat):BT.has (Ro a b c) p=true↔(a=true/\p=0)\/(b=true/\p=1)\/(c=true/\p=2):=by
 match p with
 |0=>cases a<;>cases b<;>cases c<;>decide
 |1=>cases a<;>cases b<;>cases c<;>decide
 |2=>cases a<;>cases b<;>cases c<;>decide
 |p+3=>
  have h:=Tt a b c;have:BT.has (Ro a b c) (p+3)=false:=by
   cases d:BT.has (Ro a b c) (p+3) with
   |false=>rfl
   |true=>have:=BT.has_lt (k:=3) h.1 (by omega) d;omega
  rw[this];simp
theorem Wr (t:TkD) (p:PeD) (k:Nat):(∃e∈su t p,e.2=0/\e.1.toNat=k)↔BT.has (vg t p) k=true:=by
 unfold vg;rw[Wq];have c:jaA (!KG p (Xx (U.tj t)))=0↔KG p (Xx (U.tj t))=true:=by
  unfold jaA;cases KG p (Xx (U.tj t))<;>simp
 have e2:=OB (U.fd p) (Xy (U.tj t));have d:=OB (U.cl p) (iH (U.tj t));unfold su;simp only[jj,List.not_mem_nil,or_false];rw[<-c,<-e2,<-d];constructor;rintro⟨e,(rfl|rfl|rfl),a,b⟩;exact .inl ⟨a,b.symm⟩;exact .inr (.inl ⟨a,b.symm⟩);exact .inr (.inr ⟨a,b.symm⟩);rintro(⟨a,b⟩|⟨a,b⟩|⟨a,b⟩);exact⟨_,.inl rfl,a,b.symm⟩;exact⟨_,.inr (.inl rfl),a,b.symm⟩;exact⟨_,.inr (.inr rfl),a,b.symm⟩
theorem Ws {t:TkD} {p:PeD} {e:Int×Int} (h:e∈su t p):0<=e.1/\e.1<=2:=by
 unfold su at h;simp only[jj,List.not_mem_nil,or_false] at h;rcases h with rfl|rfl|rfl<;>simp
theorem P1 (t:TkD) (p:PeD):(su t p).Nodup:=by
 unfold su;simp
theorem Mg {t:TkD} {p:PeD} {l:List (Int×Int)} (h:l.Perm (su t p)):am (su t p) l 0:=by
 refine⟨BT.Dv,h.symm.nodup (P1 t p),fun e c=>h.mem_iff.1 c,fun k=> ?_⟩;rw[BT.sB];constructor;intro h;cases h;rintro⟨e,a,b,_⟩;exact absurd (h.mem_iff.2 a) b
theorem P2 {t:TkD} {p:PeD} {s:Int} (h:am (su t p) [] s):s=vg t p:=by
 obtain⟨a,_,_,c⟩:=h;refine BT.ext a (Jn (by have:=B6 t p;omega)) (fun k=> ?_);rw[j0,c,<-Wr];constructor;rintro⟨e,a,_,b⟩;exact⟨e,a,b⟩;rintro⟨e,a,b⟩;exact⟨e,a,by simp,b⟩
theorem Fq {all pre a:List (Int×Int)} {e:Int×Int} {s j:Int} (h:am all (pre++e::a) s) (p:BT.qV j) (hk:∀k,BT.has j k=true↔BT.has s k=true\/(e.2=0/\e.1.toNat=k)):am all (pre++a) j:=by
 obtain⟨q,m,l,n⟩:=h;have i:(e::(pre++a)).Nodup:=List.perm_middle.nodup m;have b:∀x,x∈pre++e::a↔x=e\/x∈pre++a:=fun x=>by rw[List.perm_middle.mem_iff,jj]
 rw[zp] at i;refine⟨p,i.2,fun x c=>l x ((b x).2 (.inr c)),fun k=> ?_⟩;rw[hk,n];constructor;rintro(⟨x,d,f,g⟩|⟨d,f⟩);exact⟨x,d,fun c=>f ((b x).2 (.inr c)),g⟩;exact⟨e,l e ((b e).2 (.inl rfl)),i.1,d,f⟩;rintro⟨x,d,f,g⟩;by_cases c:x=e;subst c;exact .inr g;exact .inl ⟨x,d,fun o=>by rcases(b x).1 o with h|h;exact c h;exact f h,g⟩
theorem DT:Ca:=by
 unfold Ca jeA Prod.q4;rintro⟨(_|t),p,⟨⟩⟩ s d;cases s;have d:bI t:=d;have r:U.tk (some t)=t:=rfl;obtain⟨c1,c2,_⟩:=id d;obtain⟨_,_,_,⟨m,o⟩,⟨n,q⟩,_⟩:=lw c2;have m:0<=t.2.1.2.2.2.1:=m;have o:t.2.1.2.2.2.1<=7:=o;have n:0<=t.2.1.2.2.2.2.1:=n;have q:t.2.1.2.2.2.2.1<=3:=q;refine⟨rfl,rfl,m,by simp only[kQ];omega,rfl,n,by simp only[kQ];omega,by decide,fun l w=>⟨⟨⟨⟨(l,0),⟨⟨rfl,tZ⟩,rfl,tZ⟩,Mg w⟩,fun x b=>⟨fun h=>⟨fun h=>(by cases h),fun _=> ?_⟩,fun pre e a h=>⟨fun _=> ?_,fun h=>(by cases h)⟩⟩⟩,tZ⟩,tZ⟩⟩;rw[h] at b;rw[P2 b];rw[h] at b;have u:e∈su t p:=b.2.2.1 e (by simp);have hk:=Ws u;obtain⟨k,g,v⟩:∃k:Nat,e.1=(k:Int)/\k<=2:=⟨e.1.toNat,by omega,by omega⟩;have y:(1:Int)*2^k=2^k:=Int.one_mul _;have c:(pre++a).length<x.1.length:=(by rw[h];simp);have i:BT.qV ((2:Int)^k):=BT.mC (by omega);refine⟨fun f=> ?_,fun f=> ?_⟩;have f:e.2=0:=jb f;rw[g,ju,y];refine⟨by omega,by omega,by unfold BT.qV at i;omega,by unfold BT.qV at i;omega,(pre++a,uor x.2 (2^k)),⟨⟨rfl,tZ⟩,rfl,tZ⟩,Fq b (BT.uor_set b.1 i) (fun j=> ?_),c⟩;rw[BT.has_uor b.1 i,BT.Ax,zm,js,g,ju];simp[f];have f:¬e.2=0:=jd f;exact⟨(pre++a,x.2),⟨⟨rfl,tZ⟩,rfl,tZ⟩,Fq b b.1 (fun j=>by simp[f]),c⟩
theorem lx:wm PR 106 ve:=vd B9 DT Tryz.func106 (kcC ck (kcC PU kcN)) koN
theorem Jo:(KV 64 [(106,ve),(160,yl),(161,ym)] [] [(159,wa)] []).ok PR:=LY ⟨fun _=>lx,fun _=>GM,fun _=>GX,tZ⟩ trivial ⟨dz,tZ⟩ trivial
theorem u7:wm PR 113 fU:=
 S8 (body:=wq Tryz.f113) (C:=KV 64 [(106,ve),(160,yl),(161,ym)] [] [(159,wa)] []) (hk:=hkC (KV 64 [(106,ve),(160,yl),(161,ym)] [] [(159,wa)] []) (fun _=>none) B5 [] []) Jo mixed Tryz.func113 (by kernel_rfl) (by kernel_rfl) (by kernel_rfl) (by decide)
  (fun B=>Fk Jo mixed (fun k ts rs sv pr L v ρ hk c a b=>by
   unfold B5 at hk
   split at hk
   case h_2=>cases hk
   simp only[jv] at hk
   cases hk
   exact Jh c a b) Zp B) (oK.mpr B8)
theorem Mh:wm PR 77 Md:=kZ P0 Tryz.func77 (kcC Tw (kcC u7 kcN)) koN
theorem Wt:wm PR 74 Wk:=vd Wl Zs Tryz.func74 (kcC Jg (kcC lx kcN)) koN
namespace U
def bP (a b:Int):Int:=if a<b then-1 else if b<a then 1 else 0
def vW (l:List Int):Int:=match l.find? (fun n=>decide (n≠0)) with|some n=>n|none=>0
end U
structure fg {α:Type} (c:α->α->Int):Prop where
 anti:∀a b,c b a= -(c a b)
 trans:∀a b d,c a b<=0->c b d<=0->c a d<=0
section
variable {α:Type} {c c1 c2:α->α->Int}
theorem fg.refl (h:fg c) (a:α):c a a=0:=by have:=h.anti a a;omega
theorem fg.lt_le (h:fg c) {a b d:α} (g:c a b<0) (f:c b d<=0):c a d<0:=by
 have i:=h.trans a b d (by omega) f;have j:=h.anti a d;have k:=h.anti a b;by_cases e:c a d=0;have:=h.trans b d a f (by omega);omega;omega
theorem fg.le_lt (h:fg c) {a b d:α} (f:c a b<=0) (g:c b d<0):c a d<0:=by
 have i:=h.trans a b d f (by omega);have j:=h.anti a d;have k:=h.anti b d;by_cases e:c a d=0;have:=h.trans d a b (by omega) f;omega;omega
theorem fg.eq_eq (h:fg c) {a b d:α} (e:c a b=0) (f:c b d=0):c a d=0:=by
 have g:=h.trans a b d (by omega) (by omega);have i:=h.anti a d;have j:=h.anti a b;have k:=h.anti b d;have:=h.trans d b a (by omega) (by omega);omega
def RB (c1 c2:α->α->Int) (a b:α):Int:=if c1 a b≠0 then c1 a b else c2 a b
theorem oL (c:fg c1) (g:fg c2):fg (RB c1 c2) where
 anti a b:=by
  have i:=c.anti a b;have h:=g.anti a b;unfold RB;by_cases e:c1 a b=0;rw[jc (by omega),jc (by omega)];exact h;rw[jg (by omega),jg e];exact i
 trans a b d:=by
  unfold RB;by_cases e:c1 a b=0;rw[jc (by omega)];by_cases f:c1 b d=0;rw[jc (by omega),jc (by have:=c.eq_eq e f;omega)];exact g.trans a b d;rw[jg f];intro _ k;have:=c.le_lt (a:=a) (b:=b) (d:=d) (by omega) (by omega);rw[jg (by omega)];omega;rw[jg e];intro k;by_cases f:c1 b d=0;rw[jc (by omega)];intro _;have:=c.lt_le (a:=a) (b:=b) (d:=d) (by omega) (by omega);rw[jg (by omega)];omega;rw[jg f];intro h;have:=c.lt_le (a:=a) (b:=b) (d:=d) (by omega) (by omega);rw[jg (by omega)];omega
theorem nA {β:Type} (h:fg c) (f:β->α):fg (fun a b=>c (f a) (f b)):=⟨fun a b=>h.anti (f a) (f b),fun a b d=>h.trans (f a) (f b) (f d)⟩
end
theorem ly:fg bP:=by
 constructor;intro a b;unfold bP;split<;>split<;>(try split)<;>(try split)<;>omega
 intro a b d;unfold bP;split<;>split<;>(try split)<;>(try split)<;>(try split)<;>(try split)<;>omega
theorem Tz {a b:Int}:bP a b<0↔a<b:=by
 unfold bP
 split
 simp;omega
 split<;>simp<;>omega
theorem gO {a b:Int}:bP a b=0↔a=b:=by
 unfold bP
 split
 simp;omega
 split
 simp;omega;simp;omega
theorem wx (x:Int) (l:List Int):vW (x::l)=if x≠0 then x else vW l:=by
 unfold vW;by_cases e:x=0;simp[List.find?,e];simp[List.find?,e]
theorem qE (x:Int):vW [x]=x:=by
 rw[wx]
 split
 rfl;rename_i h;have:x=0:=(by omega);rw[this];rfl
theorem Am {t:Ty} {c:t.Data->t.Data->Int} (d:fg c) {l:List t.Data} (h:∀x y,x∈l->y∈l->c x y=0->x=y):qR (kr t fun x=>(c x.1 x.2.1,())) l where
 irrefl x _:=by
  unfold kr;have:=d.refl x;simp only[this];rfl
 trans x y z _ _ _ b a:=by
  unfold kr at*;have b:=jb b;have a:=jb a;exact jK (d.lt_le b (by have a:c y z<0:=a;show c y z<=0;omega))
 total x y hx hy b a:=by
  unfold kr at*;have b:¬c x y<0:=jd b;have a:¬c y x<0:=jd a;have:=d.anti x y;exact h x y hx hy (by omega)
end Go.X
namespace Go.X
open U
namespace M
theorem mput_cons {kt:Ty} {β:Type} (k:kt.Data) (v:β) (e:kt.Data×β) (r:List (kt.Data×β)):d9 kt k v (e::r)=if @decide (k=e.1) (kt.decEq k e.1)=true then(k,v)::r else e::d9 kt k v r:=rfl
theorem mfind_cons {kt:Ty} {β:Type} (k:kt.Data) (e:kt.Data×β) (r:List (kt.Data×β)):kJ kt k (e::r)=if @decide (k=e.1) (kt.decEq k e.1)=true then some e.2 else kJ kt k r:=rfl
theorem mfind_none {kt:Ty} {β:Type} {k:kt.Data}:∀{l:List (kt.Data×β)},k∉l.map (·.1)->kJ kt k l=none
 |[],_=>rfl
 |e::r,h=>by
  simp only[zu,jj,not_or] at h
  rw[mfind_cons,jc (fun a=>h.1 (@jb _ (kt.decEq k e.1) a))]
  exact mfind_none h.2
theorem dec_self {kt:Ty} (k:kt.Data): @decide (k=k) (kt.decEq k k)=true:= @jK _ (kt.decEq k k) rfl
theorem mput_fst {kt:Ty} {β:Type} (k:kt.Data) (v:β):∀m:List (kt.Data×β),(d9 kt k v m).map (·.1)=m.map (·.1)\/(k∉m.map (·.1)/\(d9 kt k v m).map (·.1)=m.map (·.1)++[k])
 |[]=> .inr ⟨by simp,rfl⟩
 |e::r=>by
  rw[mput_cons]
  by_cases h: @decide (k=e.1) (kt.decEq k e.1)=true
  rw[jg h]
  have h:k=e.1:= @jb _ (kt.decEq k e.1) h
  left
  simp[h]
  rw[jc h]
  have h:¬k=e.1:=fun a=>h (@jK _ (kt.decEq k e.1) a)
  rcases mput_fst k v r with d|⟨b,c⟩
  left;simp only[zu,d]
  right
  refine⟨?_,by simp only[zu,c,jV]⟩
  rw[zu,jj]
  rintro(a|a)
  exact h a
  exact b a
theorem ph {kt:Ty} {β:Type} (k:kt.Data) (v:β):∀l:List (kt.Data×β),kJ kt k (d9 kt k v l)=some v
 |[]=>by
  rw[show d9 kt k v []=[(k,v)] from rfl,mfind_cons,jg (dec_self k)]
 |e::r=>by
  rw[mput_cons]
  by_cases h: @decide (k=e.1) (kt.decEq k e.1)=true
  rw[jg h,mfind_cons,jg (dec_self k)]
  rw[jc h,mfind_cons,jc h]
  exact ph k v r
theorem cS {kt:Ty} {β:Type} {k k':kt.Data} (a:k'≠k) (v:β):∀l:List (kt.Data×β),kJ kt k' (d9 kt k v l)=kJ kt k' l
 |[]=>by
  rw[show d9 kt k v []=[(k,v)] from rfl,mfind_cons,jc (fun e=>a (@jb _ (kt.decEq k' k) e))]
 |e::r=>by
  rw[mput_cons]
  by_cases h: @decide (k=e.1) (kt.decEq k e.1)=true
  rw[jg h]
  have h:k=e.1:= @jb _ (kt.decEq k e.1) h
  have c:¬@decide (k'=e.1) (kt.decEq k' e.1)=true:=fun b=>a ((@jb _ (kt.decEq k' e.1) b).trans h.symm)
  rw[mfind_cons,mfind_cons,jc c,jc (fun e=>a (@jb _ (kt.decEq k' k) e))]
  rw[jc h,mfind_cons,mfind_cons,cS a v r]
theorem mD {kt:Ty} {β:Type} {k:kt.Data} {v:β}:∀{l:List (kt.Data×β)},(l.map (·.1)).Nodup->(kJ kt k l=some v↔(k,v)∈l)
 |[],_=>by simp[kJ]
 |e::r,h=>by
  simp only[zu,zp] at h
  rw[mfind_cons]
  by_cases hk: @decide (k=e.1) (kt.decEq k e.1)=true
  rw[jg hk]
  have hk:k=e.1:= @jb _ (kt.decEq k e.1) hk
  subst hk
  rw[jj]
  constructor
  intro a;simp at a;exact .inl (by rw[<-a])
  rintro(a|a)
  rw[<-a]
  exact absurd (jT.2 ⟨_,a,rfl⟩) h.1
  rw[jc hk]
  have hk:¬k=e.1:=fun b=>hk (@jK _ (kt.decEq k e.1) b)
  rw[mD h.2,jj]
  constructor
  exact .inr
  rintro(a|a)
  exact absurd (by rw[<-a]) hk
  exact a
end M
end Go.X
namespace Go.Proofs
open Go.Shelf
theorem xlay {t:Type} {a:Option t} {b c:t} (h:a=some b) (e:b=c:=by kernel_rfl):a=some c:=h.trans (congrArg some e)
def Tryz.sortSh_ren:Go.Shelf.Ren:=⟨fun|6=>107|15=>93|14=>153|28=>130|29=>131|20=>187|21=>188|22=>189|23=>190|24=>191|25=>192|26=>193|27=>194|46=>220|47=>167|48=>168|49=>221|50=>222|57=>232|n=>n,fun|22=>28|24=>75|25=>163|3=>3|39=>105|0=>0|53=>180|55=>182|4=>4|46=>174|45=>173|50=>63|5=>5|9=>9|66=>207|70=>211|76=>234|77=>235|n=>n,fun|n=>n⟩
theorem Tryz.sortSh:Go.Proofs.SlLaysF0.n6 Tryz.prog Tryz.sortSh_ren:={
 mixed:=by kernel_rfl
 f6:=⟨Tryz.f107.name,by decide,xlay Tryz.func107⟩
 f14:=⟨Tryz.f153.name,by decide,xlay Tryz.func153⟩
 f15:=xlay Tryz.func93
 f20:=⟨Tryz.f187.name,by decide,xlay Tryz.func187⟩
 f21:=⟨Tryz.f188.name,by decide,xlay Tryz.func188⟩
 f22:=⟨Tryz.f189.name,by decide,xlay Tryz.func189⟩
 f23:=⟨Tryz.f190.name,by decide,xlay Tryz.func190⟩
 f24:=⟨Tryz.f191.name,by decide,xlay Tryz.func191⟩
 f25:=⟨Tryz.f192.name,by decide,xlay Tryz.func192⟩
 f26:=⟨Tryz.f193.name,by decide,xlay Tryz.func193⟩
 f27:=⟨Tryz.f194.name,by decide,xlay Tryz.func194⟩
 f28:=xlay Tryz.func130
 f29:=xlay Tryz.func131
 f46:=⟨Tryz.f220.name,by decide,xlay Tryz.func220⟩
 f47:=xlay Tryz.func167
 f48:=xlay Tryz.func168
 f49:=⟨Tryz.f221.name,by decide,xlay Tryz.func221⟩
 f50:=⟨Tryz.f222.name,by decide,xlay Tryz.func222⟩
 f57:=⟨Tryz.f232.name,by decide,xlay Tryz.func232⟩
 t0:=Tryz.underlying0
 a0:=Tryz.isAgg0
 z0:=Tryz.sizeOf0
 v0:=Tryz.zeroValue0
 t3:=Tryz.underlying3
 a3:=Tryz.isAgg3
 z3:=Tryz.sizeOf3
 v3:=Tryz.zeroValue3
 t4:=Tryz.underlying4
 a4:=Tryz.isAgg4
 z4:=Tryz.sizeOf4
 v4:=Tryz.zeroValue4
 t5:=Tryz.underlying5
 a5:=Tryz.isAgg5
 z5:=Tryz.sizeOf5
 v5:=Tryz.zeroValue5
 t9:=Tryz.underlying9
 a9:=Tryz.isAgg9
 z9:=Tryz.sizeOf9
 v9:=Tryz.zeroValue9
 t22:=Tryz.underlying28
 a22:=Tryz.isAgg28
 z22:=Tryz.sizeOf28
 v22:=Tryz.zeroValue28
 t25:=Tryz.underlying163
 a25:=Tryz.isAgg163
 z25:=Tryz.sizeOf163
 v25:=Tryz.zeroValue163
 t39:=Tryz.underlying105
 a39:=Tryz.isAgg105
 z39:=Tryz.sizeOf105
 v39:=Tryz.zeroValue105
 t45:=Tryz.underlying173
 a45:=Tryz.isAgg173
 z45:=Tryz.sizeOf173
 v45:=Tryz.zeroValue173
 t46:=Tryz.underlying174
 a46:=Tryz.isAgg174
 z46:=Tryz.sizeOf174
 v46:=Tryz.zeroValue174
 t50:=Tryz.underlying63
 a50:=Tryz.isAgg63
 z50:=Tryz.sizeOf63
 v50:=Tryz.zeroValue63
 t53:=Tryz.underlying180
 a53:=Tryz.isAgg180
 z53:=Tryz.sizeOf180
 v53:=Tryz.zeroValue180
 t55:=Tryz.underlying182
 a55:=Tryz.isAgg182
 z55:=Tryz.sizeOf182
 v55:=Tryz.zeroValue182
 t66:=Tryz.underlying207
 a66:=Tryz.isAgg207
 z66:=Tryz.sizeOf207
 v66:=Tryz.zeroValue207
 t70:=Tryz.underlying211
 a70:=Tryz.isAgg211
 z70:=Tryz.sizeOf211
 v70:=Tryz.zeroValue211
 t76:=Tryz.underlying234
 a76:=Tryz.isAgg234
 z76:=Tryz.sizeOf234
 v76:=Tryz.zeroValue234
 t77:=Tryz.underlying235
 a77:=Tryz.isAgg235
 z77:=Tryz.sizeOf235
 v77:=Tryz.zeroValue235}
def Tryz.sortI_ren:Go.Shelf.Ren:=⟨fun|189=>110|125=>93|257=>157|128=>130|129=>131|294=>198|295=>199|296=>200|297=>201|298=>202|299=>203|216=>204|300=>205|301=>206|328=>226|329=>167|330=>168|331=>227|332=>228|215=>94|343=>235|n=>n,fun|28=>31|3=>3|46=>105|0=>0|51=>180|53=>182|4=>4|183=>174|182=>173|131=>63|5=>5|9=>9|218=>207|222=>211|228=>234|229=>235|n=>n,fun|n=>n⟩
theorem Tryz.sortI:Go.Proofs.Lays.n189 Tryz.prog Tryz.sortI_ren:={
 mixed:=by kernel_rfl
 f125:=xlay Tryz.func93
 f128:=xlay Tryz.func130
 f129:=xlay Tryz.func131
 f189:=xlay Tryz.func110
 f215:=xlay Tryz.func94
 f216:=xlay Tryz.func204
 f257:=xlay Tryz.func157
 f294:=xlay Tryz.func198
 f295:=xlay Tryz.func199
 f296:=xlay Tryz.func200
 f297:=xlay Tryz.func201
 f298:=xlay Tryz.func202
 f299:=xlay Tryz.func203
 f300:=xlay Tryz.func205
 f301:=xlay Tryz.func206
 f328:=xlay Tryz.func226
 f329:=xlay Tryz.func167
 f330:=xlay Tryz.func168
 f331:=xlay Tryz.func227
 f332:=xlay Tryz.func228
 f343:=xlay Tryz.func235
 t0:=Tryz.underlying0
 a0:=Tryz.isAgg0
 z0:=Tryz.sizeOf0
 v0:=Tryz.zeroValue0
 t3:=Tryz.underlying3
 a3:=Tryz.isAgg3
 z3:=Tryz.sizeOf3
 v3:=Tryz.zeroValue3
 t4:=Tryz.underlying4
 a4:=Tryz.isAgg4
 z4:=Tryz.sizeOf4
 v4:=Tryz.zeroValue4
 t5:=Tryz.underlying5
 a5:=Tryz.isAgg5
 z5:=Tryz.sizeOf5
 v5:=Tryz.zeroValue5
 t9:=Tryz.underlying9
 a9:=Tryz.isAgg9
 z9:=Tryz.sizeOf9
 v9:=Tryz.zeroValue9
 t28:=Tryz.underlying31
 a28:=Tryz.isAgg31
 z28:=Tryz.sizeOf31
 v28:=Tryz.zeroValue31
 t46:=Tryz.underlying105
 a46:=Tryz.isAgg105
 z46:=Tryz.sizeOf105
 v46:=Tryz.zeroValue105
 t51:=Tryz.underlying180
 a51:=Tryz.isAgg180
 z51:=Tryz.sizeOf180
 v51:=Tryz.zeroValue180
 t53:=Tryz.underlying182
 a53:=Tryz.isAgg182
 z53:=Tryz.sizeOf182
 v53:=Tryz.zeroValue182
 t131:=Tryz.underlying63
 a131:=Tryz.isAgg63
 z131:=Tryz.sizeOf63
 v131:=Tryz.zeroValue63
 t182:=Tryz.underlying173
 a182:=Tryz.isAgg173
 z182:=Tryz.sizeOf173
 v182:=Tryz.zeroValue173
 t183:=Tryz.underlying174
 a183:=Tryz.isAgg174
 z183:=Tryz.sizeOf174
 v183:=Tryz.zeroValue174
 t218:=Tryz.underlying207
 a218:=Tryz.isAgg207
 z218:=Tryz.sizeOf207
 v218:=Tryz.zeroValue207
 t222:=Tryz.underlying211
 a222:=Tryz.isAgg211
 z222:=Tryz.sizeOf211
 v222:=Tryz.zeroValue211
 t228:=Tryz.underlying234
 a228:=Tryz.isAgg234
 z228:=Tryz.sizeOf234
 v228:=Tryz.zeroValue234
 t229:=Tryz.underlying235
 a229:=Tryz.isAgg235
 z229:=Tryz.sizeOf235
 v229:=Tryz.zeroValue235}
end Go.Proofs
namespace Go.X
open U
open Go.Proofs
abbrev rwS:Sh:= .cl (.row 75 tSh .unk)
namespace U
def uG (s:SpD):Bool:=(decide (0<=lo s)&&decide (lo s<=hi s))&&decide (hi s<=300)
def Dj (n:Nat) (b:BkD):Bool:=((kk (jag b) 0 ((n:Int)-1)&&decide (0<=w8 b))&&decide (w8 b<fK b))&&decide (fK b<=1440)
def KI (nb a:Nat) (s:ShD):Bool:=(((kk (yR s) 0 99&&kk (H4 s) 0 9999)&&kk (Xz s) 1 2)&&kk (KE s) 0 ((nb:Int)-1))&&kk (nE s) 0 ((a:Int)-1)
def cy (a b:ShD):Int:=vW [bP (yR a) (yR b),bP (H4 a) (H4 b),bP (Xz a) (Xz b),bP (KE a) (KE b),bP (nE a) (nE b)]
def kI (a b:ShD):Int:=vW [bP (H4 a) (H4 b),bP (yR a) (yR b)]
def yc (a b:ShD):Bool:=decide (a=b)
def wz (l:List ShD):List ShD:=aw yc (ko (kr tSh fun x=>(cy x.1 x.2.1,())) l)
def mA (m:List (Int×Int)) (s:ShD):List (Int×Int):=d9 .int (yR s) (kW 0 (kJ .int (yR s) m)+1) m
def vH (m:List (Int×Int)) (l:List ShD) (n:Nat):List (Int×Int):=(l.take n).foldl mA m
def O0 (m:List (Int×Int)) (s:ShD):Bool:=decide (1<kW 0 (kJ .int (yR s) (mA m s)))
def sw (m:List (Int×Int)) (l:List ShD) (i:Nat):Bool:=O0 (vH m l i) (nth l i)
def lW (m:List (Int×Int)) (l:List ShD):Int:=vV (sw m l) (List.range l.length)
def Vg (m:List (Int×Int)) (l:List ShD):Nat:=match(List.range l.length).findIdx? (sw m l) with|some i=>i+1|none=>l.length
def o9 (m:List (Int×Int)) (l:List ShD):List (Int×Int):=vH m l (Vg m l)
def jbG (m:List (Int×Int)):Prop:=m=[]
def Vh (m:List (Int×Int)):Prop:=∀k,0<=kW 0 (kJ .int k m)/\kW 0 (kJ .int k m)<=200000
def RF (l:List ShD):Bool:=decide (0<=lW [] l)
def tX (d:DyD):Int:=if kR (kE d)=false then 30 else if KF d=false then 31 else 0
def wn (d:DyD):Int:=if tX d≠0 then tX d else if wL d=false then 50 else if RF (wz (qh d))=true then 51 else 0
end U
def Mi:wd:=⟨[.val .int,.val .int,.val .int],[.bool],false,fun _=>[],fun d=>(kk d.1 d.2.1 d.2.2.1,())⟩
def Mj:Prop:=∀(d:Int×Int×Int×Unit),(decide (d.2.1<=d.1)&&decide (d.1<=d.2.2.1),())=(kk d.1 d.2.1 d.2.2.1,())
def mG:wd:=⟨[.val (.slice tSp),.fn [tSp] [.bool]],[.int],false,fun d=>[∀g∈d.1,kG (d.2.1.pre (g,()))],fun d=>(vV (km (α:=SpD) d.2.1.F) d.1,())⟩
def mH:Ann:=fun r=>match r with
 |2=>some fun σ=>{X:=Nat,sl:=fun i=>[(8,.dat .int (i:Int))],ob:=fun _=>[],inv:=fun i=>i<=(gd (.slice tSp) σ 0).length/\∀b:Nat,b<i->km (gfb tSp σ 1) (nth (gd (.slice tSp) σ 0) b)=false,mu:=fun i=>(gd (.slice tSp) σ 0).length-i}
 |_=>none
def mI:Prop:=∀(d:List (Int×Int×Unit)×FnD [tSp] [Ty.bool]×Unit),(∀(g:Int×Int×Unit),g∈d.1->kG (d.2.1.1 (g,())))->d.1.length<4611686018427387904->(∃(x:Nat),((0=(x:Int)/\True)/\True)/\x<=d.1.length/\∀(b:Nat),b<x->km d.2.1.2 (nth d.1 b)=false)/\∀(x:Nat),(x<=d.1.length/\∀(b:Nat),b<x->km d.2.1.2 (nth d.1 b)=false)->(decide ((x:Int)<d.1.length)=true->0<=(x:Int)/\(x:Int)<d.1.length/\asks (d.2.1.1 (nth d.1 (x:Int).toNat,())) (((d.2.1.2 (nth d.1 (x:Int).toNat,())).1=true->((x:Int),())=(vV (km d.2.1.2) d.1,()))/\((d.2.1.2 (nth d.1 (x:Int).toNat,())).1=false->kK ((x:Int)+1)/\∃(a:Nat),(((x:Int)+1=(a:Int)/\True)/\True)/\(a<=d.1.length/\∀(b:Nat),b<a->km d.2.1.2 (nth d.1 b)=false)/\d.1.length-a<d.1.length-x)))/\(decide ((x:Int)<d.1.length)=false->((-1:Int),())=(vV (km d.2.1.2) d.1,()))
def fh:wd:=⟨[.val (.slice tSp),.fn [tSp] [.bool]],[.bool],false,fun d=>[∀g∈d.1,kG (d.2.1.pre (g,()))],fun d=>(d.1.any (km (α:=SpD) d.2.1.F),())⟩
def fi:Prop:=∀(d:List (Int×Int×Unit)×FnD [tSp] [Ty.bool]×Unit),(∀(g:Int×Int×Unit),g∈d.1->kG (d.2.1.1 (g,())))->(∀(g:Int×Int×Unit),g∈d.1->kG (d.2.1.1 (g,())))/\(decide (0<=vV (km d.2.1.2) d.1),())=(d.1.any (km d.2.1.2),())
def lz:wd:=⟨[.val (.slice (.slice tSp)),.fn [(.slice tSp)] [.bool]],[.int],false,fun d=>[∀g∈d.1,kG (d.2.1.pre (g,()))],fun d=>(vV (km (α:=(List SpD)) d.2.1.F) d.1,())⟩
def lA:Ann:=fun r=>match r with
 |2=>some fun σ=>{X:=Nat,sl:=fun i=>[(8,.dat .int (i:Int))],ob:=fun _=>[],inv:=fun i=>i<=(gd (.slice (.slice tSp)) σ 0).length/\∀b:Nat,b<i->km (gfb (.slice tSp) σ 1) (nth (gd (.slice (.slice tSp)) σ 0) b)=false,mu:=fun i=>(gd (.slice (.slice tSp)) σ 0).length-i}
 |_=>none
def lB:Prop:=∀(d:List (List (Int×Int×Unit))×FnD [tSp.slice] [Ty.bool]×Unit),(∀(g:List (Int×Int×Unit)),g∈d.1->kG (d.2.1.1 (g,())))->d.1.length<4611686018427387904->(∃(x:Nat),((0=(x:Int)/\True)/\True)/\x<=d.1.length/\∀(b:Nat),b<x->km d.2.1.2 (nth d.1 b)=false)/\∀(x:Nat),(x<=d.1.length/\∀(b:Nat),b<x->km d.2.1.2 (nth d.1 b)=false)->(decide ((x:Int)<d.1.length)=true->0<=(x:Int)/\(x:Int)<d.1.length/\asks (d.2.1.1 (nth d.1 (x:Int).toNat,())) (((d.2.1.2 (nth d.1 (x:Int).toNat,())).1=true->((x:Int),())=(vV (km d.2.1.2) d.1,()))/\((d.2.1.2 (nth d.1 (x:Int).toNat,())).1=false->kK ((x:Int)+1)/\∃(a:Nat),(((x:Int)+1=(a:Int)/\True)/\True)/\(a<=d.1.length/\∀(b:Nat),b<a->km d.2.1.2 (nth d.1 b)=false)/\d.1.length-a<d.1.length-x)))/\(decide ((x:Int)<d.1.length)=false->((-1:Int),())=(vV (km d.2.1.2) d.1,()))
def dA:wd:=⟨[.val (.slice (.slice tSp)),.fn [(.slice tSp)] [.bool]],[.bool],false,fun d=>[∀g∈d.1,kG (d.2.1.pre (g,()))],fun d=>(d.1.any (km (α:=(List SpD)) d.2.1.F),())⟩
def dB:Prop:=∀(d:List (List (Int×Int×Unit))×FnD [tSp.slice] [Ty.bool]×Unit),(∀(g:List (Int×Int×Unit)),g∈d.1->kG (d.2.1.1 (g,())))->(∀(g:List (Int×Int×Unit)),g∈d.1->kG (d.2.1.1 (g,())))/\(decide (0<=vV (km d.2.1.2) d.1),())=(d.1.any (km d.2.1.2),())
def fj:wd:=⟨[.val (.slice tBk),.fn [tBk] [.bool]],[.int],false,fun d=>[∀g∈d.1,kG (d.2.1.pre (g,()))],fun d=>(vV (km (α:=BkD) d.2.1.F) d.1,())⟩
def fo:Ann:=fun r=>match r with
 |2=>some fun σ=>{X:=Nat,sl:=fun i=>[(8,.dat .int (i:Int))],ob:=fun _=>[],inv:=fun i=>i<=(gd (.slice tBk) σ 0).length/\∀b:Nat,b<i->km (gfb tBk σ 1) (nth (gd (.slice tBk) σ 0) b)=false,mu:=fun i=>(gd (.slice tBk) σ 0).length-i}
 |_=>none
def fq:Prop:=∀(d:List BkD×FnD [tBk] [Ty.bool]×Unit),(∀(g:BkD),g∈d.1->kG (d.2.1.1 (g,())))->d.1.length<4611686018427387904->(∃(x:Nat),((0=(x:Int)/\True)/\True)/\x<=d.1.length/\∀(b:Nat),b<x->km d.2.1.2 (nth d.1 b)=false)/\∀(x:Nat),(x<=d.1.length/\∀(b:Nat),b<x->km d.2.1.2 (nth d.1 b)=false)->(decide ((x:Int)<d.1.length)=true->0<=(x:Int)/\(x:Int)<d.1.length/\asks (d.2.1.1 (nth d.1 (x:Int).toNat,())) (((d.2.1.2 (nth d.1 (x:Int).toNat,())).1=true->((x:Int),())=(vV (km d.2.1.2) d.1,()))/\((d.2.1.2 (nth d.1 (x:Int).toNat,())).1=false->kK ((x:Int)+1)/\∃(a:Nat),(((x:Int)+1=(a:Int)/\True)/\True)/\(a<=d.1.length/\∀(b:Nat),b<a->km d.2.1.2 (nth d.1 b)=false)/\d.1.length-a<d.1.length-x)))/\(decide ((x:Int)<d.1.length)=false->((-1:Int),())=(vV (km d.2.1.2) d.1,()))
def bS:wd:=⟨[.val (.slice tBk),.fn [tBk] [.bool]],[.bool],false,fun d=>[∀g∈d.1,kG (d.2.1.pre (g,()))],fun d=>(d.1.any (km (α:=BkD) d.2.1.F),())⟩
def bU:Prop:=∀(d:List BkD×FnD [tBk] [Ty.bool]×Unit),(∀(g:BkD),g∈d.1->kG (d.2.1.1 (g,())))->(∀(g:BkD),g∈d.1->kG (d.2.1.1 (g,())))/\(decide (0<=vV (km d.2.1.2) d.1),())=(d.1.any (km d.2.1.2),())
def lC:wd:=⟨[.val (.slice tSh),.fn [tSh] [.bool]],[.int],false,fun d=>[∀g∈d.1,kG (d.2.1.pre (g,()))],fun d=>(vV (km (α:=ShD) d.2.1.F) d.1,())⟩
def lD:Ann:=fun r=>match r with
 |2=>some fun σ=>{X:=Nat,sl:=fun i=>[(8,.dat .int (i:Int))],ob:=fun _=>[],inv:=fun i=>i<=(gd (.slice tSh) σ 0).length/\∀b:Nat,b<i->km (gfb tSh σ 1) (nth (gd (.slice tSh) σ 0) b)=false,mu:=fun i=>(gd (.slice tSh) σ 0).length-i}
 |_=>none
def lE:Prop:=∀(d:List ShD×FnD [tSh] [Ty.bool]×Unit),(∀(g:ShD),g∈d.1->kG (d.2.1.1 (g,())))->d.1.length<4611686018427387904->(∃(x:Nat),((0=(x:Int)/\True)/\True)/\x<=d.1.length/\∀(b:Nat),b<x->km d.2.1.2 (nth d.1 b)=false)/\∀(x:Nat),(x<=d.1.length/\∀(b:Nat),b<x->km d.2.1.2 (nth d.1 b)=false)->(decide ((x:Int)<d.1.length)=true->0<=(x:Int)/\(x:Int)<d.1.length/\asks (d.2.1.1 (nth d.1 (x:Int).toNat,())) (((d.2.1.2 (nth d.1 (x:Int).toNat,())).1=true->((x:Int),())=(vV (km d.2.1.2) d.1,()))/\((d.2.1.2 (nth d.1 (x:Int).toNat,())).1=false->kK ((x:Int)+1)/\∃(a:Nat),(((x:Int)+1=(a:Int)/\True)/\True)/\(a<=d.1.length/\∀(b:Nat),b<a->km d.2.1.2 (nth d.1 b)=false)/\d.1.length-a<d.1.length-x)))/\(decide ((x:Int)<d.1.length)=false->((-1:Int),())=(vV (km d.2.1.2) d.1,()))
def dC:wd:=⟨[.val (.slice tSh),.fn [tSh] [.bool]],[.bool],false,fun d=>[∀g∈d.1,kG (d.2.1.pre (g,()))],fun d=>(d.1.any (km (α:=ShD) d.2.1.F),())⟩
def dD:Prop:=∀(d:List ShD×FnD [tSh] [Ty.bool]×Unit),(∀(g:ShD),g∈d.1->kG (d.2.1.1 (g,())))->(∀(g:ShD),g∈d.1->kG (d.2.1.1 (g,())))/\(decide (0<=vV (km d.2.1.2) d.1),())=(d.1.any (km d.2.1.2),())
def s0:wd:=⟨[.val tSp,.rfn [tSp] [.bool]],[.bool],false,fun d=>[kG (d.2.1.pre (d.1,()))],fun d=>(!(km (α:=SpD) d.2.1.F d.1),())⟩
def s7:Prop:=∀(d:(Int×Int×Unit)×FnD [tSp] [Ty.bool]×Unit),kG (d.2.1.1 (d.1,()))->asks (d.2.1.1 (d.1,())) ((!(d.2.1.2 (d.1,())).1,())=(!km d.2.1.2 d.1,()))
def Cb:wd:=⟨[.val (.slice tSp),.fn [tSp] [.bool]],[.bool],false,fun d=>[∀g∈d.1,kG (d.2.1.pre (g,()))],fun d=>(d.1.all (km (α:=SpD) d.2.1.F),())⟩
def Cc:Prop:=∀(d:List (Int×Int×Unit)×FnD [tSp] [Ty.bool]×Unit),(∀(g:Int×Int×Unit),g∈d.1->kG (d.2.1.1 (g,())))->(∀(g:Int×Int×Unit),g∈d.1->kG [kG (d.2.1.1 (g,()))])/\(!d.1.any (km fun(a:(Int×Int×Unit)×Unit)=>(!km d.2.1.2 a.1,())),())=(d.1.all (km d.2.1.2),())
def rA:wd:=⟨[.val (.slice tSp),.rfn [(.slice tSp)] [.bool]],[.bool],false,fun d=>[kG (d.2.1.pre (d.1,()))],fun d=>(!(km (α:=(List SpD)) d.2.1.F d.1),())⟩
def rB:Prop:=∀(d:List (Int×Int×Unit)×FnD [tSp.slice] [Ty.bool]×Unit),kG (d.2.1.1 (d.1,()))->asks (d.2.1.1 (d.1,())) ((!(d.2.1.2 (d.1,())).1,())=(!km d.2.1.2 d.1,()))
def u9:wd:=⟨[.val (.slice (.slice tSp)),.fn [(.slice tSp)] [.bool]],[.bool],false,fun d=>[∀g∈d.1,kG (d.2.1.pre (g,()))],fun d=>(d.1.all (km (α:=(List SpD)) d.2.1.F),())⟩
def xa:Prop:=∀(d:List (List (Int×Int×Unit))×FnD [tSp.slice] [Ty.bool]×Unit),(∀(g:List (Int×Int×Unit)),g∈d.1->kG (d.2.1.1 (g,())))->(∀(g:List (Int×Int×Unit)),g∈d.1->kG [kG (d.2.1.1 (g,()))])/\(!d.1.any (km fun(a:List (Int×Int×Unit)×Unit)=>(!km d.2.1.2 a.1,())),())=(d.1.all (km d.2.1.2),())
def mJ:wd:=⟨[.val tBk,.rfn [tBk] [.bool]],[.bool],false,fun d=>[kG (d.2.1.pre (d.1,()))],fun d=>(!(km (α:=BkD) d.2.1.F d.1),())⟩
def mK:Prop:=∀(d:BkD×FnD [tBk] [Ty.bool]×Unit),kG (d.2.1.1 (d.1,()))->asks (d.2.1.1 (d.1,())) ((!(d.2.1.2 (d.1,())).1,())=(!km d.2.1.2 d.1,()))
def rC:wd:=⟨[.val (.slice tBk),.fn [tBk] [.bool]],[.bool],false,fun d=>[∀g∈d.1,kG (d.2.1.pre (g,()))],fun d=>(d.1.all (km (α:=BkD) d.2.1.F),())⟩
def rD:Prop:=∀(d:List BkD×FnD [tBk] [Ty.bool]×Unit),(∀(g:BkD),g∈d.1->kG (d.2.1.1 (g,())))->(∀(g:BkD),g∈d.1->kG [kG (d.2.1.1 (g,()))])/\(!d.1.any (km fun(a:BkD×Unit)=>(!km d.2.1.2 a.1,())),())=(d.1.all (km d.2.1.2),())
def rE:wd:=⟨[.val tSh,.rfn [tSh] [.bool]],[.bool],false,fun d=>[kG (d.2.1.pre (d.1,()))],fun d=>(!(km (α:=ShD) d.2.1.F d.1),())⟩
def rF:Prop:=∀(d:ShD×FnD [tSh] [Ty.bool]×Unit),kG (d.2.1.1 (d.1,()))->asks (d.2.1.1 (d.1,())) ((!(d.2.1.2 (d.1,())).1,())=(!km d.2.1.2 d.1,()))
def xb:wd:=⟨[.val (.slice tSh),.fn [tSh] [.bool]],[.bool],false,fun d=>[∀g∈d.1,kG (d.2.1.pre (g,()))],fun d=>(d.1.all (km (α:=ShD) d.2.1.F),())⟩
def xc:Prop:=∀(d:List ShD×FnD [tSh] [Ty.bool]×Unit),(∀(g:ShD),g∈d.1->kG (d.2.1.1 (g,())))->(∀(g:ShD),g∈d.1->kG [kG (d.2.1.1 (g,()))])/\(!d.1.any (km fun(a:ShD×Unit)=>(!km d.2.1.2 a.1,())),())=(d.1.all (km d.2.1.2),())
def Jp:wd:=⟨[.val tSp],[.bool],false,fun _=>[],fun d=>(uG d.1,())⟩
def Jq:Prop:=∀(d:(Int×Int×Unit)×Unit),(decide (0<=d.1.1)&&decide (d.1.1<=d.1.2.1)&&decide (d.1.2.1<=300),())=(uG d.1,())
def Jr:wd:=⟨[.val (.slice tSp),.ref tDy,.rfn [tSp] [.bool]],[.bool],false,fun d=>[∀g∈d.1,kG (d.2.2.1.pre (g,()))],fun d=>(decide ((d.1.length:Int)=(wh d.2.1).length)&&d.1.all (km (α:=SpD) d.2.2.1.F),())⟩
def Js:Prop:=∀(d:List (Int×Int×Unit)×DyD×FnD [tSp] [Ty.bool]×Unit),(∀(g:Int×Int×Unit),g∈d.1->kG (d.2.2.1.1 (g,())))->d.1.length<4611686018427387904->d.2.1.2.1.length<4611686018427387904->(decide ((d.1.length:Int)=d.2.1.2.1.length)=true->∀(g:Int×Int×Unit),g∈d.1->kG (d.2.2.1.1 (g,())))/\(decide ((d.1.length:Int)=d.2.1.2.1.length)&&d.1.all (km d.2.2.1.2),())=(decide ((d.1.length:Int)=(wh d.2.1).length)&&d.1.all (km d.2.2.1.2),())
def Jt:wd:=⟨[.val tBk,.ref tDy],[.bool],false,fun _=>[],fun d=>(Dj (wh d.2.1).length d.1,())⟩
def Ju:Prop:=∀(d:BkD×DyD×Unit),d.2.1.2.1.length<4611686018427387904->kK ((d.2.1.2.1.length:Int)-1)/\(kk d.1.2.1 (0:Int) ((d.2.1.2.1.length:Int)-1)&&decide (0<=d.1.2.2.1)&&decide (d.1.2.2.1<d.1.2.2.2.1)&&decide (d.1.2.2.2.1<=1440),())=(Dj (wh d.2.1).length d.1,())
def Jv:wd:=⟨[.val tSh,.ref tDy],[.bool],false,fun _=>[],fun d=>(KI (kA d.2.1).length (kB (kE d.2.1)).length d.1,())⟩
abbrev jgS (d:ShD×DyD×Unit):=(kk d.1.1 (0:Int) (99:Int)&&kk d.1.2.1 (0:Int) (9999:Int)&&kk d.1.2.2.1 (1:Int) (2:Int)&&kk d.1.2.2.2.1 (0:Int) ((d.2.1.2.2.1.length:Int)-1))
abbrev jgT (d:ShD×DyD×Unit):=(kk d.1.1 (0:Int) (99:Int)&&kk d.1.2.1 (0:Int) (9999:Int)&&kk d.1.2.2.1 (1:Int) (2:Int))
def Jw:Prop:=∀(d:ShD×DyD×Unit),((jgT d)=true->d.2.1.2.2.1.length<4611686018427387904)->((jgT d)=true->kK ((d.2.1.2.2.1.length:Int)-1))/\(((jgS d)=true->d.2.1.1.2.1.length<4611686018427387904)->((jgS d)=true->kK ((d.2.1.1.2.1.length:Int)-1))/\(kk d.1.1 (0:Int) (99:Int)&&kk d.1.2.1 (0:Int) (9999:Int)&&kk d.1.2.2.1 (1:Int) (2:Int)&&kk d.1.2.2.2.1 (0:Int) ((d.2.1.2.2.1.length:Int)-1)&&kk d.1.q4.1 (0:Int) ((d.2.1.1.2.1.length:Int)-1),())=(KI (kA d.2.1).length (kB (kE d.2.1)).length d.1,()))
def P3:wd:=⟨[.val tDy],[.bool],false,fun _=>[],fun d=>(wL d.1,())⟩
abbrev jgh (d:DyD×Unit):=(km fun(a:BkD×Unit)=>(Dj (wh d.1).length a.1,()))
abbrev jeO (d:DyD×Unit):=((d.1.2.2.1.length:Int)<=4)
abbrev jfK (d:DyD×Unit):=(↑(wh d.1).length:Int)
abbrev jfb (d:DyD×Unit):=(d.1.2.1.length:Int)
def P4:Prop:=∀(d:DyD×Unit),d.1.2.2.1.length<4611686018427387904->(decide (jeO d)=true->d.1.2.1.length<4611686018427387904)->((decide (jeO d)&&kk (jfb d) (1:Int) (5:Int))=true->∀(g:List (Int×Int×Unit)),g∈d.1.2.1->kG [∀(b:Int×Int×Unit),b∈g->kG []])/\((decide (jeO d)&&kk (jfb d) (1:Int) (5:Int)&&d.1.2.1.all (km fun(a:List (Int×Int×Unit)×Unit)=>(decide ((a.1.length:Int)=(jfK d))&&a.1.all (km fun(c:(Int×Int×Unit)×Unit)=>(uG c.1,())),())))=true->∀(e:BkD),e∈d.1.2.2.1->kG [])/\(((decide (jeO d)&&kk (jfb d) (1:Int) (5:Int)&&d.1.2.1.all (km fun(a:List (Int×Int×Unit)×Unit)=>(decide ((a.1.length:Int)=(jfK d))&&a.1.all (km fun(f:(Int×Int×Unit)×Unit)=>(uG f.1,())),()))&&d.1.2.2.1.all (jgh d)&&kk d.1.2.2.2.1 (0:Int) (300:Int)&&kk d.1.q4.1 (0:Int) (1440:Int))=true->d.1.q4.2.1.length<4611686018427387904)->((decide (jeO d)&&kk (jfb d) (1:Int) (5:Int)&&d.1.2.1.all (km fun(a:List (Int×Int×Unit)×Unit)=>(decide ((a.1.length:Int)=(jfK d))&&a.1.all (km fun(h:(Int×Int×Unit)×Unit)=>(uG h.1,())),()))&&d.1.2.2.1.all (jgh d)&&kk d.1.2.2.2.1 (0:Int) (300:Int)&&kk d.1.q4.1 (0:Int) (1440:Int)&&decide ((d.1.q4.2.1.length:Int)<=30))=true->∀(i:ShD),i∈d.1.q4.2.1->kG [])/\(decide (jeO d)&&kk (jfb d) (1:Int) (5:Int)&&d.1.2.1.all (km fun(a:List (Int×Int×Unit)×Unit)=>(decide ((a.1.length:Int)=(jfK d))&&a.1.all (km fun(u5:(Int×Int×Unit)×Unit)=>(uG u5.1,())),()))&&d.1.2.2.1.all (jgh d)&&kk d.1.2.2.2.1 (0:Int) (300:Int)&&kk d.1.q4.1 (0:Int) (1440:Int)&&decide ((d.1.q4.2.1.length:Int)<=30)&&d.1.q4.2.1.all (km fun(j:ShD×Unit)=>(KI (kA d.1).length (kB (kE d.1)).length j.1,())),())=(wL d.1,()))
def xd:wd:=⟨[.val .int],[.bool],false,fun _=>[],fun _=>(false,())⟩
def xe:Prop:=∀(d:Int×Unit),(decide (d.1≠d.1),())=(false,())
def rG:wd:=⟨[.val .int,.val .int],[.int],false,fun _=>[],fun d=>(bP d.1 d.2.1,())⟩
abbrev jeP (d:Int×Int×Unit):=(bP d.1 d.2.1,())
def rH:Prop:=∀(d:Int×Int×Unit),(false=true->(false=true->((0:Int),())=(jeP d))/\(qF->((-1:Int),())=(jeP d)))/\(qF->(false=true->((1:Int),())=(jeP d))/\(qF->(decide (d.1<d.2.1)=true->((-1:Int),())=(jeP d))/\(decide (d.1<d.2.1)=false->(decide (d.2.1<d.1)=true->((1:Int),())=(jeP d))/\(decide (d.2.1<d.1)=false->((0:Int),())=(jeP d)))))
def GZ:wd:=⟨[.val (.slice .int)],[.int],false,fun _=>[],fun d=>(vW d.1,())⟩
def G0:Ann:=fun r=>match r with
 |3=>some fun σ=>{X:=Nat,sl:=fun i=>[(8,.dat .int (i:Int))],ob:=fun _=>[],inv:=fun i=>i<=(gd (.slice .int) σ 0).length/\∀b:Nat,b<i->nth (gd (.slice .int) σ 0) b=0,mu:=fun i=>(gd (.slice .int) σ 0).length-i}
 |_=>none
def G1:Prop:=∀(d:List Int×Unit),d.1.length<4611686018427387904->(∃(x:Nat),((0=(x:Int)/\True)/\True)/\x<=d.1.length/\∀(b:Nat),b<x->nth d.1 b=0)/\∀(x:Nat),(x<=d.1.length/\∀(b:Nat),b<x->nth d.1 b=0)->(decide ((x:Int)<d.1.length)=true->0<=(x:Int)/\(x:Int)<d.1.length/\(decide (nth d.1 (x:Int).toNat≠0)=true->(nth d.1 (x:Int).toNat,())=(vW d.1,()))/\(decide (nth d.1 (x:Int).toNat≠0)=false->kK ((x:Int)+1)/\∃(a:Nat),(((x:Int)+1=(a:Int)/\True)/\True)/\(a<=d.1.length/\∀(b:Nat),b<a->nth d.1 b=0)/\d.1.length-a<d.1.length-x))/\(decide ((x:Int)<d.1.length)=false->((0:Int),())=(vW d.1,()))
def Cd:wd:=⟨[.val tSh,.val tSh],[.int],false,fun _=>[],fun d=>(cy d.1 d.2.1,())⟩
def Ce:Prop:=∀(d:ShD×ShD×Unit),(vW [bP d.1.1 d.2.1.1,bP d.1.2.1 d.2.1.2.1,bP d.1.2.2.1 d.2.1.2.2.1,bP d.1.2.2.2.1 d.2.1.2.2.2.1,bP d.1.q4.1 d.2.1.q4.1],())=(cy d.1 d.2.1,())
def Mk:wd:=⟨[.val tSh,.val tSh],[.int],false,fun _=>[],fun d=>(kI d.1 d.2.1,())⟩
def Ml:Prop:=∀(d:ShD×ShD×Unit),(vW [bP d.1.2.1 d.2.1.2.1,bP d.1.1 d.2.1.1],())=(kI d.1 d.2.1,())
def s8:qb:=⟨[.val (.slice tSh)],[rwS],fun d=>[d.1.length<=100000],fun d=>((d.1,()),())⟩
def s9:Prop:=∀(d:List ShD×Unit),d.1.length<=100000->∀(β:Bool),(β=true->d.1=[])->(β=true->([],())=d/\()=())/\(β=false->(0+d.1.length)*40<=140737488355328/\([]++d.1,())=d/\()=())
def oM:qb:=⟨[.own rwS false],[rwS],fun d=>[d.1.length<=100000],fun d=>((aw yc d.1,()),())⟩
def oN:Ann:=fun r=>match r with
 |4=>some fun σ=>{X:=Nat,sl:=fun i=>[(3,.dat .int (i:Int))],ob:=fun _=>[],inv:=fun i=>jaf yc (gr tSh σ 1000000) i,mu:=fun i=>(gr tSh σ 1000000).length-i}
 |9=>some fun σ=>{X:=Nat×List ShD,sl:=fun x=>[(5,.dat .int (x.1:Int)),(3,.dat .int (nD yc (gr tSh σ 1000000) ((gd .int σ 3).toNat+x.1)))],ob:=fun x=>[(1000000,some (.row 75 tSh false .unk x.2))],inv:=fun x=>Nz yc (gr tSh σ 1000000) (gd .int σ 3).toNat x.1 x.2,mu:=fun x=>(gr tSh σ 1000000).length-x.1}
 |_=>none
abbrev jdI (x:Nat)(a:Nat×List ShD):=((x:Int).toNat+a.1)
abbrev jgU (d:List ShD×Unit)(x:Nat)(a:Nat×List ShD):=(List.take (nD yc d.1 (jdI x a)).toNat a.2++List.replicate ((a.2.length:Int).toNat-(nD yc d.1 (jdI x a)).toNat) ((0:Int),(0:Int),(0:Int),(0:Int),(0:Int),()))
abbrev jgV (a:Nat×List ShD)(x:Nat):=(!decide (nth a.2 ((x:Int).toNat+(a.1:Int).toNat)=nth a.2 ((x:Int).toNat+((a.1:Int)-1).toNat)))
abbrev jdW (d:List ShD×Unit):=(d.1.length:Int)
abbrev jfc (d:List ShD×Unit)(x:Nat):=(↑((jdW d).toNat-(x:Int).toNat):Int)
def oO:Prop:=∀(d:List ShD×Unit),d.1.length<=100000->d.1.length<4611686018427387904->(decide ((jdW d)<2)=true->d=(aw yc d.1,())/\()=())/\(decide ((jdW d)<2)=false->(∃(x:Nat),((1=(x:Int)/\True)/\True)/\jaf yc d.1 x)/\∀(x:Nat),jaf yc d.1 x->d.1.length<4611686018427387904->(decide ((x:Int)<(jdW d))=true->0<=(x:Int)/\(x:Int)<(jdW d)/\kK ((x:Int)-1)/\0<=(x:Int)-1/\(x:Int)-1<(jdW d)/\(decide (nth d.1 (x:Int).toNat=nth d.1 ((x:Int)-1).toNat)=true->0<=(x:Int)/\(x:Int)<=(jdW d)/\(jdW d)<=(jdW d)/\(∃(a:Nat×List ShD),((1=(a.1:Int)/\(x:Int)=nD yc d.1 (jdI x a)/\True)/\d.1=a.2/\True)/\Nz yc d.1 (x:Int).toNat a.1 a.2)/\∀(a:Nat×List ShD),Nz yc d.1 (x:Int).toNat a.1 a.2->(jdW d).toNat-(x:Int).toNat<4611686018427387904->(decide ((a.1:Int)<(jfc d x))=true->0<=(a.1:Int)/\(a.1:Int)<(jfc d x)/\kK ((a.1:Int)-1)/\0<=(a.1:Int)-1/\(a.1:Int)-1<(jfc d x)/\((jgV a x)=true->0<=(a.1:Int)/\(a.1:Int)<(jfc d x)/\0<=nD yc d.1 (jdI x a)/\nD yc d.1 (jdI x a)<(a.2.length:Int)/\kK (nD yc d.1 (jdI x a)+1)/\kK ((a.1:Int)+1)/\∃(b:Nat×List ShD),(((a.1:Int)+1=(b.1:Int)/\nD yc d.1 (jdI x a)+1=nD yc d.1 ((x:Int).toNat+b.1)/\True)/\a.2.set (nD yc d.1 (jdI x a)).toNat (nth a.2 ((x:Int).toNat+(a.1:Int).toNat))=b.2/\True)/\Nz yc d.1 (x:Int).toNat b.1 b.2/\d.1.length-b.1<d.1.length-a.1)/\((jgV a x)=false->kK ((a.1:Int)+1)/\∃(b:Nat×List ShD),((nD yc d.1 (jdI x a)=nD yc d.1 ((x:Int).toNat+b.1)/\(a.1:Int)+1=(b.1:Int)/\True)/\a.2=b.2/\True)/\Nz yc d.1 (x:Int).toNat b.1 b.2/\d.1.length-b.1<d.1.length-a.1))/\(decide ((a.1:Int)<(jfc d x))=false->0<=nD yc d.1 (jdI x a)/\nD yc d.1 (jdI x a)<=(a.2.length:Int)/\(a.2.length:Int)<=a.2.length/\(nD yc d.1 (jdI x a)).toNat+((a.2.length:Int).toNat-(nD yc d.1 (jdI x a)).toNat)=a.2.length/\(0:Int)<=0/\0<=nD yc d.1 (jdI x a)/\nD yc d.1 (jdI x a)<=(↑(jgU d x a).length:Int)/\(List.take ((nD yc d.1 (jdI x a)).toNat-Int.toNat 0) (jgU d x a),())=(aw yc d.1,())/\()=()))/\(decide (nth d.1 (x:Int).toNat=nth d.1 ((x:Int)-1).toNat)=false->kK ((x:Int)+1)/\∃(c:Nat),(((x:Int)+1=(c:Int)/\True)/\True)/\jaf yc d.1 c/\d.1.length-c<d.1.length-x))/\(decide ((x:Int)<(jdW d))=false->d=(aw yc d.1,())/\()=()))
abbrev mL:qb:=S7 tSh 75
def G2:qb:=⟨[.val (.slice tSh)],[rwS],fun d=>[d.1.length<=100000],fun d=>((wz d.1,()),())⟩
abbrev jgi:=(kr (Ty.int.pair (Ty.int.pair (Ty.int.pair (Ty.int.pair (Ty.int.pair Ty.unit))))) fun(a:ShD×ShD×Unit)=>(cy a.1 a.2.1,()))
def G3:Prop:=∀(d:List ShD×Unit),d.1.length<=100000->d.1.length<=100000/\(∀(x:ShD),x∈d.1->∀(y:ShD),y∈d.1->kG [])/\qR jgi d.1/\(ko jgi d.1).length<=100000/\(aw yc (ko jgi d.1),())=(wz d.1,())/\()=()
def Jx:qb:=⟨[.val tSh,.own (.box 195 [.map .int .int]) true],[.cl (.dat .bool)],fun d=>[Vh d.2.1.1],fun d=>((O0 d.2.1.1 d.1,()),((mA d.2.1.1 d.1,()),()))⟩
abbrev jgj (d:ShD×(List (Int×Int)×Unit)×Unit):=(kW (0:Int) (kJ Ty.int d.1.1 d.2.1.1)+1)
def Jy:Prop:=∀(d:ShD×(List (Int×Int)×Unit)×Unit),Vh d.2.1.1->kK (jgj d)/\(decide (1<kW (0:Int) (kJ Ty.int d.1.1 (d9 Ty.int d.1.1 (jgj d) d.2.1.1))),())=(O0 d.2.1.1 d.1,())/\((d9 Ty.int d.1.1 (jgj d) d.2.1.1,()),())=((mA d.2.1.1 d.1,()),())
abbrev clV:Sh:= .fbox 148 195 [.map .int .int]
def dE:qb:=⟨[.val (.slice tSh),.own clV true],[.cl (.dat .int)],fun d=>[d.1.length<=100000,jbG d.2.1.1],fun d=>((lW d.2.1.1 d.1,()),((o9 d.2.1.1 d.1,()),()))⟩
def dF:Ann:=fun r=>match r with
 |2=>some fun σ=>{X:=Nat,sl:=fun i=>[(8,.dat .int (i:Int))],ob:=fun i=>[(400020,some (.map false .int .int (vH [] (gd (.slice tSh) σ 0) i)))],inv:=fun i=>i<=(gd (.slice tSh) σ 0).length/\∀b:Nat,b<i->sw [] (gd (.slice tSh) σ 0) b=false,mu:=fun i=>(gd (.slice tSh) σ 0).length-i}
 |_=>none
def dG:Prop:=∀(d:List ShD×(List (Int×Int)×Unit)×Unit),d.1.length<=100000->jbG d.2.1.1->d.1.length<4611686018427387904->(∃(x:Nat),((0=(x:Int)/\True)/\d.2.1.1=vH [] d.1 x/\True)/\x<=d.1.length/\∀(b:Nat),b<x->sw [] d.1 b=false)/\∀(x:Nat),(x<=d.1.length/\∀(b:Nat),b<x->sw [] d.1 b=false)->(decide ((x:Int)<d.1.length)=true->0<=(x:Int)/\(x:Int)<d.1.length/\Vh (vH [] d.1 x)/\(O0 (vH [] d.1 x) (nth d.1 (x:Int).toNat)=true->((x:Int),())=(lW d.2.1.1 d.1,())/\((mA (vH [] d.1 x) (nth d.1 (x:Int).toNat),()),())=((o9 d.2.1.1 d.1,()),()))/\(O0 (vH [] d.1 x) (nth d.1 (x:Int).toNat)=false->kK ((x:Int)+1)/\∃(a:Nat),(((x:Int)+1=(a:Int)/\True)/\(True/\True)/\mA (vH [] d.1 x) (nth d.1 (x:Int).toNat)=vH [] d.1 a/\True)/\(a<=d.1.length/\∀(b:Nat),b<a->sw [] d.1 b=false)/\d.1.length-a<d.1.length-x))/\(decide ((x:Int)<d.1.length)=false->((-1:Int),())=(lW d.2.1.1 d.1,())/\((vH [] d.1 x,()),())=((o9 d.2.1.1 d.1,()),()))
def bu:qb:=⟨[.val (.slice tSh),.own clV true],[.cl (.dat .bool)],fun d=>[d.1.length<=100000,jbG d.2.1.1],fun d=>((decide (0<=lW d.2.1.1 d.1),()),((o9 d.2.1.1 d.1,()),()))⟩
def bv:Prop:=∀(d:List ShD×(List (Int×Int)×Unit)×Unit),d.1.length<=100000->jbG d.2.1.1->d.1.length<=100000/\jbG d.2.1.1/\(decide (0<=lW d.2.1.1 d.1),())=(decide (0<=lW d.2.1.1 d.1),())/\((o9 d.2.1.1 d.1,()),())=((o9 d.2.1.1 d.1,()),())
def P5:wd:=⟨[.val (.slice tSh)],[.bool],false,fun d=>[d.1.length<=100000],fun d=>(RF d.1,())⟩
def P6:Prop:=∀(d:List ShD×Unit),d.1.length<=100000->d.1.length<=100000/\jbG []/\(decide (0<=lW [] d.1),())=(RF d.1,())
def DU:wd:=⟨[.val tDy],[.int],false,fun _=>[],fun d=>(tX d.1,())⟩
def DV:Ann:=fun r=>match r with
 |5=>some fun σ=>{X:=Nat,sl:=fun i=>[(17,.dat .int (i:Int))],ob:=fun _=>[],inv:=fun i=>i<=(gd (.slice tBk) σ 15).length/\∀b:Nat,b<i->wV (kE (gd tDy σ 0)) (yQ (nth (gd (.slice tBk) σ 15) b))=true,mu:=fun i=>(gd (.slice tBk) σ 15).length-i}
 |_=>none
abbrev jgk:=((0:Int),(1:Int),(0:Int),(0:Int),(0:Int),(1:Int),())
def DW:Prop:=∀(d:DyD×Unit),(decide (qv d.1.1 jgk≠0)=true->(qv d.1.1 jgk,())=(tX d.1,()))/\(decide (qv d.1.1 jgk≠0)=false->d.1.2.2.1.length<4611686018427387904->(∃(x:Nat),((0=(x:Int)/\True)/\True)/\x<=d.1.2.2.1.length/\∀(b:Nat),b<x->wV (kE d.1) (yQ (nth d.1.2.2.1 b))=true)/\∀(x:Nat),(x<=d.1.2.2.1.length/\∀(b:Nat),b<x->wV (kE d.1) (yQ (nth d.1.2.2.1 b))=true)->(decide ((x:Int)<d.1.2.2.1.length)=true->0<=(x:Int)/\(x:Int)<d.1.2.2.1.length/\(decide (qv d.1.1 (nth d.1.2.2.1 (x:Int).toNat).1≠0)=true->(qv d.1.1 (nth d.1.2.2.1 (x:Int).toNat).1,())=(tX d.1,()))/\(decide (qv d.1.1 (nth d.1.2.2.1 (x:Int).toNat).1≠0)=false->kK ((x:Int)+1)/\∃(a:Nat),(((x:Int)+1=(a:Int)/\True)/\True)/\(a<=d.1.2.2.1.length/\∀(b:Nat),b<a->wV (kE d.1) (yQ (nth d.1.2.2.1 b))=true)/\d.1.2.2.1.length-a<d.1.2.2.1.length-x))/\(decide ((x:Int)<d.1.2.2.1.length)=false->((0:Int),())=(tX d.1,())))
def P7:wd:=⟨[.val tDy],[.int],false,fun d=>[(qh d.1).length<=100000],fun d=>(wn d.1,())⟩
def P8:Prop:=∀(d:DyD×Unit),(qh d.1).length<=100000->(decide (tX d.1≠0)=true->(tX d.1,())=(wn d.1,()))/\(decide (tX d.1≠0)=false->((!wL d.1)=true->((50:Int),())=(wn d.1,()))/\((!wL d.1)=false->d.1.q4.2.1.length<=100000/\(wz d.1.q4.2.1).length<=100000/\(RF (wz d.1.q4.2.1)=true->((51:Int),())=(wn d.1,()))/\(RF (wz d.1.q4.2.1)=false->((0:Int),())=(wn d.1,()))))
theorem P9:Mj:=by
 intro d;rfl
theorem oP:wm PR 142 Mi:=kZ P9 Tryz.func142 kcN koN
theorem oQ:mI:=by
 rintro⟨l,f,⟨⟩⟩ a g;refine⟨⟨0,⟨⟨rfl,tZ⟩,tZ⟩,jw _,fun b c=>by omega⟩,fun i hi=>⟨fun h=> ?_,fun h=> ?_⟩⟩;have h:i<l.length:=(by simpa using h);simp only[ju] at*;refine⟨by omega,by omega,qN _ (a _ (L.kx h)) ⟨fun c=> ?_,fun c=>⟨iZ6,i+1,⟨⟨by simp,tZ⟩,tZ⟩,⟨by omega,fun b d=> ?_⟩,by omega⟩⟩⟩;rw[vK (p:=km (α:=SpD) f.F) h hi.2 c];by_cases e:b=i;subst e;exact c;exact hi.2 b (by omega);have h:l.length<=i:=(by simpa using h);rw[qx (p:=km (α:=SpD) f.F) h hi.2]
theorem mM:wm PR 217 mG:=vd mH oQ Tryz.func217 kcN koN
theorem iw:fi:=by
 rintro⟨l,f,⟨⟩⟩ a;refine⟨a,?_⟩;exact jS (·,()) (ff (km (α:=SpD) f.F) l)
theorem fu:wm PR 179 fh:=kZ iw Tryz.func179 (kcC mM kcN) koN
theorem mN:lB:=by
 rintro⟨l,f,⟨⟩⟩ a g;refine⟨⟨0,⟨⟨rfl,tZ⟩,tZ⟩,jw _,fun b c=>by omega⟩,fun i hi=>⟨fun h=> ?_,fun h=> ?_⟩⟩;have h:i<l.length:=(by simpa using h);simp only[ju] at*;refine⟨by omega,by omega,qN _ (a _ (L.kx h)) ⟨fun c=> ?_,fun c=>⟨iZ6,i+1,⟨⟨by simp,tZ⟩,tZ⟩,⟨by omega,fun b d=> ?_⟩,by omega⟩⟩⟩;rw[vK (p:=km (α:=(List SpD)) f.F) h hi.2 c];by_cases e:b=i;subst e;exact c;exact hi.2 b (by omega);have h:l.length<=i:=(by simpa using h);rw[qx (p:=km (α:=(List SpD)) f.F) h hi.2]
theorem lF:wm PR 218 lz:=vd lA mN Tryz.func218 kcN koN
theorem fw:dB:=by
 rintro⟨l,f,⟨⟩⟩ a;refine⟨a,?_⟩;exact jS (·,()) (ff (km (α:=(List SpD)) f.F) l)
theorem dH:wm PR 181 dA:=kZ fw Tryz.func181 (kcC lF kcN) koN
theorem iy:fq:=by
 rintro⟨l,f,⟨⟩⟩ a g;refine⟨⟨0,⟨⟨rfl,tZ⟩,tZ⟩,jw _,fun b c=>by omega⟩,fun i hi=>⟨fun h=> ?_,fun h=> ?_⟩⟩;have h:i<l.length:=(by simpa using h);simp only[ju] at*;refine⟨by omega,by omega,qN _ (a _ (L.kx h)) ⟨fun c=> ?_,fun c=>⟨iZ6,i+1,⟨⟨by simp,tZ⟩,tZ⟩,⟨by omega,fun b d=> ?_⟩,by omega⟩⟩⟩;rw[vK (p:=km (α:=BkD) f.F) h hi.2 c];by_cases e:b=i;subst e;exact c;exact hi.2 b (by omega);have h:l.length<=i:=(by simpa using h);rw[qx (p:=km (α:=BkD) f.F) h hi.2]
theorem fx:wm PR 219 fj:=vd fo iy Tryz.func219 kcN koN
theorem cL:bU:=by
 rintro⟨l,f,⟨⟩⟩ a;refine⟨a,?_⟩;exact jS (·,()) (ff (km (α:=BkD) f.F) l)
theorem bV:wm PR 183 bS:=kZ cL Tryz.func183 (kcC fx kcN) koN
theorem mO:lE:=by
 rintro⟨l,f,⟨⟩⟩ a g;refine⟨⟨0,⟨⟨rfl,tZ⟩,tZ⟩,jw _,fun b c=>by omega⟩,fun i hi=>⟨fun h=> ?_,fun h=> ?_⟩⟩;have h:i<l.length:=(by simpa using h);simp only[ju] at*;refine⟨by omega,by omega,qN _ (a _ (L.kx h)) ⟨fun c=> ?_,fun c=>⟨iZ6,i+1,⟨⟨by simp,tZ⟩,tZ⟩,⟨by omega,fun b d=> ?_⟩,by omega⟩⟩⟩;rw[vK (p:=km (α:=ShD) f.F) h hi.2 c];by_cases e:b=i;subst e;exact c;exact hi.2 b (by omega);have h:l.length<=i:=(by simpa using h);rw[qx (p:=km (α:=ShD) f.F) h hi.2]
theorem lG:wm PR 186 lC:=vd lD mO Tryz.func186 kcN koN
theorem fy:dD:=by
 rintro⟨l,f,⟨⟩⟩ a;refine⟨a,?_⟩;exact jS (·,()) (ff (km (α:=ShD) f.F) l)
theorem dI:wm PR 147 dC:=kZ fy Tryz.func147 (kcC lG kcN) koN
theorem xf:s7:=by
 intro d h;exact qN _ h rfl
theorem tb:wm PR 180 s0:=kZ xf Tryz.func180 kcN koN
theorem DX:Cc:=by
 intro d h;exact⟨fun g a=>⟨h g a,tZ⟩,jS (·,()) (rg d.snd.fst.2 d.fst)⟩
theorem Cf:wm PR 140 Cb:=kZ DX Tryz.func140 (kcC fu (kcC tb kcN)) koN
theorem td:rB:=by
 intro d h;exact qN _ h rfl
theorem rI:wm PR 182 rA:=kZ td Tryz.func182 kcN koN
theorem Cg:xa:=by
 intro d h;exact⟨fun g a=>⟨h g a,tZ⟩,jS (·,()) (rg d.snd.fst.2 d.fst)⟩
theorem xg:wm PR 144 u9:=kZ Cg Tryz.func144 (kcC dH (kcC rI kcN)) koN
theorem oR:mK:=by
 intro d h;exact qN _ h rfl
theorem mP:wm PR 184 mJ:=kZ oR Tryz.func184 kcN koN
theorem tg:rD:=by
 intro d h;exact⟨fun g a=>⟨h g a,tZ⟩,jS (·,()) (rg d.snd.fst.2 d.fst)⟩
theorem rJ:wm PR 145 rC:=kZ tg Tryz.func145 (kcC bV (kcC mP kcN)) koN
theorem th:rF:=by
 intro d h;exact qN _ h rfl
theorem rK:wm PR 185 rE:=kZ th Tryz.func185 kcN koN
theorem Ch:xc:=by
 intro d h;exact⟨fun g a=>⟨h g a,tZ⟩,jS (·,()) (rg d.snd.fst.2 d.fst)⟩
theorem xh:wm PR 146 xb:=kZ Ch Tryz.func146 (kcC dI (kcC rK kcN)) koN
theorem Mm:Jq:=fun _=>rfl
theorem Jz:wm PR 138 Jp:=kZ Mm Tryz.func138 kcN koN
theorem Mn:Js:=by
 rintro⟨l,d,f,⟨⟩⟩ a _ _;exact⟨fun _=>a,rfl⟩
theorem JA:wm PR 139 Jr:=kZ Mn Tryz.func139 (kcC Cf kcN) koN
theorem Mo:Ju:=by
 rintro⟨b,d,⟨⟩⟩ h;have h:(wh d).length<4611686018427387904:=h;exact⟨L.Du (by show _<=((wh d).length:Int)-1;omega) (by show((wh d).length:Int)-1<=_;omega),rfl⟩
theorem JB:wm PR 141 Jt:=kZ Mo Tryz.func141 (kcC oP kcN) koN
theorem Mp:Jw:=by
 unfold Jw jgT jgS Prod.q4;rintro⟨s,d,⟨⟩⟩ h;refine⟨fun a=> ?_,fun b=>⟨fun a=> ?_,rfl⟩⟩;have h:=h a;exact L.Du (by simp only at*;omega) (by simp only at*;omega);have h:=b a;exact L.Du (by simp only at*;omega) (by simp only at*;omega)
theorem JC:wm PR 143 Jv:=kZ Mp Tryz.func143 (kcC oP kcN) koN
theorem Wu (s:SpD):uG s=sn s:=by
 unfold uG sn;rw[j0];simp only[ji,js];omega
theorem Wv (n:Nat) (b:BkD):Dj n b=lS n b:=by
 unfold Dj lS kk;rw[j0];simp only[ji,js];omega
theorem Ww (nb a:Nat) (s:ShD):KI nb a s=lT nb a s:=by
 unfold KI lT kk;rw[j0];simp only[ji,js];omega
theorem Wx (d:DyD):(((((((decide (((kA d).length:Int)<=4)&&kk ((wh d).length:Int) 1 5)&&(wh d).all (fun r=>decide ((r.length:Int)=(wh d).length)&&r.all sn))&&(kA d).all (lS (wh d).length))&&kk (Rn d) 0 300)&&kk (jah d) 0 1440)&&decide (((qh d).length:Int)<=30))&&(qh d).all (lT (kA d).length (kB (kE d)).length))=wL d:=by
 unfold wL;have e:(fun(r:List SpD)=>decide ((r.length:Int)=(wh d).length)&&r.all sn)=bG (wh d).length:=by
  funext r;unfold bG;congr 1;exact decide_eq_decide.2 (by omega)
 rw[e];cases (wh d).all (bG (wh d).length)<;>cases (kA d).all (lS (wh d).length)<;>cases (qh d).all (lT (kA d).length (kB (kE d)).length)<;>simp only[Bool.and_false,Bool.and_true,Bool.false_and,kk]
 rw[j0];simp only[ji,js];omega
theorem TA:P4:=by
 unfold P4 jfb jfK jeO jgh Prod.q4;rintro⟨d,⟨⟩⟩ _ _;refine⟨fun _ _ _=>⟨fun _ _=>tZ,tZ⟩,fun _ _ _=>tZ,fun _=>⟨fun _ _ _=>tZ,?_⟩⟩;have a:(km fun(x:SpD×Unit)=>(uG x.fst,()))=sn:=funext Wu;have e2:(km fun(x:BkD×Unit)=>(Dj (wh d).length x.fst,()))=lS (wh d).length:=funext (Wv _);have b:(km fun(x:ShD×Unit)=>(KI (kA d).length (kB (kE d)).length x.fst,()))=lT (kA d).length (kB (kE d)).length:=funext (Ww _ _);simp only;rw[a,e2,b];exact jS (·,()) (Wx d)
theorem Qa:wm PR 102 P3:=kZ TA Tryz.func102 (kcC oP (kcC Jz (kcC JA (kcC JB (kcC JC (kcC xg (kcC rJ (kcC xh kcN)))))))) koN
theorem Ci:xe:=by
 intro d;simp
theorem xi:wm PR 94 xd:=kZ Ci Tryz.func94 kcN koN
theorem tn:rH:=by
 unfold rH jeP;rintro⟨a,b,⟨⟩⟩;refine⟨fun h=>(by cases h),fun _=>⟨fun h=>(by cases h),fun _=>⟨fun h=> ?_,fun h=>⟨fun c=> ?_,fun c=> ?_⟩⟩⟩⟩;have h:a<b:=jb h;simp only;unfold bP;rw[jg h];have h:¬a<b:=jd h;have c:b<a:=jb c;simp only;unfold bP;rw[jc h,jg c];have h:¬a<b:=jd h;have c:¬b<a:=jd c;simp only;unfold bP;rw[jc h,jc c]
theorem vS:wm PR 65 rG:=kZ tn Tryz.func65 (kcC xi kcN) koN
theorem Qb {l:List Int} {i:Nat} (h:i<l.length) (a:∀b:Nat,b<i->nth l b=0) (hi:nth l i≠0):vW l=nth l i:=by
 have e:l.find? (fun n=>decide (n≠0))=some (nth l i):=by
  rw[List.find?_eq_some_iff_getElem];refine⟨jK hi,i,h,by rw[L.wG h],fun j c=> ?_⟩;have:=a j c;rw[L.wG (by omega)] at this;simp[this]
 unfold vW;rw[e]
theorem JD {l:List Int} (a:∀b:Nat,b<l.length->nth l b=0):vW l=0:=by
 have e:l.find? (fun n=>decide (n≠0))=none:=by
  rw[List.find?_eq_none];intro x c;obtain⟨i,hi,rfl⟩:=L.mem_iff.1 c;simp[a i hi]
 unfold vW;rw[e]
theorem JE:G1:=by
 rintro⟨l,⟨⟩⟩ f;refine⟨⟨0,⟨⟨rfl,tZ⟩,tZ⟩,jw _,fun b c=>by omega⟩,fun x d=>⟨fun h=> ?_,fun h=> ?_⟩⟩;have h:x<l.length:=(by simpa using h);simp only[ju];refine⟨by omega,by omega,fun a=> ?_,fun a=>⟨L.Du (by omega) (by simp only at f;omega),x+1,⟨⟨by simp,tZ⟩,tZ⟩,⟨h,fun b c=> ?_⟩,by omega⟩⟩;rw[Qb h d.2 (jb a)];by_cases e:b=x;subst e;exact jN.1 (jd a);exact d.2 b (by omega);have h:l.length<=x:=(by simpa using h);rw[JD (fun b c=>d.2 b (by simp only at c;omega))]
theorem aK:wm PR 64 GZ:=vd G0 JE Tryz.func64 kcN koN
theorem DY:Ce:=fun _=>rfl
theorem Cj:wm PR 150 Cd:=kZ DY Tryz.func150 (kcC vS (kcC aK kcN)) koN
theorem Qc:Ml:=fun _=>rfl
theorem Mq:wm PR 108 Mk:=kZ Qc Tryz.func108 (kcC vS (kcC aK kcN)) koN
theorem xj:s9:=by
 rintro⟨l,⟨⟩⟩ b β a;have b:l.length<=100000:=b;refine⟨fun h=>⟨?_,rfl⟩,fun _=>⟨by simp only;omega,by simp,rfl⟩⟩;have:l=[]:=a h;rw[this]
theorem tp:yE PR 149 s8:=uy xj Tryz.func149 kcN koN
theorem rL:oO:=by
 unfold oO jfc jdW jgV jgU jdI;rintro⟨l,⟨⟩⟩ m C;have m:l.length<=100000:=m;obtain⟨eq,k⟩:∃eq,eq=yc:=⟨_,rfl⟩;have A:∀a b:ShD,decide (a=b)=eq a b:=fun a b=>by rw[k];rfl
 simp only[<-k,A,ju];refine⟨fun h=>⟨?_,tZ⟩,fun h=> ?_⟩;have h:(l.length:Int)<2:=jb h;rw[L.comp_short (by omega)];have h:¬(l.length:Int)<2:=jd h;refine⟨⟨1,⟨⟨rfl,tZ⟩,tZ⟩,jk _,by omega,?_⟩,fun i hi _=>⟨fun g=> ?_,fun g=>⟨?_,tZ⟩⟩⟩;rw[L.comp_short];rw[j6];omega;have g:(i:Int)<l.length:=jb g;obtain⟨s,D,f⟩:=hi;have z:((i:Int)-1).toNat=i-1:=(by omega);rw[z];have n:=L.comp_take (eq:=eq) (l:=l) s (by omega:i<l.length);refine⟨by omega,g,by unfold kK;omega,by omega,by omega,fun j=>⟨by omega,by omega,zI _,⟨(1,l),⟨⟨rfl,?_,tZ⟩,rfl,tZ⟩,jk _,by omega,rfl,?_,rfl,?_⟩,fun x q _=>⟨fun e=> ?_,fun e=> ?_⟩⟩,fun j=>⟨iZ6,i+1,⟨⟨by simp,tZ⟩,tZ⟩,⟨by omega,by omega,?_⟩,by omega⟩⟩;unfold nD;rw[n,jg j,j7,f,j6];omega;rw[n,jg j,j7,f,j6];show l.take i=l.take (min i l.length);congr 1;omega;rw[n,jg j,j7,f,j6];omega;have e:(x.1:Int)<((l.length-i:Nat):Int):=jb e;have r:=q;obtain⟨G,H,I,v,J,w⟩:=r;obtain⟨E,F⟩:=L.inv9_next s q (by omega);have y:((x.1:Int)-1).toNat=x.1-1:=(by omega);have o:i+(x.1-1)=i+x.1-1:=(by omega);rw[y,o];have p:nD eq l (i+x.1)=((aw eq (l.take (i+x.1))).length:Int):=rfl;refine⟨by omega,e,by unfold kK;omega,by omega,by omega,fun c=> ?_,fun c=> ?_⟩;have c:eq (nth x.2 (i+x.1)) (nth x.2 (i+x.1-1))=false:=(by simpa using c);obtain⟨t,u⟩:=E c;refine⟨by omega,e,by omega,by omega,by unfold kK;omega,iZ6,(x.1+1,_),⟨⟨by simp,t.symm,tZ⟩,rfl,tZ⟩,u,by show _-(x.1+1)<_;omega⟩;have c:eq (nth x.2 (i+x.1)) (nth x.2 (i+x.1-1))=true:=(by simpa using c);obtain⟨t,u⟩:=F c;exact⟨iZ6,(x.1+1,x.2),⟨⟨t.symm,by simp,tZ⟩,rfl,tZ⟩,u,by show _-(x.1+1)<_;omega⟩;have e:¬(x.1:Int)<((l.length-i:Nat):Int):=jd e;obtain⟨G,H,I,v,J,w⟩:=q;have p:nD eq l (i+x.1)=((aw eq (l.take (i+x.1))).length:Int):=rfl;have d:l.take (i+x.1)=l:=zy (by omega);rw[d] at p v w;rw[p];simp only[ju];have B:=L.comp_len (eq:=eq) l;refine⟨by omega,by omega,zI _,by omega,by omega,by omega,?_,⟨?_,tZ⟩⟩;simp only[jJ,j6,zC];omega;congr 1;rw[show(aw eq l).length-Int.toNat 0=(aw eq l).length from rfl];rw[List.take_left' (by rw[j6];omega)];exact v.symm;rw[n,jc (by rw[j];simp),f];exact(L.wb (by omega)).symm;have g:¬(i:Int)<l.length:=jd g;obtain⟨s,D,f⟩:=hi;have d:l.take i=l:=zy (by omega);rw[d] at f;rw[f]
theorem oS:yE PR 151 oM:=ux oN rL Tryz.func151 kcN koN
theorem aB:yE PR 107 mL:=
 BL Tryz.sortSh 75 rfl (jy (by kernel_rfl)) Tryz.isAgg75 Tryz.sizeOf75 (qD Tryz.func107 (c:=wq Tryz.f107) (by kernel_rfl) (by kernel_rfl))
theorem Wy:fg cy:=by
 have e:cy=RB (fun a b=>bP (yR a) (yR b)) (RB (fun a b=>bP (H4 a) (H4 b)) (RB (fun a b=>bP (Xz a) (Xz b)) (RB (fun a b=>bP (KE a) (KE b)) (fun a b=>bP (nE a) (nE b))))):=by
  funext a b;unfold cy;simp only[wx,RB]
  split<;>(try rfl);split<;>(try rfl);split<;>(try rfl);split<;>(try rfl);split<;>(try rfl)
  rename_i h;exact(jN.1 h).symm
 rw[e];exact oL (nA ly yR) (oL (nA ly H4) (oL (nA ly Xz) (oL (nA ly KE) (nA ly nE))))
theorem Qd {a b:ShD} (h:cy a b=0):a=b:=by
 unfold cy at h;rw[wx] at h
 split at h
 contradiction;rename_i c;rw[wx] at h
 split at h
 contradiction;rename_i d;rw[wx] at h
 split at h
 contradiction;rename_i e;rw[wx] at h
 split at h
 contradiction;rename_i f;rw[qE] at h;have c:=gO.1 (jN.1 c);have d:=gO.1 (jN.1 d);have e:=gO.1 (jN.1 e);have f:=gO.1 (jN.1 f);have g:=gO.1 h;obtain⟨i,j,k,l,m,⟨⟩⟩:=a;obtain⟨n,o,p,q,r,⟨⟩⟩:=b;have c:i=n:=c;have d:j=o:=d;have e:k=p:=e;have f:l=q:=f;have g:m=r:=g;rw[c,d,e,f,g]
theorem Wz (l:List ShD):qR (kr tSh fun x=>(cy x.1 x.2.1,())) l:=Am Wy (fun _ _ _ _ h=>Qd h)
theorem TB (l:List ShD):(wz l).length<=l.length:=by
 unfold wz;refine jE (L.comp_len _) ?_;rw[(wj l).length_eq];exact jk _
theorem JF:G3:=by
 unfold G3 jgi;rintro⟨l,⟨⟩⟩ a;exact⟨a,fun _ _ _ _=>tZ,Wz l,by rw[(wj (lt:=kr tSh fun x=>(cy x.1 x.2.1,())) l).length_eq];exact a,rfl,rfl⟩
theorem rM:yE PR 104 G2:=uy JF Tryz.func104 (kcC Cj kcN) (koC tp (koC aB (koC oS koN)))
theorem Mr:Jy:=by
 unfold Jy jgj;rintro⟨s,⟨m,⟨⟩⟩,⟨⟩⟩ h;have h:Vh m:=h;have:=h (yR s);have this:0<=kW 0 (kJ .int s.1 m)/\kW 0 (kJ .int s.1 m)<=200000:=this;exact⟨L.Du (by simp only;omega) (by simp only;omega),rfl,rfl⟩
theorem JG:yE PR 148 Jx:=uy Mr Tryz.func148 kcN koN
theorem dJ {m:List (Int×Int)} {l:List ShD} {i:Nat} (h:i<l.length):vH m l (i+1)=mA (vH m l i) (nth l i):=by
 unfold vH;rw[L.wb h,jU];rfl
theorem X3 (l:List ShD):∀i,i<=l.length->∀k,0<=kW 0 (kJ .int k (vH [] l i))/\kW 0 (kJ .int k (vH [] l i))<=(i:Int)
 |0,_,k=>⟨zI 0,zI 0⟩
 |i+1,hi,k=>by
  have b:=X3 l i (by omega)
  rw[dJ (by omega)]
  unfold mA
  by_cases e:k=yR (nth l i)
  rw[e]
  have a:=M.ph (kt:= .int) (yR (nth l i)) (kW 0 (kJ .int (yR (nth l i)) (vH [] l i))+1) (vH [] l i)
  rw[a]
  have:=b (yR (nth l i))
  show 0<=kW 0 (kJ .int (yR (nth l i)) (vH [] l i))+1/\kW 0 (kJ .int (yR (nth l i)) (vH [] l i))+1<=_
  omega
  have a:=M.cS (kt:= .int) (k:=yR (nth l i)) (k':=k) e (kW 0 (kJ .int (yR (nth l i)) (vH [] l i))+1) (vH [] l i)
  rw[a]
  have:=b k
  omega
theorem WA {m:List (Int×Int)} {l:List ShD} {i:Nat} (h:i<l.length) (a:∀b:Nat,b<i->sw m l b=false) (hi:sw m l i=true):lW m l=(i:Int)/\Vg m l=i+1:=by
 have e:(List.range l.length).findIdx? (sw m l)=some i:=by
  rw[zJ];refine⟨by simpa using h,by simpa using hi,fun j c=>by simp[a j c]⟩
 unfold lW Vg vV;rw[e];exact⟨rfl,rfl⟩
theorem Fr {m:List (Int×Int)} {l:List ShD} (a:∀b:Nat,b<l.length->sw m l b=false):lW m l= -1/\Vg m l=l.length:=by
 have e:(List.range l.length).findIdx? (sw m l)=none:=by
  rw[kc];intro x c;exact a x (jC.1 c)
 unfold lW Vg vV;rw[e];exact⟨rfl,rfl⟩
theorem fA:dG:=by
 rintro⟨l,⟨m,⟨⟩⟩,⟨⟩⟩ j f n;have f:m=[]:=f;subst f;have j:l.length<=100000:=j;refine⟨⟨0,⟨⟨rfl,tZ⟩,rfl,tZ⟩,jw _,fun b i=>by omega⟩,fun x a=>⟨fun h=> ?_,fun h=> ?_⟩⟩;have h:x<l.length:=(by simpa using h);simp only[ju];refine⟨by omega,by omega,fun k=> ?_,fun d=> ?_,fun d=>⟨iZ6,x+1,⟨⟨by simp,tZ⟩,⟨tZ,tZ⟩,(dJ h).symm,tZ⟩,⟨h,fun b i=> ?_⟩,by omega⟩⟩;have:=X3 l x (by omega) k;omega;obtain⟨c,e2⟩:=WA h a.2 d;unfold o9;rw[c,e2,dJ h];exact⟨rfl,rfl⟩;by_cases e:b=x;subst e;exact d;exact a.2 b (by omega);have h:l.length<=x:=(by simpa using h);obtain⟨c,e2⟩:=Fr (m:=[]) (l:=l) (fun b i=>a.2 b (by omega));have g:x=l.length:=(by have:=a.1;simp only at this;omega);unfold o9;rw[c,e2,g];exact⟨rfl,rfl⟩
theorem dK:yE PR 186 dE:=ux dF fA Tryz.func186 kcN (koC JG koN)
theorem bW:bv:=fun _ a b=>⟨a,b,rfl,rfl⟩
theorem bw:yE PR 147 bu:=uy bW Tryz.func147 kcN (koC dK koN)
theorem TC:P6:=fun _ h=>⟨h,rfl,rfl⟩
theorem Qe:wm PR 103 P5:=kZ TC Tryz.func103 kcN (koC bw koN)
theorem WB {c:CrD} (h:kR c=true):wV c (0,1,0,0,0,1,())=true:=by
 obtain⟨a,_⟩:=w5 h;unfold wV;refine jK ?_;refine⟨by decide,?_,by decide,?_,by decide,by decide,by decide,by decide,by decide,by decide,by decide,by decide,by decide⟩;show(0:Int)<=U.la c-1;omega;show(1:Int)<=U.la c-1;omega
theorem TD (c:CrD):qv c (0,1,0,0,0,1,())=if kR c=false then 30 else 0:=by
 unfold qv;by_cases h:kR c=false;rw[jg h,jg h];rw[jc h,jc h,jc (by rw[WB (by simpa using h)];simp)]
theorem G4:DW:=by
 unfold DW jgk;rintro⟨d,⟨⟩⟩;have e:=TD d.1;simp only[e];by_cases f:kR d.1=false;rw[jg f];refine⟨fun _=> ?_,fun h=>by simp at h⟩;have f:kR (kE d)=false:=f;unfold tX;rw[jg f];rw[jc f];have c:kR (kE d)=true:=eq_true_of_ne_false f;refine⟨fun h=>by simp at h,fun _ k=>⟨⟨0,⟨⟨rfl,tZ⟩,tZ⟩,jw _,fun b j=>by omega⟩,fun x l=>⟨fun h=> ?_,fun h=> ?_⟩⟩⟩;have h:(x:Int)<(kA d).length:=jb h;have h:x<(kA d).length:=(by omega);have k:(kA d).length<4611686018427387904:=k;have e2:qv d.1 (nth d.2.2.1 x).1=if wV (kE d) (yQ (nth (kA d) x))=false then 31 else 0:=by
  show(if kR (kE d)=false then(30:Int) else if wV (kE d) (yQ (nth (kA d) x))=false then 31 else 0)=_;rw[jc (by rw[c];simp)]
 simp only[ju,e2];refine⟨by omega,by show(x:Int)<(kA d).length;omega,fun a=> ?_,fun a=>⟨iZ6,x+1,⟨⟨by simp,tZ⟩,tZ⟩,⟨h,fun b j=> ?_⟩,(by show(kA d).length-(x+1)<(kA d).length-x;omega)⟩⟩;have a:=jb a;by_cases g:wV (kE d) (yQ (nth (kA d) x))=false;rw[jg g];unfold tX;rw[jc (by rw[c];simp),jg];unfold KF;exact L.all_false h g;rw[jc g] at a;exact absurd rfl a;have a:=jd a;by_cases m:b=x;subst m;by_cases g:wV (kE d) (yQ (nth (kA d) b))=false;rw[jg g] at a;exact absurd (by decide) a;exact eq_true_of_ne_false g;exact l.2 b (by omega);have h:¬(x:Int)<(kA d).length:=jd h;have h:(kA d).length<=x:=(by omega);unfold tX;rw[jc (by rw[c];simp),jc];rw[Bool.not_eq_false];unfold KF;rw[jY];intro b j;obtain⟨i,hi,rfl⟩:=L.mem_iff.1 j;exact l.2 i (by omega)
theorem DZ:wm PR 101 DU:=vd DV G4 Tryz.func101 (kcC Fo kcN) koN
theorem TE:P8:=by
 unfold P8 Prod.q4;rintro⟨d,⟨⟩⟩ c;refine⟨fun h=> ?_,fun h=>⟨fun b=> ?_,fun b=>⟨c,jE (TB _) c,fun a=> ?_,fun a=> ?_⟩⟩⟩;have h:=jb h;simp only at h⊢;unfold wn;rw[jg h];have h:=jd h;simp only at h⊢;unfold wn;rw[jc h,jg (by simpa using b)];have h:=jd h;simp only at h⊢;unfold wn;rw[jc h,jc (by simpa using b)];have a:RF (wz (qh d))=true:=a;rw[jg a];have h:=jd h;simp only at h⊢;unfold wn;rw[jc h,jc (by simpa using b)];have a:RF (wz (qh d))=false:=a;rw[jc (by rw[a];simp)]
theorem Fs:wm PR 73 P7:=kZ TE Tryz.func73 (kcC DZ (kcC Qa (kcC Qe kcN))) (koC rM koN)
namespace U
def Rp {α:Type} [Inhabited α] (l:List α) (j k:Nat):List α:=(l.set j (nth l k)).set k (nth l j)
def m0 {α:Type} [Inhabited α] (lt:α->α->Bool):List α->Nat->List α
 |l,0=>l
 |l,j+1=>if lt (nth l (j+1)) (nth l j)=true then m0 lt (Rp l (j+1) j) j else l
def cP {α:Type} [Inhabited α] (lt:α->α->Bool) (l:List α) (i:Nat):List α:=(List.range i).foldl (m0 lt) l
def f8 {α:Type} [Inhabited α] (lt:α->α->Bool) (l:List α):List α:=cP lt l l.length
def pa {α:Type} (lt:α->α->Bool) (x:α):List α->List α
 |[]=>[x]
 |y::r=>if lt x y=true then y::pa lt x r else x::y::r
end U
namespace IS
variable {α:Type} [Inhabited α] {lt:α->α->Bool}
theorem swap_perm {l:List α} {j k:Nat} (a:j<l.length) (hk:k<l.length):(Rp l j k).Perm l:=by
 unfold Rp;rw[L.wG a,L.wG hk];exact List.set_set_perm a hk
theorem sink_perm:∀(j:Nat) (l:List α),j<l.length->(m0 lt l j).Perm l
 |0,l,_=>List.Perm.refl _
 |j+1,l,h=>by
  unfold m0
  have a:=swap_perm (l:=l) (j:=j+1) (k:=j) h (by omega)
  split
  exact(sink_perm j _ (by rw[a.length_eq];omega)).trans a
  exact List.Perm.refl _
theorem part_succ (lt:α->α->Bool) (l:List α) (i:Nat):cP lt l (i+1)=m0 lt (cP lt l i) i:=by
 simp[cP,zq]
theorem part_perm {l:List α}:∀(i:Nat),i<=l.length->(cP lt l i).Perm l
 |0,_=>List.Perm.refl _
 |i+1,h=>by
  rw[part_succ]
  have a:=part_perm (l:=l) i (by omega)
  exact(sink_perm i _ (by rw[a.length_eq];omega)).trans a
theorem isort_perm (lt:α->α->Bool) (l:List α):(f8 lt l).Perm l:=part_perm _ (jk _)
theorem part_isort {l:List α} {i:Nat} (a:1<=i) (b:i<=max l.length 1) (c:l.length<=i):cP lt l i=f8 lt l:=by
 unfold f8;by_cases h:l.length=0;have:i=1:=(by omega);subst this;rw[h];rfl;have:i=l.length:=(by omega);rw[this]
theorem insR_len {α:Type} {lt:α->α->Bool} (x:α):∀q:List α,(pa lt x q).length=q.length+1
 |[]=>rfl
 |y::r=>by
  unfold pa
  split
  simp[insR_len x r]
  simp
theorem nth_mid (a:List α) (x:α) (s:List α):nth (a++x::s) a.length=x:=by
 rw[L.wG (by simp)];simp
theorem sink_app:∀(q:List α) (x:α) (s:List α),m0 lt (q.reverse++x::s) q.length=(pa lt x q).reverse++s
 |[],x,s=>rfl
 |y::r,x,s=>by
  have e:(y::r).reverse++x::s=r.reverse++y::x::s:=by simp
  rw[e]
  have g:nth (r.reverse++y::x::s) (r.length+1)=x:=by
   have:=nth_mid (r.reverse++[y]) x s;simpa using this
  have h:nth (r.reverse++y::x::s) r.length=y:=by
   have:=nth_mid r.reverse y (x::s);simpa using this
  show(if lt (nth _ (r.length+1)) (nth _ r.length)=true then m0 lt (Rp _ (r.length+1) r.length) r.length else _)=_;rw[g,h];unfold pa
  split
  .have a:Rp (r.reverse++y::x::s) (r.length+1) r.length=r.reverse++x::(y::s):=by
    unfold Rp;rw[g,h];apply List.ext_getElem?;intro k;simp only[List.getElem?_set,List.length_set];by_cases b:r.length=k
    .subst b;rw[jg rfl,jg (by simp)];rw[jx (by simp)];simp
    .rw[jc b];by_cases c:r.length+1=k
     .subst c;rw[jg rfl,jg (by simp)];rw[jx (by simp)];simp
     .rw[jc c];by_cases f:k<r.length
      .rw[jz (by simpa using f),jz (by simpa using f)]
      .rw[jx (by simp;omega),jx (by simp;omega)];obtain⟨d,i⟩:∃d,k-r.reverse.length=d+2:=⟨k-r.length-2,by simp;omega⟩;rw[i];simp
   rw[a,sink_app r x (y::s)];simp
  .simp
theorem fold_len {α:Type} {lt:α->α->Bool}:∀(l q:List α),(l.foldl (fun q x=>pa lt x q) q).length=q.length+l.length
 |[],q=>rfl
 |x::l,q=>by
  simp only[List.foldl_cons,jX]
  rw[fold_len l,insR_len];omega
theorem part_eq (l:List α):∀i,i<=l.length->cP lt l i=((l.take i).foldl (fun q x=>pa lt x q) []).reverse++l.drop i
 |0,_=>by simp[cP]
 |i+1,h=>by
  rw[part_succ,part_eq l i (by omega)]
  have b:l.drop i=nth l i::l.drop (i+1):=by
   rw[L.wG (by omega)];exact z8 (by omega)
  rw[b];have a:((l.take i).foldl (fun q x=>pa lt x q) []).length=i:=(by rw[fold_len];simp;omega);have:=sink_app (lt:=lt) ((l.take i).foldl (fun q x=>pa lt x q) []) (nth l i) (l.drop (i+1));rw[a] at this;rw[this,L.wb (by omega),jU];rfl
theorem isort_eq (l:List α):f8 lt l=(l.foldl (fun q x=>pa lt x q) []).reverse:=by
 unfold f8;rw[part_eq l _ (jk _)];simp
theorem insR_mem {α:Type} {lt:α->α->Bool} {x z:α}:∀{q:List α},z∈pa lt x q↔z=x\/z∈q
 |[]=>by simp[pa]
 |y::r=>by
  unfold pa
  split
  simp only[jj,insR_mem (q:=r)]
  constructor
  rintro(h|h|h)<;>simp[h]
  rintro(h|h|h)<;>simp[h]
  simp
theorem insR_desc {α:Type} {lt:α->α->Bool} {x:α}:∀{q:List α},qR lt (x::q)->q.Pairwise (fun a b=>lt a b=false)->(pa lt x q).Pairwise (fun a b=>lt a b=false)
 |[],_,_=>by simp[pa]
 |y::r,ho,h=>by
  rw[zx] at h
  unfold pa
  split
  rename_i d
  rw[zx]
  refine⟨fun z c=> ?_,insR_desc (ho.sub (fun z c=>by rcases jj.1 c with h|h;exact h▸zb;exact jo _ (jo _ h))) h.2⟩
  rcases insR_mem.1 c with rfl|c
  exact ho.asymm (by simp) (by simp) d
  exact h.1 z c
  rename_i d
  have d:lt x y=false:=by simpa using d
  rw[zx]
  refine⟨fun z c=> ?_,zx.2 h⟩
  rcases jj.1 c with rfl|c
  exact d
  exact ho.ntrans (by simp) (by simp) (by simp[c]) d (h.1 z c)
theorem fold_desc {α:Type} {lt:α->α->Bool}:∀(l q:List α),qR lt (l++q)->q.Pairwise (fun a b=>lt a b=false)->(l.foldl (fun q x=>pa lt x q) q).Pairwise (fun a b=>lt a b=false)
 |[],q,_,h=>h
 |x::l,q,ho,h=>by
  refine fold_desc l _ (ho.sub (fun z c=> ?_)) (insR_desc (ho.sub (fun z c=> ?_)) h)
  rcases jr.1 c with c|c
  simp[c]
  rcases insR_mem.1 c with rfl|c
  simp
  simp[c]
  rcases jj.1 c with rfl|c
  simp
  simp[c]
theorem isort_asc {l:List α} (a:qR lt l):PN lt (f8 lt l):=by
 rw[isort_eq];unfold PN;rw[List.pairwise_reverse];exact fold_desc l [] (by simpa using a) (by simp)
theorem isort_sort {l:List α} (a:qR lt l):f8 lt l=ko lt l:=re a (isort_perm lt l) (isort_asc a)
end IS
end Go.X
namespace Go.X
open U
open Go.Proofs
def U.len8tab:ByteArray:=⟨#[0,1,2,2,3,3,3,3,4,4,4,4,4,4,4,4,5,5,5,5,5,5,5,5,5,5,5,5,5,5,5,5,6,6,6,6,6,6,6,6,6,6,6,6,6,6,6,6,6,6,6,6,6,6,6,6,6,6,6,6,6,6,6,6,7,7,7,7,7,7,7,7,7,7,7,7,7,7,7,7,7,7,7,7,7,7,7,7,7,7,7,7,7,7,7,7,7,7,7,7,7,7,7,7,7,7,7,7,7,7,7,7,7,7,7,7,7,7,7,7,7,7,7,7,7,7,7,7,8,8,8,8,8,8,8,8,8,8,8,8,8,8,8,8,8,8,8,8,8,8,8,8,8,8,8,8,8,8,8,8,8,8,8,8,8,8,8,8,8,8,8,8,8,8,8,8,8,8,8,8,8,8,8,8,8,8,8,8,8,8,8,8,8,8,8,8,8,8,8,8,8,8,8,8,8,8,8,8,8,8,8,8,8,8,8,8,8,8,8,8,8,8,8,8,8,8,8,8,8,8,8,8,8,8,8,8,8,8,8,8,8,8,8,8,8,8,8,8,8,8,8,8,8,8,8,8]⟩
abbrev rwI:Sh:= .cl (.row 3 .int .unk)
namespace U
abbrev FC:=Int×Int×Unit->Int×Unit
abbrev aN (F:FC):Int->Int->Bool:=kr .int F
def f9 (p:Int×Int×Unit->List Prop) (l:List Int):Prop:=∀x∈l,∀y∈l,kG (p (x,y,()))
def pb (n:Int):Int:=if n=0 then 0 else if n<2 then 1 else if n<4 then 2 else if n<8 then 3 else 4
end U
def G5:wd:=⟨[.val (.uint .u64)],[.int],false,fun d=>[0<=d.1/\d.1<=12],fun d=>(pb d.1,())⟩
abbrev jgl (d:Int×Unit):=(d.1/(2:Int)^Int.toNat 32/(2:Int)^Int.toNat 16/(2:Int)^Int.toNat 8)
abbrev jgm (d:Int×Unit):=(d.1/(2:Int)^Int.toNat 32/(2:Int)^Int.toNat 16)
abbrev jgn (d:Int×Unit):=(d.1/(2:Int)^Int.toNat 32/(2:Int)^Int.toNat 8)
abbrev jgo (d:Int×Unit):=(d.1/(2:Int)^Int.toNat 16/(2:Int)^Int.toNat 8)
abbrev jgW (d:Int×Unit):=(256<=d.1/(2:Int)^Int.toNat 32/(2:Int)^Int.toNat 16)
def G6:Prop:=∀(d:Int×Unit),0<=d.1/\d.1<=12->(decide (4294967296<=d.1)=true->(0:Int)<=32/\(32:Int)<=64/\(decide (65536<=d.1/(2:Int)^Int.toNat 32)=true->(0:Int)<=16/\(16:Int)<=64/\kK ((32:Int)+16)/\(decide (jgW d)=true->(0:Int)<=8/\(8:Int)<=64/\kK ((32:Int)+16+8)/\0<=d.1/(2:Int)^Int.toNat 32/(2:Int)^Int.toNat 16/(2:Int)^Int.toNat 8/\d.1/(2:Int)^Int.toNat 32/(2:Int)^Int.toNat 16/(2:Int)^Int.toNat 8<=255/\0<=d.1/(2:Int)^Int.toNat 32/(2:Int)^Int.toNat 16/(2:Int)^Int.toNat 8/\d.1/(2:Int)^Int.toNat 32/(2:Int)^Int.toNat 16/(2:Int)^Int.toNat 8<(U.len8tab.size:Int)/\kK (gi U.len8tab (jgl d).toNat)/\kK ((32:Int)+16+8+gi U.len8tab (jgl d).toNat)/\((32:Int)+16+8+gi U.len8tab (jgl d).toNat,())=(pb d.1,()))/\(decide (jgW d)=false->0<=d.1/(2:Int)^Int.toNat 32/(2:Int)^Int.toNat 16/\d.1/(2:Int)^Int.toNat 32/(2:Int)^Int.toNat 16<=255/\0<=d.1/(2:Int)^Int.toNat 32/(2:Int)^Int.toNat 16/\d.1/(2:Int)^Int.toNat 32/(2:Int)^Int.toNat 16<(U.len8tab.size:Int)/\kK (gi U.len8tab (jgm d).toNat)/\kK ((32:Int)+16+gi U.len8tab (jgm d).toNat)/\((32:Int)+16+gi U.len8tab (jgm d).toNat,())=(pb d.1,())))/\(decide (65536<=d.1/(2:Int)^Int.toNat 32)=false->(decide (256<=d.1/(2:Int)^Int.toNat 32)=true->(0:Int)<=8/\(8:Int)<=64/\kK ((32:Int)+8)/\0<=d.1/(2:Int)^Int.toNat 32/(2:Int)^Int.toNat 8/\d.1/(2:Int)^Int.toNat 32/(2:Int)^Int.toNat 8<=255/\0<=d.1/(2:Int)^Int.toNat 32/(2:Int)^Int.toNat 8/\d.1/(2:Int)^Int.toNat 32/(2:Int)^Int.toNat 8<(U.len8tab.size:Int)/\kK (gi U.len8tab (jgn d).toNat)/\kK ((32:Int)+8+gi U.len8tab (jgn d).toNat)/\((32:Int)+8+gi U.len8tab (jgn d).toNat,())=(pb d.1,()))/\(decide (256<=d.1/(2:Int)^Int.toNat 32)=false->0<=d.1/(2:Int)^Int.toNat 32/\d.1/(2:Int)^Int.toNat 32<=255/\0<=d.1/(2:Int)^Int.toNat 32/\d.1/(2:Int)^Int.toNat 32<(U.len8tab.size:Int)/\kK (gi U.len8tab (d.1/(2:Int)^Int.toNat 32).toNat)/\kK ((32:Int)+gi U.len8tab (d.1/(2:Int)^Int.toNat 32).toNat)/\((32:Int)+gi U.len8tab (d.1/(2:Int)^Int.toNat 32).toNat,())=(pb d.1,()))))/\(decide (4294967296<=d.1)=false->(decide (65536<=d.1)=true->(0:Int)<=16/\(16:Int)<=64/\kK ((0:Int)+16)/\(decide (256<=d.1/(2:Int)^Int.toNat 16)=true->(0:Int)<=8/\(8:Int)<=64/\kK ((0:Int)+16+8)/\0<=d.1/(2:Int)^Int.toNat 16/(2:Int)^Int.toNat 8/\d.1/(2:Int)^Int.toNat 16/(2:Int)^Int.toNat 8<=255/\0<=d.1/(2:Int)^Int.toNat 16/(2:Int)^Int.toNat 8/\d.1/(2:Int)^Int.toNat 16/(2:Int)^Int.toNat 8<(U.len8tab.size:Int)/\kK (gi U.len8tab (jgo d).toNat)/\kK ((0:Int)+16+8+gi U.len8tab (jgo d).toNat)/\((0:Int)+16+8+gi U.len8tab (jgo d).toNat,())=(pb d.1,()))/\(decide (256<=d.1/(2:Int)^Int.toNat 16)=false->0<=d.1/(2:Int)^Int.toNat 16/\d.1/(2:Int)^Int.toNat 16<=255/\0<=d.1/(2:Int)^Int.toNat 16/\d.1/(2:Int)^Int.toNat 16<(U.len8tab.size:Int)/\kK (gi U.len8tab (d.1/(2:Int)^Int.toNat 16).toNat)/\kK ((0:Int)+16+gi U.len8tab (d.1/(2:Int)^Int.toNat 16).toNat)/\((0:Int)+16+gi U.len8tab (d.1/(2:Int)^Int.toNat 16).toNat,())=(pb d.1,())))/\(decide (65536<=d.1)=false->(decide (256<=d.1)=true->(0:Int)<=8/\(8:Int)<=64/\kK ((0:Int)+8)/\0<=d.1/(2:Int)^Int.toNat 8/\d.1/(2:Int)^Int.toNat 8<=255/\0<=d.1/(2:Int)^Int.toNat 8/\d.1/(2:Int)^Int.toNat 8<(U.len8tab.size:Int)/\kK (gi U.len8tab (d.1/(2:Int)^Int.toNat 8).toNat)/\kK ((0:Int)+8+gi U.len8tab (d.1/(2:Int)^Int.toNat 8).toNat)/\((0:Int)+8+gi U.len8tab (d.1/(2:Int)^Int.toNat 8).toNat,())=(pb d.1,()))/\(decide (256<=d.1)=false->0<=d.1/\d.1<=255/\0<=d.1/\d.1<(U.len8tab.size:Int)/\kK (gi U.len8tab d.1.toNat)/\kK ((0:Int)+gi U.len8tab d.1.toNat)/\((0:Int)+gi U.len8tab d.1.toNat,())=(pb d.1,()))))
def Ms:wd:=⟨[.val (.uint .u64)],[.int],false,fun d=>[0<=d.1/\d.1<=12],fun d=>(pb d.1,())⟩
def Mt:Prop:=∀(d:Int×Unit),0<=d.1/\d.1<=12->(false=true->False)/\(qF->(0<=d.1/\d.1<=12)/\(pb d.1,())=(pb d.1,()))
def ag:qb:=⟨[.own rwI true,.val .int,.val .int,.fn [.int,.int] [.int]],[],fun d=>[d.2.1=0/\d.2.2.1=(d.1.length:Int)/\d.1.length<=12,f9 d.2.2.2.1.pre d.1],fun d=>((),(f8 (aN d.2.2.2.1.F) d.1,()))⟩
def ai:Ann:=fun r=>match r with
 |1=>some fun σ=>{X:=Nat,sl:=fun i=>[(8,.dat .int (i:Int))],ob:=fun i=>[(1000000,some (.row 3 .int false .unk (cP (aN (gfn [.int,.int] [.int] σ 3)) (gr .int σ 1000000) i)))],inv:=fun i=>1<=i/\i<=max (gr .int σ 1000000).length 1,mu:=fun i=>(gr .int σ 1000000).length-i}
 |4=>some fun σ=>{X:=Nat×List Int,sl:=fun x=>[(9,.dat .int (x.1:Int))],ob:=fun x=>[(1000000,some (.row 3 .int false .unk x.2))],inv:=fun x=>(x.1:Int)<=gd .int σ 8/\x.2.Perm (gr .int σ 1000000)/\m0 (aN (gfn [.int,.int] [.int] σ 3)) x.2 x.1=m0 (aN (gfn [.int,.int] [.int] σ 3)) (gr .int σ 1000000) (gd .int σ 8).toNat,mu:=fun x=>x.1}
 |_=>none
abbrev jgp (a:Nat×List Int):=(nth a.2 (a.1:Int).toNat,nth a.2 ((a.1:Int)-1).toNat,())
abbrev jdG (d:List Int×Int×Int×FnD [Ty.int,Ty.int] [Ty.int]×Unit):=(aN d.2.2.2.1.2)
def aj:Prop:=∀(d:List Int×Int×Int×FnD [Ty.int,Ty.int] [Ty.int]×Unit),d.2.1=0/\d.2.2.1=(d.1.length:Int)/\d.1.length<=12->f9 d.2.2.2.1.1 d.1->kK (d.2.1+1)/\(∃(x:Nat),((d.2.1+1=(x:Int)/\True)/\d.1=cP (jdG d) d.1 x/\True)/\1<=x/\x<=max d.1.length 1)/\∀(x:Nat),1<=x/\x<=max d.1.length 1->(decide ((x:Int)<d.2.2.1)=true->(∃(a:Nat×List Int),(((x:Int)=(a.1:Int)/\True)/\cP (jdG d) d.1 x=a.2/\True)/\(a.1:Int)<=(x:Int)/\a.2.Perm (cP (jdG d) d.1 x)/\m0 (jdG d) a.2 a.1=m0 (jdG d) (cP (jdG d) d.1 x) (x:Int).toNat)/\∀(a:Nat×List Int),(a.1:Int)<=(x:Int)/\a.2.Perm (cP (jdG d) d.1 x)/\m0 (jdG d) a.2 a.1=m0 (jdG d) (cP (jdG d) d.1 x) (x:Int).toNat->(decide (d.2.1<(a.1:Int))=true->0<=(a.1:Int))/\(decide (d.2.1<(a.1:Int))=true->(a.1:Int)<a.2.length)/\(decide (d.2.1<(a.1:Int))=true->kK ((a.1:Int)-1))/\(decide (d.2.1<(a.1:Int))=true->0<=(a.1:Int)-1)/\(decide (d.2.1<(a.1:Int))=true->(a.1:Int)-1<(a.2.length:Int))/\RR (decide (d.2.1<(a.1:Int))) (d.2.2.2.1.1 (jgp a)) (((decide (d.2.1<(a.1:Int))&&decide ((d.2.2.2.1.2 (jgp a)).1<0))=true->kK ((a.1:Int)-1)/\kK ((a.1:Int)-1)/\0<=(a.1:Int)-1/\(a.1:Int)-1<(a.2.length:Int)/\0<=(a.1:Int)/\(a.1:Int)<a.2.length/\0<=(a.1:Int)/\(a.1:Int)<a.2.length/\0<=(a.1:Int)-1/\(a.1:Int)-1<(↑(a.2.set (a.1:Int).toNat (nth a.2 ((a.1:Int)-1).toNat)).length:Int)/\kK ((a.1:Int)-1)/\∃(b:Nat×List Int),(((a.1:Int)-1=(b.1:Int)/\True)/\(a.2.set (a.1:Int).toNat (nth a.2 ((a.1:Int)-1).toNat)).set ((a.1:Int)-1).toNat (nth a.2 (a.1:Int).toNat)=b.2/\True)/\((b.1:Int)<=(x:Int)/\b.2.Perm (cP (jdG d) d.1 x)/\m0 (jdG d) b.2 b.1=m0 (jdG d) (cP (jdG d) d.1 x) (x:Int).toNat)/\b.1<a.1)/\((decide (d.2.1<(a.1:Int))&&decide ((d.2.2.2.1.2 (jgp a)).1<0))=false->kK ((x:Int)+1)/\∃(c:Nat),(((x:Int)+1=(c:Int)/\True)/\a.2=cP (jdG d) d.1 c/\True)/\(1<=c/\c<=max d.1.length 1)/\d.1.length-c<d.1.length-x)))/\(decide ((x:Int)<d.2.2.1)=false->()=()/\(cP (jdG d) d.1 x,())=(f8 (jdG d) d.1,()))
def dL:qb:=⟨[.own rwI true,.val .int,.val .int,.val .int,.fn [.int,.int] [.int]],[],fun d=>[d.2.1=0/\d.2.2.1=(d.1.length:Int)/\d.1.length<=12,f9 d.2.2.2.2.1.pre d.1],fun d=>((),(f8 (aN d.2.2.2.2.1.F) d.1,()))⟩
def dM:Ann:=fun r=>match r with
 |1000002=>some fun _=>{X:=Unit,sl:=fun _=>[],ob:=fun _=>[],inv:=fun _=>True,mu:=fun _=>0}
 |_=>none
def dN:Prop:=∀(d:List Int×Int×Int×Int×FnD [Ty.int,Ty.int] [Ty.int]×Unit),d.2.1=0/\d.2.2.1=(d.1.length:Int)/\d.1.length<=12->f9 d.q4.1.1 d.1->kK (d.2.2.1-d.2.1)/\(decide (d.2.2.1-d.2.1<=12)=true->(d.2.1=0/\d.2.2.1=(d.1.length:Int)/\d.1.length<=12)/\f9 d.q4.1.1 d.1/\()=()/\(f8 (aN d.q4.1.2) d.1,())=(f8 (aN d.q4.1.2) d.1,()))/\(decide (d.2.2.1-d.2.1<=12)=false->(decide (d.2.2.2.1=0)=true->False)/\(decide (d.2.2.2.1=0)=false->((!true)=true->False)/\((!true)=false->False)))
def qf:qb:=⟨[.own rwI true,.fn [.int,.int] [.int]],[],fun d=>[d.1.length<=12,f9 d.2.1.pre d.1,qR (aN d.2.1.F) d.1],fun d=>((),(ko (aN d.2.1.F) d.1,()))⟩
def rN:Prop:=∀(d:List Int×FnD [Ty.int,Ty.int] [Ty.int]×Unit),d.1.length<=12->f9 d.2.1.1 d.1->qR (aN d.2.1.2) d.1->d.1.length<4611686018427387904->0<=(d.1.length:Int)/\(d.1.length:Int)<=18446744073709551615/\(0<=(d.1.length:Int)/\(d.1.length:Int)<=12)/\((0:Int)=0/\(d.1.length:Int)=d.1.length/\d.1.length<=12)/\f9 d.2.1.1 d.1/\()=()/\(f8 (aN d.2.1.2) d.1,())=(ko (aN d.2.1.2) d.1,())
def asI (l:List Int):List (Ty.st [.int]).Data:=l.map (fun x=>(x,()))
def LVi (d:PD [.ref (.slice .int)]) (xs:List (Ty.st [.int]).Data):Prop:=xs=asI d.1
def rO:Ak (YS [.int]):=fun r=>match r with
 |1=>some fun σ _=>{X:=Nat,sl:=fun i=>[(7,.dat .int (i:Int))],ob:=fun _=>[],ys:=fun i=>(asI ((gd (.slice .int) σ 5).take i),true),inv:=fun i=>i<=(gd (.slice .int) σ 5).length,mu:=fun i=>(gd (.slice .int) σ 5).length-i}
 |_=>none
abbrev jdO:=(fun(a:Int)=>(a,()))
abbrev jfe (d:List Int×Unit)(x:Nat):=(nth d.1 (x:Int).toNat,())
def co:Prop:=∀(d:List Int×Unit) (l:Nat),d.1.length<4611686018427387904->(∃(x:Nat),((0=(x:Int)/\True)/\True)/\([],true)=(List.map jdO (List.take x d.1),true)/\x<=d.1.length)/\∀(x:Nat),x<=d.1.length->(decide ((x:Int)<d.1.length)=true->0<=(x:Int)/\(x:Int)<d.1.length/\l=l/\(∃(rest:List (Int×Unit)),List.map jdO (List.take x d.1)++[(jfe d x)]++rest=List.map jdO d.1)/\(((!true)=true->true=true->List.map jdO (List.take x d.1)++[(jfe d x)]=List.map jdO d.1)/\((!true)=false->kK ((x:Int)+1)/\∃(a:Nat),(((x:Int)+1=(a:Int)/\True)/\True)/\(List.map jdO (List.take x d.1)++[(jfe d x)],true)=(List.map jdO (List.take a d.1),true)/\a<=d.1.length/\d.1.length-a<d.1.length-x))/\((!false)=true->false=true->List.map jdO (List.take x d.1)++[(jfe d x)]=List.map jdO d.1)/\((!false)=false->kK ((x:Int)+1)/\∃(a:Nat),(((x:Int)+1=(a:Int)/\True)/\True)/\(List.map jdO (List.take x d.1)++[(jfe d x)],false)=(List.map jdO (List.take a d.1),true)/\a<=d.1.length/\d.1.length-a<d.1.length-x))/\(decide ((x:Int)<d.1.length)=false->true=true->List.map jdO (List.take x d.1)=List.map jdO d.1)
theorem lH:(V8 (ctx 16 [] []) (wq Tryz.f225) [.int] [.ref (.slice .int)] LVi (fun _=>[]) (fun _ _=>rO) (fun d l=>hkY [.int] l [13] (fun q=>∃rest,LVi d (q++rest)) (fun _=>none)))=co:=by kernel_rfl
def qg:om:=⟨[.val (.slice .int)],fun _=>[],225,[.slice .int],fun d=>(d.1,())⟩
def fW:Prop:=∀(d:List Int×Unit),d=d
theorem oT:(S3 (ctx 4 [] []) (fun _=>none) Tryz.f196 (wq Tryz.f196) qg)=fW:=by kernel_rfl
def bz:IL [.int]:={ps:=[.own (.box 31 [.row 3 .int .unk]) true],slots:=[2],dst:=20,pre:=fun _=>[],G:=fun d q=>((d.1.1++q.map (·.1),()),()),seq:=fun sv=>match sv with
 | .clo 225 [.ep t m]=>(match wN t (.slice .int) m with
  |some a=>some (True,fun xs=>xs=asI a)
  |none=>none)
 |_=>none}
def yG:Nat->Option ((ts:List Ty)×IL ts):=fun r=>match r with
 |3=>some ⟨[.int],bz⟩
 |_=>none
def qG:ot:=⟨[none,some (225,1)],[.nil false,.ref (.slice .int)],[rwI],fun d=>[d.2.1.length<=12],fun d r=>r.1.1=d.2.1⟩
def vf:ot:=⟨[some (225,1)],[.ref (.slice .int)],[rwI],fun d=>[d.1.length<=12],fun d r=>r.1.1=d.1⟩
def qn:ot:=⟨[some (225,1),none],[.ref (.slice .int),.fn [.int,.int] [.int]],[rwI],fun d=>[d.1.length<=12,f9 d.2.1.pre d.1,qR (aN d.2.1.F) d.1],fun d r=>r.1.1=ko (aN d.2.1.F) d.1⟩
def oU (d:OD qG.ps):List SV:=[.lit (.slice none 0 0),.clo 225 [.ep (.slice .int) d.2.1]]
abbrev jff:=(fun(a:Int×Unit)=>a.1)
abbrev jgq:=(fun(a:List (Int×Unit))=>false)
abbrev jgr:=(fun(a:Int)=>(a,()))
def bA:Prop:=∀(d:Unit×List Int×Unit),d.2.1.length<=12/\True->True/\True/\(([]++List.map jff [],()),())=(([],()),())/\(∀(q:List (Int×Unit)) (x:Int×Unit) (rest:List (Int×Unit)),q++x::rest=List.map jgr d.2.1->vM jgq q->(([]++List.map jff q).length+[x.1].length)*8<=140737488355328/\qF/\(([]++List.map jff q++[x.1],()),())=(([]++List.map jff (q++[x]),()),()))/\(∀(xs:List (Int×Unit)),xs=List.map jgr d.2.1->vM jgq xs->∃(_:Unit),[]++List.map jff xs=d.2.1)/\∀(q:List (Int×Unit)) (x:Int×Unit) (rest:List (Int×Unit)),q++x::rest=List.map jgr d.2.1->vM jgq q->false=true->∃(_:Unit),[]=d.2.1
theorem iz:(S5 (ctx 13 [] []) (fun _=>none) (hkC (ctx 13 [] []) (fun _=>none) yG [] []) Tryz.f233 (wq Tryz.f233) qG oU)=bA:=by kernel_rfl
def tq (d:OD vf.ps):List SV:=[.clo 225 [.ep (.slice .int) d.1]]
def dO:Prop:=∀(d:List Int×Unit),d.1.length<=12/\True->(d.1.length<=12/\True)/\∀(r:(List Int×Unit)×Unit),r.1.1=d.1->∃(_:Unit),r.1.1=d.1
theorem mQ:(S5 (ctx 5 [] []) (fun _=>none) (hkC (ctx 5 [] []) (fun _=>none) Zd [4] [(233,20,qG)]) Tryz.f223 (wq Tryz.f223) vf tq)=dO:=by kernel_rfl
def mR (d:OD qn.ps):List SV:=[.clo 225 [.ep (.slice .int) d.1],.fn [.int,.int] [.int] d.2.1.pre d.2.1.F]
def aC:Prop:=∀(d:List Int×FnD [Ty.int,Ty.int] [Ty.int]×Unit),d.1.length<=12/\f9 d.2.1.1 d.1/\qR (aN d.2.1.2) d.1/\True->(d.1.length<=12/\True)/\∀(r:(List Int×Unit)×Unit),r.1.1=d.1->r.1.1.length<=12/\f9 d.2.1.1 r.1.1/\qR (aN d.2.1.2) r.1.1/\∃(_:Unit),ko (aN d.2.1.2) r.1.1=ko (aN d.2.1.2) d.1
theorem fB:(S5 (ctx 12 [] [(224,qf)]) (fun _=>none) (hkC (ctx 12 [] [(224,qf)]) (fun _=>none) Zd [7] [(223,20,vf)]) Tryz.f195 (wq Tryz.f195) qn mR)=aC:=by kernel_rfl
theorem Qf {γ:Bool} {l:List Prop} {k:Prop} (h:γ=true->kG l) (hk:k):RR γ l k:=by
 induction l with
 |nil=>exact hk
 |cons p l b=>exact⟨fun a=>(h a).1,b (fun a=>(h a).2)⟩
theorem jdg:∀n:Nat,n<13->gi U.len8tab n=pb (n:Int):=by decide+kernel
theorem Zt (n:Int):0<=pb n/\pb n<=4:=by
 unfold pb
 split
 omega
 split
 omega
 split
 omega
 split<;>omega
theorem JH:G6:=by
 unfold G6 jgW jgo jgn jgm jgl;rintro⟨n,⟨⟩⟩ ⟨a,b⟩;have a:0<=n:=a;have b:n<=12:=b;refine⟨fun h=>absurd (jb h) (by simp only;omega),fun _=>⟨fun h=>absurd (jb h) (by simp only;omega),fun _=>⟨fun h=>absurd (jb h) (by simp only;omega),fun _=> ?_⟩⟩⟩;have c:=jdg n.toNat (by omega);rw[Int.toNat_of_nonneg a] at c;have d:=Zt n;simp only;rw[c];refine⟨by omega,by omega,by omega,?_,by unfold kK;omega,by unfold kK;omega,by rw[Int.zero_add]⟩;have:U.len8tab.size=256:=(by decide+kernel);omega
theorem G7:wm PR 131 G5:=kZ JH Tryz.func131 kcN koN
theorem Qg:Mt:=by
 rintro⟨n,⟨⟩⟩ h;exact⟨fun e=>(by cases e),fun _=>⟨h,rfl⟩⟩
theorem Mu:wm PR 93 Ms:=kZ Qg Tryz.func93 (kcC G7 kcN) koN
theorem av:aj:=by
 unfold aj jdG jgp;rintro⟨l,a,b,⟨pre,c⟩,⟨⟩⟩ x y;obtain⟨z,n,E⟩:a=0/\b=(l.length:Int)/\l.length<=12:=x;have s:f9 pre l:=y;subst z n;simp only;refine⟨by unfold kK;omega,⟨1,⟨⟨rfl,tZ⟩,rfl,tZ⟩,jk _,by omega⟩,fun i hi=>⟨fun h=> ?_,fun h=> ?_⟩⟩
 .have h:i<l.length:=(by have:=jb h;omega);have u:=IS.part_perm (lt:=aN c) (l:=l) i (by omega);refine⟨⟨(i,cP (aN c) l i),⟨⟨rfl,tZ⟩,rfl,tZ⟩,zI _,List.Perm.refl _,rfl⟩,?_⟩;rintro⟨j,m⟩ ⟨v,o,p⟩;have v:(j:Int)<=i:=v;have o:m.Perm (cP (aN c) l i):=o;have p:m0 (aN c) m j=m0 (aN c) (cP (aN c) l i) i:=p;have C:m.length=l.length:=(o.trans u).length_eq;have g:∀{k:Nat},k<m.length->nth m k∈l:=fun hk=>(o.trans u).mem_iff.1 (L.kx hk)
  simp only[ju];refine⟨fun _=>by omega,fun f=>by have:=jb f;omega,fun f=>by have:=jb f;unfold kK;omega,fun f=>by have:=jb f;omega,fun f=>by have:=jb f;omega,Qf (fun f=> ?_) ⟨fun n=> ?_,fun n=> ?_⟩⟩
  .have f:=jb f;exact s _ (g (by omega)) _ (g (by omega))
  .simp only[ji,js] at n;obtain⟨D,q⟩:=n;obtain⟨d,rfl⟩:∃d,j=d+1:=⟨j-1,by omega⟩;have r:((d+1:Nat):Int)-1=(d:Int):=(by omega);rw[r] at q⊢;simp only[ju] at q⊢;have t:=IS.swap_perm (l:=m) (j:=d+1) (k:=d) (by omega) (by omega);have e:kK (d:Int):=(by unfold kK;omega);refine⟨e,e,by omega,by omega,by omega,by omega,by omega,by omega,by omega,by simp;omega,e,⟨(d,Rp m (d+1) d),⟨⟨rfl,tZ⟩,rfl,tZ⟩,⟨by simp only;omega,t.trans o,?_⟩,by simp⟩⟩;rw[<-p];show _=(if aN c (nth m (d+1)) (nth m d)=true then m0 (aN c) (Rp m (d+1) d) d else m);have w:aN c (nth m (d+1)) (nth m d)=true:=jK q;rw[jg w]
  .have B:m=cP (aN c) l (i+1):=by
    rw[IS.part_succ,<-p];cases j with
    |zero=>rfl
    |succ d=>
     unfold m0;rw[jc];intro A;refine absurd n (by
      rw[Bool.and_eq_false_iff];rintro(h|h)
      .exact absurd (jd h) (by simp)
      .refine jd h ?_;have r:((d+1:Nat):Int)-1=(d:Int):=(by omega);rw[r];exact jb A)
   exact⟨by unfold kK;omega,i+1,⟨⟨by simp,tZ⟩,B,tZ⟩,by omega,by omega⟩
 .have h:l.length<=i:=(by have:=jd h;omega);exact⟨tZ,by rw[IS.part_isort hi.1 hi.2 h]⟩
theorem ak:yE PR 238 ag:=ux ai av Tryz.func238 kcN koN
theorem fC:dN:=by
 unfold dN Prod.q4;rintro⟨l,a,b,lim,⟨pre,c⟩,⟨⟩⟩ e d;obtain⟨f,g,i⟩:a=0/\b=(l.length:Int)/\l.length<=12:=e;subst f g;refine⟨by unfold kK;simp only;omega,fun _=>⟨⟨rfl,rfl,by simp only;omega⟩,d,rfl,rfl⟩,fun h=>absurd (jd h) (by simp only;omega)⟩
theorem dP:yE PR 234 dL:=ux dM fC Tryz.func234 kcN (koC ak koN)
theorem tu:rN:=by
 rintro⟨l,⟨pre,c⟩,⟨⟩⟩ a b d _;have a:l.length<=12:=a;exact⟨by simp only;omega,by simp only;omega,⟨by simp only;omega,by simp only;omega⟩,⟨rfl,rfl,a⟩,b,rfl,jS (·,()) (IS.isort_sort d)⟩
theorem rP:yE PR 224 qf:=uy tu Tryz.func224 (kcC Mu kcN) (koC dP koN)
theorem WC {l:List Int} {i:Nat} (h:i<l.length):asI (l.take (i+1))=asI (l.take i)++[(nth l i,())]:=by
 unfold asI;rw[L.wb h,zA];rfl
theorem tw:co:=by
 unfold co jfe jdO;rintro⟨l,⟨⟩⟩ y b;have b:l.length<4611686018427387904:=b;refine⟨⟨0,⟨⟨rfl,tZ⟩,tZ⟩,rfl,jw _⟩,fun x c=>⟨fun h=> ?_,fun h _=> ?_⟩⟩;have h:(x:Int)<l.length:=jb h;have a:x<l.length:=(by omega);have e:=WC a;unfold asI at e;simp only[ju];refine⟨by omega,h,tZ,⟨asI (l.drop (x+1)),?_⟩,⟨fun h=>(by cases h),fun _=>⟨iZ6,x+1,⟨⟨by simp,tZ⟩,tZ⟩,?_,by show x+1<=l.length;omega,by show l.length-(x+1)<l.length-x;omega⟩⟩,fun _ h=>(by cases h),fun h=>(by cases h)⟩;rw[<-e];unfold asI;rw[<-zA,zZ];rw[e];have h:¬(x:Int)<l.length:=jd h;have c:x<=l.length:=c;rw[zy (by show l.length<=x;omega)]
theorem Qh {H:Imm} {lb:Array Value} {d:PD [.ref (.slice .int)]} (e:pvs PR H [.ref (.slice .int)] lb.toList d):V6 PR H [.int] (LVi d) (.func (.func 225) #[] lb):=
 XZ (C:=ctx 16 [] []) (nz trivial trivial) mixed Tryz.func225 (by kernel_rfl) (by kernel_rfl) (by kernel_rfl) (by kernel_rfl) (by decide) (lH.mpr tw) (fun d l B0 R f a b c=>ja0 a c) e trivial
theorem Cm:fW:=by intro d;rfl
theorem xl:IQ PR 196 qg:=ja3 (oT.mpr Cm) Tryz.func196 (by kernel_rfl) (by kernel_rfl) (by kernel_rfl) (by kernel_rfl) trivial trivial
theorem Zu (l:List Int):(asI l).map (fun(x:Int×Unit)=>x.1)=l:=by
 unfold asI;rw[List.map_map];exact List.map_id l
theorem rQ:bA:=by
 unfold bA jgr jgq jff;intro d ⟨a,_⟩;refine⟨tZ,tZ,rfl,fun q x rest h _=>⟨?_,rfl,?_⟩,fun xs h _=>⟨(),?_⟩,fun _ _ _ _ _ h=>(by cases h)⟩;have b:=jS List.length h;simp only[zr,jJ,jX] at b;have a:d.2.1.length<=12:=a;simp only[jW,zr,jX,zo];omega;simp;rw[h,jW];exact Zu d.2.1
theorem xm:dO:=fun _ a=>⟨a,fun _ h=>⟨(),h⟩⟩
theorem oV:aC:=fun d ⟨a,b,c,_⟩=>⟨⟨a,tZ⟩,fun r h=>by rw[h];exact⟨a,b,c,(),rfl⟩⟩
theorem OC {P:Program} {ρ:Env} {H:Imm} (b:ρ.H=H) {g:Nat} {t:Ty} {d:t.Data} {lb:Array Value} {w:World} {bs:List Nat} (a:dq P H w [.ref t] lb.toList (d,()) bs):SV.den P ρ (.clo g [.ep t d]) (.func (.func g) #[] lb):=by
 subst b
 match e:lb.toList,a with
 |[],a=>exact a.elim
 |[x],⟨_,_,_,⟨c,_⟩,_⟩=>
  simp only[SV.den,SV.denL];exact⟨lb,rfl,x,[],e,c,rfl⟩
 |x::y::r,⟨_,_,_,_,h2⟩=>cases h2.1
theorem Mv {lb:Array Value} (h:lb.size=1):∃x,lb.toList=[x]:=by
 have a:lb.toList.length=1:=(by rw[jZ];exact h);exact List.length_eq_one_iff.1 a
theorem TF {g n:Nat} {s:ot} (h:ROK PR g s):∀(f:Nat) (p:Nat×ot),kN [(g,n,s)] f=some p->ROK PR f p.2:=by
 intro f p a;simp only[kN] at a
 split at a
 rename_i b;have:=ja b;subst this;simp at a;subst a;exact h;cases a
theorem WD (n:Nat):(ctx n [] []).ok PR:=nz trivial trivial
theorem mS:ROK PR 233 qG:=by
 refine S6 (body:=wq Tryz.f233) (C:=ctx 13 [] []) (hk:=hkC (ctx 13 [] []) (fun _=>none) yG [] []) (WD 13) mixed Tryz.func233 (by kernel_rfl) (by kernel_rfl) (by kernel_rfl) (fun B=>Fk (WD 13) mixed ?_ Zp B) rfl (fun H w vals fl d bs c b ρ f=> ?_) (fun d=>rfl) (iz.mpr rQ)
 .intro k t rs sv pr L v ρ hk a p g;unfold yG at hk
  split at hk
  case h_2=>cases hk
  simp only[jv] at hk;cases hk;simp only[bz] at a
  split at a
  case h_2=>cases a
  rename_i t m
  split at a
  case h_2=>cases a
  rename_i z o;simp only[jv,Prod.mk.injEq] at a;obtain⟨rfl,rfl⟩:=a;obtain⟨e,rfl⟩:=kz o;subst e;simp only[SV.den,SV.denL] at g;obtain⟨lb,rfl,x,r,n,j,l⟩:=g;exact Qh (d:=(m,())) (by rw[n,l];exact⟨j,rfl⟩)
 .obtain⟨v,q,h,rfl,rfl,lb,s,i,rfl,rfl,_,rfl,rfl⟩:=c;obtain⟨u,y,_,⟨rfl,_⟩,b⟩:=b;rw[j7] at b;refine⟨_,_,rfl,rfl,_,_,rfl,OC f b,rfl⟩
theorem rR:ROK PR 223 vf:=by
 refine S6 (body:=wq Tryz.f223) (C:=ctx 5 [] []) (hk:=hkC (ctx 5 [] []) (fun _=>none) Zd [4] [(233,20,qG)]) (WD 5) mixed Tryz.func223 (by kernel_rfl) (by kernel_rfl) (by kernel_rfl) (fun B=>Fk (WD 5) mixed LS (TF mS) B) rfl (fun H w vals fl d bs a c ρ b=> ?_) (fun d=>rfl) (mQ.mpr xm);obtain⟨lb,f,e,rfl,rfl,_,rfl,rfl⟩:=a;rw[j7] at c;exact⟨_,_,rfl,OC b c,rfl⟩
theorem Ft:(ctx 12 [] [(224,qf)]).ok PR:=nz trivial ⟨rP,tZ⟩
theorem lI:ROK PR 195 qn:=by
 refine S6 (body:=wq Tryz.f195) (C:=ctx 12 [] [(224,qf)]) (hk:=hkC (ctx 12 [] [(224,qf)]) (fun _=>none) Zd [7] [(223,20,vf)]) Ft mixed Tryz.func195 (by kernel_rfl) (by kernel_rfl) (by kernel_rfl)
  (fun B=>Fk Ft mixed LS (TF rR) B) rfl (fun H w vals fl d bs a e ρ c=> ?_) (fun d=>rfl) (fB.mpr oV)
 obtain⟨lb,k,g,rfl,rfl,b,v,l,h,rfl,rfl,rfl,rfl⟩:=a;obtain⟨x,f⟩:=Mv b;rw[f] at e;obtain⟨m,n,_,⟨i,_⟩,c1,c2,_,⟨j,_⟩,_⟩:=e;subst c;refine⟨_,_,rfl,⟨lb,rfl,x,[],f,i,rfl⟩,_,_,rfl,j,rfl⟩
abbrev tRo:Ty:= .st [tDy,.slice .int,.slice (.slice .int),.slice .int]
abbrev RoD:Type:=DyD×List Int×List (List Int)×List Int×Unit
namespace U
def ro (o:Option RoD):RoD:=kQ (Ty.dflt tRo) o
def rd (r:RoD):DyD:=r.1
def lX (r:RoD):List Int:=r.2.1
def aq (r:RoD):List (List Int):=r.2.2.1
def jcF (r:RoD):List Int:=r.2.2.2.1
def ax (d:DyD) (b:Int):Prop:=0<=b/\b<((kA d).length:Int)
def NB (d:DyD) (l:List Int):Prop:=l.length<=12/\∀b∈l,ax d b
def KY (d:DyD):Prop:=kR (kE d)=true/\KF d=true/\wL d=true
def O1 (r:RoD):Prop:=KY (rd r)/\(lX r).length=(kA (rd r)).length
def RG (d:DyD) (p:Int):Prop:=0<=p/\p<((kB (kE d)).length:Int)
def sx (d:DyD) (a b:Int):Int:=vW [bP (w8 (bk d a)) (w8 (bk d b)),bP a b]
def kF (d:DyD) (l:List Int):List Int:=ko (cw d) l
def gI (d:DyD) (s:List Int) (n:Nat):Int:=NA d (s.take n)
def HU (d:DyD) (cx:List Int) (p:Int) (s:List Int) (i:Nat):Bool:= !(decide (nL (nth cx (nth s i).toNat/2^p.toNat) 1=0)||(s.drop (i+1)).any (fun c=>decide (bH d (nth s i) c<0)))
def jak (d:DyD) (cx:List Int) (p:Int) (s:List Int):Bool:=(List.range s.length).all (HU d cx p s)&&decide (NA d s<=jah d)
def NC (d:DyD) (cx:List Int) (p:Int) (l:List Int):Bool:=jak d cx p (kF d l)
def Ez (r:RoD) (p:Int) (l:List Int):Bool:=NC (rd r) (lX r) p l
def gJ (on:List (List Int)) (b:Int) (n:Nat):Int:=(List.range n).foldl (fun s p=>if(nth on p).any (fun x=>decide (x=b))=true then bor s (1*2^p) else s) 0
def cQ (on:List (List Int)) (b:Int):Int:=gJ on b on.length
def Dk (d:DyD) (b t:Int):Bool:=(decide (ao (kE d) (yQ (bk d b)) t=0)&&decide (jaC (kE d) (yQ (bk d b)) t=0))&&decide (t≠0)
end U
def tz:wd:=⟨[.val (.ptr tRo),.val .int,.val .int],[.int],false,fun d=>[d.1.isSome=true,KY (U.rd (U.ro d.1)),ax (U.rd (U.ro d.1)) d.2.1,ax (U.rd (U.ro d.1)) d.2.2.1],fun d=>(bH (U.rd (U.ro d.1)) d.2.1 d.2.2.1,())⟩
abbrev jdX (d:Option RoD×Int×Int×Unit):=(kQ ((((0:Int),[],[],()),[],[],(0:Int),(0:Int),[],()),[],[],[],()) d.1)
abbrev jeg (d:Option RoD×Int×Int×Unit):=(nth (jdX d).1.2.2.1 d.2.1.toNat)
abbrev jeo (d:Option RoD×Int×Int×Unit):=(nth (jdX d).1.2.2.1 d.2.2.1.toNat)
def tA:Prop:=∀(d:Option RoD×Int×Int×Unit),d.1.isSome=true->KY (U.rd (U.ro d.1))->ax (U.rd (U.ro d.1)) d.2.1->ax (U.rd (U.ro d.1)) d.2.2.1->d.1.isSome=true/\0<=d.2.1/\d.2.1<(↑(jdX d).1.2.2.1.length:Int)/\d.1.isSome=true/\0<=d.2.2.1/\d.2.2.1<(↑(jdX d).1.2.2.1.length:Int)/\kK ((jeo d).2.2.1-(jeg d).2.2.2.1)/\d.1.isSome=true/\kK ((jeo d).2.2.1-(jeg d).2.2.2.1-(jdX d).1.2.2.2.1)/\d.1.isSome=true/\(0:Int)<=(jeg d).2.1/\(jeg d).2.1<(↑(jdX d).1.2.1.length:Int)/\(0:Int)<=(jeo d).2.1/\(jeo d).2.1<(↑(nth (jdX d).1.2.1 (jeg d).2.1.toNat).length:Int)/\kK ((jeo d).2.2.1-(jeg d).2.2.2.1-(jdX d).1.2.2.2.1-(nth (nth (jdX d).1.2.1 (jeg d).2.1.toNat) (jeo d).2.1.toNat).2.1)/\((jeo d).2.2.1-(jeg d).2.2.2.1-(jdX d).1.2.2.2.1-(nth (nth (jdX d).1.2.1 (jeg d).2.1.toNat) (jeo d).2.1.toNat).2.1,())=(bH (U.rd (U.ro d.1)) d.2.1 d.2.2.1,())
def wS:wd:=⟨[.val .int,.val .int,.ref (.ptr tRo)],[.int],false,fun d=>[d.2.2.1.isSome=true,ax (U.rd (U.ro d.2.2.1)) d.1,ax (U.rd (U.ro d.2.2.1)) d.2.1],fun d=>(sx (U.rd (U.ro d.2.2.1)) d.1 d.2.1,())⟩
abbrev jfL (d:Int×Int×Option RoD×Unit):=(kQ ((((0:Int),[],[],()),[],[],(0:Int),(0:Int),[],()),[],[],[],()) d.2.2.1)
def mT:Prop:=∀(d:Int×Int×Option RoD×Unit),d.2.2.1.isSome=true->ax (U.rd (U.ro d.2.2.1)) d.1->ax (U.rd (U.ro d.2.2.1)) d.2.1->d.2.2.1.isSome=true/\0<=d.1/\d.1<(↑(jfL d).1.2.2.1.length:Int)/\d.2.2.1.isSome=true/\0<=d.2.1/\d.2.1<(↑(jfL d).1.2.2.1.length:Int)/\(vW [bP (nth (jfL d).1.2.2.1 d.1.toNat).2.2.1 (nth (jfL d).1.2.2.1 d.2.1.toNat).2.2.1,bP d.1 d.2.1],())=(sx (U.rd (U.ro d.2.2.1)) d.1 d.2.1,())
def cq:wd:=⟨[.val (.ptr tRo),.val (.slice .int)],[.slice .int],false,fun d=>[d.1.isSome=true,NB (U.rd (U.ro d.1)) d.2.1],fun d=>(kF (U.rd (U.ro d.1)) d.2.1,())⟩
abbrev jgX (d:Option RoD×List Int×Unit):=(aN fun(a:Int×Int×Unit)=>(sx (U.rd (U.ro d.1)) a.1 a.2.1,()))
def cr:Prop:=∀(d:Option RoD×List Int×Unit),d.1.isSome=true->NB (U.rd (U.ro d.1)) d.2.1->(d.2.1.length<=12/\f9 (fun(a:Int×Int×Unit)=>[d.1.isSome=true,ax (U.rd (U.ro d.1)) a.1,ax (U.rd (U.ro d.1)) a.2.1]) d.2.1/\qR (jgX d) d.2.1/\True)/\∀(r:(List Int×Unit)×Unit),r.1.1=ko (jgX d) d.2.1->r.1=(kF (U.rd (U.ro d.1)) d.2.1,())
theorem lJ:(Y9 (KV 9 [(197,wS)] [] [(196,qg)] []) (fun _=>none) (hkC (KV 9 [(197,wS)] [] [(196,qg)] []) (fun _=>none) Zd [8] [(195,20,qn)]) Tryz.f154 (wq Tryz.f154) cq)=cr:=by kernel_rfl
def tB:wd:=⟨[.val .int,.ref (.ptr tRo),.ref .int],[.bool],false,fun d=>[d.2.1.isSome=true,KY (U.rd (U.ro d.2.1)),ax (U.rd (U.ro d.2.1)) d.1,ax (U.rd (U.ro d.2.1)) d.2.2.1],fun d=>(decide (bH (U.rd (U.ro d.2.1)) d.2.2.1 d.1<0),())⟩
def tC:Prop:=∀(d:Int×Option RoD×Int×Unit),d.2.1.isSome=true->KY (U.rd (U.ro d.2.1))->ax (U.rd (U.ro d.2.1)) d.1->ax (U.rd (U.ro d.2.1)) d.2.2.1->d.2.1.isSome=true/\KY (U.rd (U.ro d.2.1))/\ax (U.rd (U.ro d.2.1)) d.2.2.1/\ax (U.rd (U.ro d.2.1)) d.1/\(decide (bH (U.rd (U.ro d.2.1)) d.2.2.1 d.1<0),())=(decide (bH (U.rd (U.ro d.2.1)) d.2.2.1 d.1<0),())
def Cn:wd:=⟨[.val (.ptr tRo),.val .int,.val (.slice .int)],[.bool],false,fun d=>[d.1.isSome=true,O1 (U.ro d.1),RG (U.rd (U.ro d.1)) d.2.1,NB (U.rd (U.ro d.1)) d.2.2.1],fun d=>(Ez (U.ro d.1) d.2.1 d.2.2.1,())⟩
def Co:Ann:=fun r=>match r with
 |4=>some fun σ=>{X:=Nat,sl:=fun i=>[(16,.dat .int (i:Int)),(7,.dat .int (gI (U.rd (U.ro (gd (.ptr tRo) σ 0))) (gd (.slice .int) σ 14) i))],ob:=fun _=>[],inv:=fun i=>i<=(gd (.slice .int) σ 14).length/\∀b:Nat,b<i->HU (U.rd (U.ro (gd (.ptr tRo) σ 0))) (lX (U.ro (gd (.ptr tRo) σ 0))) (gd .int σ 1) (gd (.slice .int) σ 14) b=true,mu:=fun i=>(gd (.slice .int) σ 14).length-i}
 |_=>none
abbrev jeB (d:Option RoD×Int×List Int×Unit):=(kQ ((((0:Int),[],[],()),[],[],(0:Int),(0:Int),[],()),[],[],[],()) d.1)
abbrev jdJ (d:Option RoD×Int×List Int×Unit):=(U.rd (U.ro d.1))
abbrev jdy (d:Option RoD×Int×List Int×Unit):=(kF (jdJ d) d.2.2.1)
abbrev jeQ (d:Option RoD×Int×List Int×Unit)(x:Nat):=(nL (nth (jeB d).2.1 (nth (jdy d) (x:Int).toNat).toNat/(2:Int)^d.2.1.toNat) (1:Int)=0)
abbrev jgs (d:Option RoD×Int×List Int×Unit)(x:Nat):=((nth (jeB d).1.2.2.1 (nth (jdy d) (x:Int).toNat).toNat).2.2.2.1-(nth (jeB d).1.2.2.1 (nth (jdy d) (x:Int).toNat).toNat).2.2.1)
abbrev jep (d:Option RoD×Int×List Int×Unit):=(↑(jdy d).length:Int)
abbrev jgY (d:Option RoD×Int×List Int×Unit)(x:Nat):=(decide (jeQ d x)||(List.take ((jep d).toNat-((x:Int)+1).toNat) (List.drop ((x:Int)+1).toNat (jdy d))).any (km fun(a:Int×Unit)=>(decide (bH (jdJ d) (nth (jdy d) (x:Int).toNat) a.1<0),())))
def Cq:Prop:=∀(d:Option RoD×Int×List Int×Unit),d.1.isSome=true->O1 (U.ro d.1)->RG (jdJ d) d.2.1->NB (jdJ d) d.2.2.1->d.1.isSome=true/\NB (jdJ d) d.2.2.1/\((jdy d).length<4611686018427387904->(∃(x:Nat),((0=(x:Int)/\0=gI (jdJ d) (jdy d) x/\True)/\True)/\x<=(jdy d).length/\∀(b:Nat),b<x->HU (jdJ d) (lX (U.ro d.1)) d.2.1 (jdy d) b=true)/\∀(x:Nat),(x<=(jdy d).length/\∀(b:Nat),b<x->HU (jdJ d) (lX (U.ro d.1)) d.2.1 (jdy d) b=true)->(decide ((x:Int)<(jep d))=true->0<=(x:Int)/\(x:Int)<(jep d)/\d.1.isSome=true/\0<=nth (jdy d) (x:Int).toNat/\nth (jdy d) (x:Int).toNat<(↑(jeB d).1.2.2.1.length:Int)/\d.1.isSome=true/\0<=nth (jdy d) (x:Int).toNat/\nth (jdy d) (x:Int).toNat<(↑(jeB d).1.2.2.1.length:Int)/\kK (jgs d x)/\kK (gI (jdJ d) (jdy d) x+(jgs d x))/\d.1.isSome=true/\0<=nth (jdy d) (x:Int).toNat/\nth (jdy d) (x:Int).toNat<(↑(jeB d).2.1.length:Int)/\0<=d.2.1/\d.2.1<=64/\((!decide (jeQ d x))=true->kK ((x:Int)+1))/\((!decide (jeQ d x))=true->0<=(x:Int)+1)/\((!decide (jeQ d x))=true->(x:Int)+1<=(jep d))/\((!decide (jeQ d x))=true->(jep d)<=(jep d))/\((!decide (jeQ d x))=true->∀(g:Int),g∈List.take ((jep d).toNat-((x:Int)+1).toNat) (List.drop ((x:Int)+1).toNat (jdy d))->kG [d.1.isSome=true,KY (jdJ d),ax (jdJ d) g,ax (jdJ d) (nth (jdy d) (x:Int).toNat)])/\((jgY d x)=true->(false,())=(Ez (U.ro d.1) d.2.1 d.2.2.1,()))/\((jgY d x)=false->kK ((x:Int)+1)/\∃(a:Nat),(((x:Int)+1=(a:Int)/\gI (jdJ d) (jdy d) x+(jgs d x)=gI (jdJ d) (jdy d) a/\True)/\True)/\(a<=(jdy d).length/\∀(b:Nat),b<a->HU (jdJ d) (lX (U.ro d.1)) d.2.1 (jdy d) b=true)/\(jdy d).length-a<(jdy d).length-x))/\(decide ((x:Int)<(jep d))=false->d.1.isSome=true/\(decide (gI (jdJ d) (jdy d) x<=(jeB d).1.q4.1),())=(Ez (U.ro d.1) d.2.1 d.2.2.1,())))
def xn:wd:=⟨[.val (.ptr tRo),.val .int],[.int],false,fun d=>[d.1.isSome=true,(aq (U.ro d.1)).length<=60],fun d=>(cQ (aq (U.ro d.1)) d.2.1,())⟩
def xo:Ann:=fun r=>match r with
 |2=>some fun σ=>{X:=Nat,sl:=fun i=>[(12,.dat .int (i:Int)),(4,.dat .int (gJ (aq (U.ro (gd (.ptr tRo) σ 0))) (gd .int σ 1) i))],ob:=fun _=>[],inv:=fun i=>i<=(aq (U.ro (gd (.ptr tRo) σ 0))).length,mu:=fun i=>(aq (U.ro (gd (.ptr tRo) σ 0))).length-i}
 |_=>none
abbrev jeR (d:Option RoD×Int×Unit):=(kQ ((((0:Int),[],[],()),[],[],(0:Int),(0:Int),[],()),[],[],[],()) d.1)
abbrev jdK (d:Option RoD×Int×Unit):=(aq (U.ro d.1))
def xp:Prop:=∀(d:Option RoD×Int×Unit),d.1.isSome=true->(jdK d).length<=60->d.1.isSome=true/\((jeR d).2.2.1.length<4611686018427387904->(∃(x:Nat),((0=(x:Int)/\0=gJ (jdK d) d.2.1 x/\True)/\True)/\x<=(jdK d).length)/\∀(x:Nat),x<=(jdK d).length->(decide ((x:Int)<(jeR d).2.2.1.length)=true->0<=(x:Int)/\(x:Int)<(jeR d).2.2.1.length/\(((nth (jeR d).2.2.1 (x:Int).toNat).any fun(b:Int)=>decide (b=d.2.1))=true->0<=(x:Int)/\(x:Int)<=64/\kK ((1:Int)*2^(x:Int).toNat)/\kK ((x:Int)+1)/\∃(a:Nat),(((x:Int)+1=(a:Int)/\bor (gJ (jdK d) d.2.1 x) ((1:Int)*2^(x:Int).toNat)=gJ (jdK d) d.2.1 a/\True)/\True)/\a<=(jdK d).length/\(jdK d).length-a<(jdK d).length-x)/\(((nth (jeR d).2.2.1 (x:Int).toNat).any fun(b:Int)=>decide (b=d.2.1))=false->kK ((x:Int)+1)/\∃(a:Nat),((gJ (jdK d) d.2.1 x=gJ (jdK d) d.2.1 a/\(x:Int)+1=(a:Int)/\True)/\True)/\a<=(jdK d).length/\(jdK d).length-a<(jdK d).length-x))/\(decide ((x:Int)<(jeR d).2.2.1.length)=false->(gJ (jdK d) d.2.1 x,())=(cQ (jdK d) d.2.1,())))
def xq:wd:=⟨[.val (.ptr tRo),.val .int,.val .int],[.bool],false,fun d=>[d.1.isSome=true,ax (U.rd (U.ro d.1)) d.2.1],fun d=>(Dk (U.rd (U.ro d.1)) d.2.1 d.2.2.1,())⟩
abbrev jfg (d:Option RoD×Int×Int×Unit):=(kQ ((((0:Int),[],[],()),[],[],(0:Int),(0:Int),[],()),[],[],[],()) d.1)
def xr:Prop:=∀(d:Option RoD×Int×Int×Unit),d.1.isSome=true->ax (U.rd (U.ro d.1)) d.2.1->d.1.isSome=true/\d.1.isSome=true/\0<=d.2.1/\d.2.1<(↑(jfg d).1.2.2.1.length:Int)/\(decide (ao (jfg d).1.1 (nth (jfg d).1.2.2.1 d.2.1.toNat).1 d.2.2.1=0)&&decide (jaC (jfg d).1.1 (nth (jfg d).1.2.2.1 d.2.1.toNat).1 d.2.2.1=0)&&decide (d.2.2.1≠0),())=(Dk (U.rd (U.ro d.1)) d.2.1 d.2.2.1,())
theorem ya {d:DyD} (h:wL d=true):(kA d).length<=4/\(1<=(wh d).length/\(wh d).length<=5)/\(0<=Rn d/\Rn d<=300)/\(0<=jah d/\jah d<=1440)/\(qh d).length<=30/\
 (∀r∈wh d,bG (wh d).length r=true)/\(∀b∈kA d,lS (wh d).length b=true)/\∀s∈qh d,lT (kA d).length (kB (kE d)).length s=true:=by
 unfold wL at h;simp only[ji,js,jY] at h;obtain⟨⟨e,f,g,i,j,k,l,m⟩,n,a,c⟩:=h;exact⟨e,⟨f,g⟩,⟨i,j⟩,⟨k,l⟩,m,n,a,c⟩
theorem jcj {d:DyD} {b:Int} (h:ax d b):U.bk d b∈kA d:=by
 unfold U.bk;exact L.kx (by unfold ax at h;omega)
theorem mm {d:DyD} (h:wL d=true) {b:Int} (a:ax d b):(0<=jag (U.bk d b)/\jag (U.bk d b)<((wh d).length:Int))/\0<=w8 (U.bk d b)/\w8 (U.bk d b)<fK (U.bk d b)/\fK (U.bk d b)<=1440:=by
 have:=(ya h).2.2.2.2.2.2.1 _ (jcj a);unfold lS at this;have:=jb this;omega
theorem JI {d:DyD} (h:wL d=true) {i:Nat} (hi:i<(wh d).length):(nth (wh d) i).length=(wh d).length/\∀j,j<(wh d).length->0<=U.lo (nth (nth (wh d) i) j)/\U.lo (nth (nth (wh d) i) j)<=U.hi (nth (nth (wh d) i) j)/\U.hi (nth (nth (wh d) i) j)<=300:=by
 have:=(ya h).2.2.2.2.2.1 _ (L.kx hi);unfold bG at this;rw[ji,js,jY] at this;refine⟨this.1,fun j b=> ?_⟩;have a:=this.2 _ (L.kx (l:=nth (wh d) i) (i:=j) (by omega));unfold sn at a;exact jb a
theorem TG {d:DyD} (h:wL d=true) {a b:Int} (c:ax d a) (e:ax d b):0<=jai d a b/\jai d a b<=300:=by
 have f:=(mm h c).1;have g:=(mm h e).1;have:=(JI h (i:=(jag (U.bk d a)).toNat) (by omega)).2 (jag (U.bk d b)).toNat (by omega);unfold jai;omega
theorem xt:tA:=by
 unfold tA jeo jeg jdX;rintro⟨(_|r),a,b,⟨⟩⟩ h c d e;cases h;obtain⟨c1,c2,c⟩:KY (U.rd r):=c;have d:ax (U.rd r) a:=d;have e:ax (U.rd r) b:=e;have g:=mm c d;have j:=mm c e;have k:=TG c d e;have l:=(ya c).2.2.1;have m:=(JI c (i:=(jag (U.bk (U.rd r) a)).toNat) (by omega)).1;have f:(0<=a/\a<((kA (U.rd r)).length:Int))/\0<=b/\b<((kA (U.rd r)).length:Int):=⟨d,e⟩;refine⟨rfl,f.1.1,f.1.2,rfl,f.2.1,f.2.2,?_,rfl,?_,rfl,g.1.1,g.1.2,j.1.1,?_,?_,rfl⟩;show kK (w8 (U.bk (U.rd r) b)-fK (U.bk (U.rd r) a));exact iZ6;show kK (w8 (U.bk (U.rd r) b)-fK (U.bk (U.rd r) a)-Rn (U.rd r));exact iZ6;show jag (U.bk (U.rd r) b)<((nth (wh (U.rd r)) (jag (U.bk (U.rd r) a)).toNat).length:Int);omega;show kK (w8 (U.bk (U.rd r) b)-fK (U.bk (U.rd r) a)-Rn (U.rd r)-jai (U.rd r) a b);exact iZ6
theorem tD:wm PR 156 tz:=kZ xt Tryz.func156 kcN koN
theorem oW:mT:=by
 unfold mT jfL;rintro⟨a,b,(_|r),⟨⟩⟩ e c d;cases e;have c:ax (U.rd r) a:=c;have d:ax (U.rd r) b:=d;exact⟨rfl,c.1,c.2,rfl,d.1,d.2,rfl⟩
theorem mU:wm PR 197 wS:=kZ oW Tryz.func197 (kcC vS (kcC aK kcN)) koN
theorem Zv (d:DyD):fg (sx d):=by
 have e:sx d=RB (fun a b=>bP (w8 (U.bk d a)) (w8 (U.bk d b))) bP:=by
  funext a b;unfold sx;rw[wx,qE];rfl
 rw[e];exact oL (nA ly (fun a=>w8 (U.bk d a))) ly
theorem TH {d:DyD} {a b:Int} (h:sx d a b=0):a=b:=by
 unfold sx at h;rw[wx] at h
 split at h
 contradiction;rw[qE] at h;exact gO.1 h
theorem TJ (d:DyD) (a b:Int):decide (sx d a b<0)=cw d a b:=by
 unfold sx cw;rw[wx,qE];refine decide_eq_decide.2 ?_;by_cases c:w8 (U.bk d a)<w8 (U.bk d b);have e:bP (w8 (U.bk d a)) (w8 (U.bk d b))= -1:=(by unfold bP;rw[jg c]);rw[e];simp;omega;by_cases f:w8 (U.bk d b)<w8 (U.bk d a);have e:bP (w8 (U.bk d a)) (w8 (U.bk d b))=1:=(by unfold bP;rw[jc c,jg f]);rw[e];simp;omega;have e:bP (w8 (U.bk d a)) (w8 (U.bk d b))=0:=(by unfold bP;rw[jc c,jc f]);rw[e];unfold bP;simp only[ne_eq,not_true_eq_false,if_false]
 split<;>(try split)<;>omega
theorem jdh (d:DyD) (l:List Int):qR (cw d) l:=by
 have:=Am (t:= .int) (Zv d) (l:=l) (fun _ _ _ _ h=>TH h);have e:(kr .int fun(x:Int×Int×Unit)=>(sx d x.1 x.2.1,()))=cw d:=by
  funext a b;exact TJ d a b
 rw[e] at this;exact this
theorem ltK (d:DyD):(aN fun(x:Int×Int×Unit)=>(sx d x.1 x.2.1,()))=cw d:=by
 funext a b;exact TJ d a b
theorem tE:cr:=by
 unfold cr jgX;rintro⟨(_|r),l,⟨⟩⟩ c f;cases c;obtain⟨d,b⟩:NB (U.rd r) l:=f;refine⟨⟨d,fun x g y h=>⟨rfl,b x g,b y h,tZ⟩,?_,tZ⟩,fun q a=> ?_⟩;have e:=ltK (U.rd r);show qR (aN fun(x:Int×Int×Unit)=>(sx (U.rd r) x.1 x.2.1,())) l;rw[e];exact jdh _ l;have e:=ltK (U.rd r);have a:q.1.1=ko (aN fun(x:Int×Int×Unit)=>(sx (U.rd r) x.1 x.2.1,())) l:=a;rw[e] at a;obtain⟨⟨q,⟨⟩⟩,⟨⟩⟩:=q;rw[show q=_ from a];rfl
theorem JJ:(KV 9 [(197,wS)] [] [(196,qg)] []).ok PR:=LY ⟨fun _=>mU,tZ⟩ trivial ⟨xl,tZ⟩ trivial
theorem rS:wm PR 154 cq:=
 jaY (body:=wq Tryz.f154) (C:=KV 9 [(197,wS)] [] [(196,qg)] []) (hk:=hkC (KV 9 [(197,wS)] [] [(196,qg)] []) (fun _=>none) Zd [8] [(195,20,qn)]) JJ mixed Tryz.func154 (by kernel_rfl) (by kernel_rfl) (by kernel_rfl) (by decide)
  (fun B=>Fk JJ mixed LS (TF lI) B) (lJ.mpr tE)
theorem xu:tC:=by
 rintro⟨b,(_|r),a,⟨⟩⟩ c f e d;cases c;exact⟨rfl,f,d,e,rfl⟩
theorem tF:wm PR 155 tB:=kZ xu Tryz.func155 (kcC tD kcN) koN
theorem Cr {d:DyD} {s:List Int} {i:Nat} (h:i<s.length):gI d s (i+1)=gI d s i+(fK (U.bk d (nth s i))-w8 (U.bk d (nth s i))):=by
 unfold gI NA;rw[L.wb h,zA,jU];rfl
theorem TK {d:DyD} (a:wL d=true) {s:List Int} (c:∀b∈s,ax d b):∀i,i<=s.length->0<=gI d s i/\gI d s i<=1440*(i:Int)
 |0,_=>⟨zI _,zI _⟩
 |i+1,hi=>by
  have f:=TK a c i (by omega)
  have e:=mm a (c _ (L.kx (l:=s) (i:=i) (by omega)))
  rw[Cr (by omega)]
  omega
theorem Mw {d:DyD} {l:List Int} {b:Int}:b∈kF d l↔b∈l:=(wj l).mem_iff
theorem Mx (d:DyD) (l:List Int):(kF d l).length=l.length:=(wj l).length_eq
theorem D0:Cq:=by
 unfold Cq jgY jep jgs jeQ jdy jdJ jeB Prod.q4;rintro⟨(_|r),p,l,⟨⟩⟩ D v q K;cases D;obtain⟨⟨c1,c2,u⟩,v⟩:O1 r:=v;have q:RG (U.rd r) p:=q;obtain⟨z,A⟩:NB (U.rd r) l:=K;have N:=(w5 c1).2.2.1;refine⟨rfl,⟨z,A⟩,fun _=> ?_⟩;obtain⟨s,o⟩:∃s,s=kF (U.rd r) l:=⟨_,rfl⟩;have O:s.length<=12:=(by rw[o,Mx];exact z);have k:∀b∈s,ax (U.rd r) b:=fun b d=>A b (by rw[o] at d;exact Mw.1 d)
 have t:U.ro (some r)=r:=rfl;simp only[t,<-o];refine⟨⟨0,⟨⟨rfl,rfl,tZ⟩,tZ⟩,jw _,fun b d=>by omega⟩,fun x w=>⟨fun h=> ?_,fun h=> ?_⟩⟩;have h:(x:Int)<s.length:=jb h;have a:x<s.length:=(by omega);have d:=k _ (L.kx a);have H:=mm u d;have M:=TK u k x (by omega);have C:((x:Int)+1).toNat=x+1:=(by omega);have B:(s.drop (x+1)).take (s.length-(x+1))=s.drop (x+1):=zy (by rw[zY];omega);have I:w8 (U.bk (U.rd r) (nth s x))=(nth (kA (U.rd r)) (nth s x).toNat).2.2.1:=rfl;simp only[ju,C,B];have n:(nth s x)<((lX r).length:Int):=(by rw[v];exact d.2);have m:HU (U.rd r) (lX r) p s x= !(decide (nL (nth (lX r) (nth s x).toNat/2^p.toNat) 1=0)||(s.drop (x+1)).any (fun c=>decide (bH (U.rd r) (nth s x) c<0))):=rfl;have j:((s.drop (x+1)).any (km fun(y:Int×Unit)=>(decide (bH (U.rd r) (nth s x) y.fst<0),())))=(s.drop (x+1)).any (fun c=>decide (bH (U.rd r) (nth s x) c<0)):=rfl;unfold RG at q;refine⟨by omega,h,rfl,d.1,d.2,rfl,d.1,d.2,?_,?_,rfl,d.1,n,q.1,by omega,fun _=>iZ6,fun _=>by omega,fun _=>by omega,fun _=>by omega,fun _ g J=>⟨rfl,⟨c1,c2,u⟩,k g (ke J),d,tZ⟩,fun f=> ?_,fun f=>⟨iZ6,x+1,⟨⟨by simp,(Cr a).symm,tZ⟩,tZ⟩,⟨by omega,fun b G=> ?_⟩,by omega⟩⟩;show kK (fK (U.bk (U.rd r) (nth s x))-w8 (U.bk (U.rd r) (nth s x)));exact iZ6;show kK (gI (U.rd r) s x+(fK (U.bk (U.rd r) (nth s x))-w8 (U.bk (U.rd r) (nth s x))));exact iZ6;have f:(decide (nL (nth (lX r) (nth s x).toNat/2^p.toNat) 1=0)||((s.drop (x+1)).any (km fun(y:Int×Unit)=>(decide (bH (U.rd r) (nth s x) y.fst<0),()))))=true:=f;have f:HU (U.rd r) (lX r) p s x=false:=(by rw[m,<-j,f];rfl);have:Ez r p l=false:=by
  unfold Ez NC jak;rw[<-o];have:(List.range s.length).all (HU (U.rd r) (lX r) p s)=false:=by
   rw[zV];exact⟨x,by simpa using a,by rw[f];simp⟩
  rw[this];rfl
 rw[this];by_cases e:b=x;subst e;have f:(decide (nL (nth (lX r) (nth s b).toNat/2^p.toNat) 1=0)||((s.drop (b+1)).any (km fun(y:Int×Unit)=>(decide (bH (U.rd r) (nth s b) y.fst<0),()))))=false:=f;rw[m,<-j,f];rfl;exact w.2 b (by omega);have h:¬(x:Int)<s.length:=jd h;have a:x=s.length:=(by have:=w.1;omega);refine⟨rfl,?_⟩;have E:(List.range s.length).all (HU (U.rd r) (lX r) p s)=true:=by
  rw[jY];intro i hi;exact w.2 i (by rw[a];simpa using hi)
 have F:gI (U.rd r) s x=NA (U.rd r) s:=by
  unfold gI;rw[a,zy (jk _)]
 rw[F];have:Ez r p l=decide (NA (U.rd r) s<=jah (U.rd r)):=by
  unfold Ez NC jak;rw[<-o,E,Bool.true_and]
 rw[this];rfl
theorem Cs:wm PR 109 Cn:=vd Co D0 Tryz.func109 (kcC rS (kcC tF (kcC vN kcN))) koN
theorem Ct (on:List (List Int)) (b:Int) (n:Nat):gJ on b (n+1)=if(nth on n).any (fun x=>decide (x=b))=true then bor (gJ on b n) (1*2^n) else gJ on b n:=by
 unfold gJ;rw[zq,jU];rfl
theorem Cu (n:Nat):(1:Int)*2^n=2^n:=Int.one_mul _
theorem Cv:xp:=by
 unfold xp jdK jeR;rintro⟨(_|r),b,⟨⟩⟩ g d;cases g;have d:(aq r).length<=60:=d;have c:U.ro (some r)=r:=rfl;refine⟨rfl,fun _=>⟨⟨0,⟨⟨rfl,rfl,tZ⟩,tZ⟩,jw _⟩,fun x f=>⟨fun h=> ?_,fun h=> ?_⟩⟩⟩;have h:(x:Int)<(aq r).length:=jb h;have e:=Ct (aq r) b x;have i:BT.qV ((2:Int)^x):=BT.mC (by omega);unfold BT.qV at i;simp only[ju,c];refine⟨by omega,h,fun a=>⟨by omega,by omega,by rw[Cu];exact iZ6,iZ6,x+1,⟨⟨by simp,?_,tZ⟩,tZ⟩,by omega,by omega⟩,fun a=>⟨iZ6,x+1,⟨⟨?_,by simp,tZ⟩,tZ⟩,by omega,by omega⟩⟩;rw[e];have a:((nth (aq r) x).any fun y=>decide (y=b))=true:=a;rw[jg a];rw[e];have a:((nth (aq r) x).any fun y=>decide (y=b))=false:=a;rw[jc (by rw[a];simp)];have h:¬(x:Int)<(aq r).length:=jd h;have f:x<=(aq r).length:=f;rw[show x=(aq r).length by omega];rfl
theorem fX:wm PR 48 xn:=vd xo Cv Tryz.func48 (kcC ck kcN) koN
theorem Cw:xr:=by
 unfold xr jfg;rintro⟨(_|r),b,t,⟨⟩⟩ c a;cases c;have a:ax (U.rd r) b:=a;exact⟨rfl,rfl,a.1,a.2,rfl⟩
theorem xv:wm PR 49 xq:=kZ Cw Tryz.func49 (kcC Mh kcN) koN
theorem oX {l:List ShD} {s:ShD}:s∈wz l↔s∈l:=by
 have e:wz l=aw (fun a b=>decide (a=b)) (ko (kr tSh fun x=>(cy x.1 x.2.1,())) l):=by
  unfold wz;congr 1
 rw[e,L.comp_mem];exact(wj l).mem_iff
theorem JK (l:List ShD):(wz l).Nodup:=by
 have e:wz l=aw (fun a b=>decide (a=b)) (ko (kr tSh fun x=>(cy x.1 x.2.1,())) l):=by
  unfold wz;congr 1
 rw[e];refine L.asc_nodup (lt:=kr tSh fun x=>(cy x.1 x.2.1,())) (fun x=> ?_) (L.comp_asc (Wz _) (aT (Wz l)));exact(Wz [x]).irrefl x (List.mem_singleton.2 rfl)
theorem X4 (l:List ShD):∀i,i<=l.length->∀k,kW 0 (kJ .int k (vH [] l i))=(((l.take i).countP (fun s=>decide (yR s=k)):Nat):Int)
 |0,_,k=>rfl
 |i+1,hi,k=>by
  have a:=X4 l i (by omega)
  rw[dJ (by omega),L.wb (by omega),zR]
  unfold mA
  by_cases e:k=yR (nth l i)
  rw[e]
  rw[M.ph (kt:= .int) (yR (nth l i)) (kW 0 (kJ .int (yR (nth l i)) (vH [] l i))+1) (vH [] l i)]
  show kW 0 (kJ .int (yR (nth l i)) (vH [] l i))+1=_
  rw[a]
  simp
  rw[M.cS (kt:= .int) (k:=yR (nth l i)) (k':=k) e (kW 0 (kJ .int (yR (nth l i)) (vH [] l i))+1) (vH [] l i),a]
  have:decide (yR (nth l i)=k)=false:=zi fun h=>e h.symm
  simp[this]
theorem OE {l:List ShD} {i:Nat} (h:i<l.length):sw [] l i=(l.take i).any (fun s=>decide (yR s=yR (nth l i))):=by
 unfold sw O0;rw[<-dJ h,X4 l (i+1) (by omega),L.wb h,zR];rw[j0,js,j9];have b:List.countP (fun s=>decide (yR s=yR (nth l i))) [nth l i]=1:=(by simp);rw[b];constructor;intro a;have:0<(l.take i).countP (fun s=>decide (yR s=yR (nth l i))):=(by omega);rw[List.countP_pos_iff] at this;exact this;intro a;have:0<(l.take i).countP (fun s=>decide (yR s=yR (nth l i))):=List.countP_pos_iff.2 a;omega
theorem Zw (l:List ShD):RF l=false↔(l.map yR).Nodup:=by
 have g:RF l=false↔∀i,i<l.length->sw [] l i=false:=by
  unfold RF;constructor;intro h i hi;cases k:sw [] l i with
  |false=>rfl
  |true=>
   exfalso;have b:(List.range l.length).findIdx? (sw [] l)≠none:=by
    intro f;rw[kc] at f;have:=f i (jC.2 hi);rw[k] at this;cases this
   unfold lW vV at h;cases d:(List.range l.length).findIdx? (sw [] l) with
   |none=>exact b d
   |some j=>
    rw[d] at h;have h:=jd h;exact h (za j)
  intro h;rw[(Fr h).1];rfl
 rw[g,List.nodup_iff_pairwise_ne,zU,zF];constructor;intro h i j hi a m e;have:=h j a;rw[OE a,zl] at this;have c:=this (l[i]) (by rw[ze];exact⟨i,by omega,rfl⟩);rw[L.wG a] at c;simp[e] at c;intro h i hi;rw[OE hi,zl];intro s b;rw[ze] at b;obtain⟨j,a,rfl⟩:=b;have:=h j i (by omega) hi (by omega);rw[L.wG hi];simpa using this
theorem TL (l:List ShD):RF (wz l)=false↔∀a∈l,∀b∈l,yR a=yR b->a=b:=by
 rw[Zw];constructor;intro h a c b d e;exact L.nodup_inj h (oX.2 c) (oX.2 d) e;intro h;rw[List.nodup_iff_pairwise_ne,zU];exact(List.Pairwise.imp_of_mem (fun{a b} c d f e=>f (h a (oX.1 c) b (oX.1 d) e)) (JK l))
theorem TM (l:List ShD):aD l=false↔∀a∈l,∀b∈l,yR a=yR b->a=b:=by
 have k:aD l=false↔∀i,i<l.length->∀j,j<i->Di (nth l i) (nth l j)=false:=by
  unfold aD y5 Av;rw[zl];constructor;intro h i hi j d;have:=h i (jC.2 hi);rw[ki,zl] at this;have:=this (nth l j) (by rw[ze];exact⟨j,by omega,(L.wG (by omega)).symm⟩);simpa using this;intro h i hi;have hi:=jC.1 hi;rw[ki,zl];intro s g;rw[ze] at g;obtain⟨j,d,rfl⟩:=g;have:=h i hi j (by omega);rw[L.wG (l:=l) (i:=j) (by omega)] at this;simpa using this
 rw[k];have f:∀a b:ShD,Di a b=false↔(yR a=yR b->a=b):=by
  intro a b;unfold Di;rw[Bool.and_eq_false_iff];simp only[jD,zg,js];constructor;rintro(h|h) e;exact absurd e h;exact h;intro h;by_cases e:yR a=yR b;exact .inr (h e);exact .inl e
 constructor;intro h a m b n e;obtain⟨i,hi,rfl⟩:=L.mem_iff.1 m;obtain⟨j,d,rfl⟩:=L.mem_iff.1 n;rcases Nat.lt_trichotomy i j with c|rfl|c;exact((f _ _).1 (h j d i c) e.symm).symm;rfl;exact(f _ _).1 (h i hi j c) e;intro h i hi j d;exact(f _ _).2 (h _ (L.kx hi) _ (L.kx (by omega)))
theorem TN (l:List ShD):RF (wz l)=aD l:=by
 have:=(TL l).trans (TM l).symm;cases a:RF (wz l) with
 |false=>exact(this.1 a).symm
 |true=>
  cases b:aD l with
  |false=>rw[this.2 b] at a;cases a
  |true=>rfl
theorem ct (d:DyD):wn d=dW d:=by
 unfold wn tX dW;rw[TN]
 split
 rfl
 split
 rfl;rw[jc (by simp)]
abbrev tSt:Ty:= .st [.int,.int]
abbrev jbY:Sh:= .box 127 [.dat .int,.dat (.slice tPe),.dat (.slice tLw),.dat (.slice (.slice tSp)),.dat (.slice tBk),.dat .int,.dat .int,.dat (.slice tSh),.row 3 .int .yes,.row 31 (.slice .int) .no,.row 3 .int .unk]
namespace U
def noI:List Int:=[]
def vq (b:jbY.D):RoD:=(((b.1,b.2.1,b.2.2.1,()),b.2.2.2.1,b.2.2.2.2.1,b.2.2.2.2.2.1,b.2.2.2.2.2.2.1,b.2.2.2.2.2.2.2.1,()),b.2.2.2.2.2.2.2.2.1,b.2.2.2.2.2.2.2.2.2.1,b.2.2.2.2.2.2.2.2.2.2.1,())
def xZ (b:jbY.D) (x:List (List Int)×List Int):jbY.D:=(b.1,b.2.1,b.2.2.1,b.2.2.2.1,b.2.2.2.2.1,b.2.2.2.2.2.1,b.2.2.2.2.2.2.1,b.2.2.2.2.2.2.2.1,b.2.2.2.2.2.2.2.2.1,x.1,x.2,())
def dZ (s:ShD):Int×Int×Unit:=(KE s,nE s,())
def qc (l:List ShD) (n:Nat):List ((Int×Int×Unit)×ShD):=(l.take n).foldl (fun m s=>d9 tSt (dZ s) s m) []
def vi (m:List ((Int×Int×Unit)×ShD)) (s:ShD):Bool:= !(!decide (kW (Ty.dflt tSh) (kJ tSt (dZ s) m)=s)|| !decide (Xz s=1))
def KJ (d:DyD) (cx:List Int) (m:List ((Int×Int×Unit)×ShD)) (x:List (List Int)×List Int) (s:ShD):List (List Int)×List Int:=
 if vi m s=true then(if NC d cx (nE s) (nth x.1 (nE s).toNat++[KE s])=true then(x.1.set (nE s).toNat (nth x.1 (nE s).toNat++[KE s]),x.2) else(x.1,x.2++[yR s])) else x
def jdr (l:List ShD):List ShD:=ko (kr tSh fun x=>(kI x.1 x.2.1,())) l
def qk (d:DyD):List ShD:=jdr (wz (qh d))
def vl (r:RoD) (l:List ShD) (n:Nat):List (List Int)×List Int:=(l.take n).foldl (KJ (rd r) (lX r) (qc l l.length)) (aq r,jcF r)
def ay (r:RoD):List (List Int)×List Int:=((vl r (qk (rd r)) (qk (rd r)).length).1,Dh (vl r (qk (rd r)) (qk (rd r)).length).2)
def jal (l:List (List Int)):Prop:=∀x∈l,x=noI
def XC (r:RoD):Prop:=(wn (rd r)=0/\(lX r).length=(kA (rd r)).length)/\((aq r).length=(kB (kE (rd r))).length/\jal (aq r))/\jcF r=noI
def cz (r:RoD) (l:List ShD) (n:Nat) (x:List (List Int)×List Int):Prop:=x.1.length=(kB (kE (rd r))).length/\x.2.length<=n/\∀p:Nat,(nth x.1 p).Nodup/\∀b∈nth x.1 p,ax (rd r) b/\∃i:Nat,i<n/\dZ (nth l i)=(b,(p:Int),())/\kW (Ty.dflt tSh) (kJ tSt (dZ (nth l i)) (qc l l.length))=nth l i
end U
def bx (σ:St) (o:Nat):List SV:=match σ.obj o with|some (.box _ _ cs)=>cs|_=>[]
def gb (t:Ty) (σ:St) (o:Nat):t.Data:=match vQ σ t (bx σ o) with|some (x,_)=>x|none=>t.dflt
abbrev D1:qb:=S9 3
def tG:qb:=⟨[.own jbY true],[],fun d=>[XC (vq d.1)],fun d=>((),(xZ d.1 (ay (vq d.1)),()))⟩
def tH:Ann:=fun r=>match r with
 |4=>some fun σ=>{X:=Nat,sl:=fun i=>[(20,.dat .int (i:Int))],ob:=fun i=>[(9,some (.map false tSt tSh (qc (gr tSh σ 3) i)))],inv:=fun i=>i<=(gr tSh σ 3).length,mu:=fun i=>(gr tSh σ 3).length-i}
 |9=>some fun σ=>{X:=Nat,sl:=fun i=>[(34,.dat .int (i:Int))],ob:=fun i=>[(400009,some (.row 31 (.slice .int) false .no (vl (gb tRo σ 1000000) (gr tSh σ 3) i).1)),(400010,some (.row 3 .int false .unk (vl (gb tRo σ 1000000) (gr tSh σ 3) i).2))],inv:=fun i=>i<=(gr tSh σ 3).length/\cz (gb tRo σ 1000000) (gr tSh σ 3) i (vl (gb tRo σ 1000000) (gr tSh σ 3) i),mu:=fun i=>(gr tSh σ 3).length-i}
 |_=>none
abbrev jdD (d:(Int×List PeD×List LwD×List (List (Int×Int×Unit))×List BkD×Int×Int×List ShD×List Int×List (List Int)×List Int×Unit)×Unit):=(((d.1.1,d.1.2.1,d.1.2.2.1,()),d.1.2.2.2.1,d.1.q4.1,d.1.q4.2.1,d.1.q4.2.2.1,d.1.q4.2.2.2.1,()),d.1.q4.q4)
abbrev jfM:=(Ty.int.pair (Ty.int.pair Ty.unit))
abbrev jgZ:=(kr (Ty.int.pair (Ty.int.pair (Ty.int.pair jfM))) fun(a:ShD×ShD×Unit)=>(kI a.1 a.2.1,()))
abbrev jdt (d:(Int×List PeD×List LwD×List (List (Int×Int×Unit))×List BkD×Int×Int×List ShD×List Int×List (List Int)×List Int×Unit)×Unit):=(ko jgZ (wz d.1.q4.2.2.2.1))
abbrev jdw (d:(Int×List PeD×List LwD×List (List (Int×Int×Unit))×List BkD×Int×Int×List ShD×List Int×List (List Int)×List Int×Unit)×Unit)(a:Nat):=(nth (jdt d) (a:Int).toNat)
abbrev jdz (d:(Int×List PeD×List LwD×List (List (Int×Int×Unit))×List BkD×Int×Int×List ShD×List Int×List (List Int)×List Int×Unit)×Unit)(a:Nat):=(vl (jdD d) (jdt d) a)
abbrev jeS (d:(Int×List PeD×List LwD×List (List (Int×Int×Unit))×List BkD×Int×Int×List ShD×List Int×List (List Int)×List Int×Unit)×Unit)(a:Nat):=(some (((d.1.1,d.1.2.1,d.1.2.2.1,()),d.1.2.2.2.1,d.1.q4.1,d.1.q4.2.1,d.1.q4.2.2.1,d.1.q4.2.2.2.1,()),d.1.q4.q4.1,(jdz d a).1,(jdz d a).2,()))
abbrev jg0:=((0:Int),(0:Int),(0:Int),(0:Int),(0:Int),())
def tI:Prop:=∀(d:(Int×List PeD×List LwD×List (List (Int×Int×Unit))×List BkD×Int×Int×List ShD×List Int×List (List Int)×List Int×Unit)×Unit),XC (vq d.1)->d.1.q4.2.2.2.1.length<=100000/\(∀(c:ShD),c∈wz d.1.q4.2.2.2.1->∀(y:ShD),y∈wz d.1.q4.2.2.2.1->kG [])/\qR jgZ (wz d.1.q4.2.2.2.1)/\((jdt d).length<4611686018427387904->(∃(x:Nat),((0=(x:Int)/\True)/\[]=qc (jdt d) x/\True)/\x<=(jdt d).length)/\∀(x:Nat),x<=(jdt d).length->(decide ((x:Int)<(jdt d).length)=true->0<=(x:Int)/\(x:Int)<(jdt d).length/\kK ((x:Int)+1)/\∃(b:Nat),(((x:Int)+1=(b:Int)/\True)/\d9 jfM (nth (jdt d) (x:Int).toNat).2.2.2 (nth (jdt d) (x:Int).toNat) (qc (jdt d) x)=qc (jdt d) b/\True)/\b<=(jdt d).length/\(jdt d).length-b<(jdt d).length-x)/\(decide ((x:Int)<(jdt d).length)=false->(jdt d).length<4611686018427387904->(∃(x:Nat),((0=(x:Int)/\True)/\d.1.q4.q4.2.1=(vl (jdD d) (jdt d) x).1/\d.1.q4.q4.2.2.1=(vl (jdD d) (jdt d) x).2/\True)/\x<=(jdt d).length/\cz (jdD d) (jdt d) x (vl (jdD d) (jdt d) x))/\∀(a:Nat),a<=(jdt d).length/\cz (jdD d) (jdt d) a (jdz d a)->(decide ((a:Int)<(jdt d).length)=true->0<=(a:Int)/\(a:Int)<(jdt d).length/\((!decide (kW jg0 (kJ jfM (jdw d a).2.2.2 (qc (jdt d) x))=nth (jdt d) (a:Int).toNat)||decide ((jdw d a).2.2.1≠1))=true->kK ((a:Int)+1)/\∃(b:Nat),(((a:Int)+1=(b:Int)/\True)/\(jdz d a).2=(vl (jdD d) (jdt d) b).2/\(jdz d a).1=(vl (jdD d) (jdt d) b).1/\True)/\(b<=(jdt d).length/\cz (jdD d) (jdt d) b (vl (jdD d) (jdt d) b))/\(jdt d).length-b<(jdt d).length-a)/\((!decide (kW jg0 (kJ jfM (jdw d a).2.2.2 (qc (jdt d) x))=nth (jdt d) (a:Int).toNat)||decide ((jdw d a).2.2.1≠1))=false->(0:Int)<=(jdw d a).q4.1/\(jdw d a).q4.1<(↑(jdz d a).1.length:Int)/\(0:Int)<=(jdw d a).q4.1/\(jdw d a).q4.1<(↑(jdz d a).1.length:Int)/\(0:Int)<=(jdw d a).q4.1/\(jdw d a).q4.1<(↑(jdz d a).1.length:Int)/\(↑(nth (jdz d a).1 (jdw d a).q4.1.toNat).length:Int)=(nth (jdz d a).1 (jdw d a).q4.1.toNat).length/\(↑(nth (jdz d a).1 (jdw d a).q4.1.toNat).length:Int)=(nth (jdz d a).1 (jdw d a).q4.1.toNat).length/\((nth (jdz d a).1 (jdw d a).q4.1.toNat).length+[(jdw d a).2.2.2.1].length)*8<=140737488355328/\(jeS d a).isSome=true/\O1 (U.ro (jeS d a))/\RG (U.rd (U.ro (jeS d a))) (jdw d a).q4.1/\NB (U.rd (U.ro (jeS d a))) (nth (jdz d a).1 (jdw d a).q4.1.toNat++[(jdw d a).2.2.2.1])/\(Ez (U.ro (jeS d a)) (jdw d a).q4.1 (nth (jdz d a).1 (jdw d a).q4.1.toNat++[(jdw d a).2.2.2.1])=true->(0:Int)<=(jdw d a).q4.1/\(jdw d a).q4.1<(↑(jdz d a).1.length:Int)/\kK ((a:Int)+1)/\∃(b:Nat),(((a:Int)+1=(b:Int)/\True)/\(jdz d a).2=(vl (jdD d) (jdt d) b).2/\(jdz d a).1.set (jdw d a).q4.1.toNat (nth (jdz d a).1 (jdw d a).q4.1.toNat++[(jdw d a).2.2.2.1])=(vl (jdD d) (jdt d) b).1/\True)/\(b<=(jdt d).length/\cz (jdD d) (jdt d) b (vl (jdD d) (jdt d) b))/\(jdt d).length-b<(jdt d).length-a)/\(Ez (U.ro (jeS d a)) (jdw d a).q4.1 (nth (jdz d a).1 (jdw d a).q4.1.toNat++[(jdw d a).2.2.2.1])=false->((jdz d a).2.length+[(jdw d a).1].length)*8<=140737488355328/\kK ((a:Int)+1)/\∃(b:Nat),(((a:Int)+1=(b:Int)/\True)/\(jdz d a).1=(vl (jdD d) (jdt d) b).1/\(d.1.1=d.1.1/\d.1.2.1=d.1.2.1/\d.1.2.2.1=d.1.2.2.1/\d.1.2.2.2.1=d.1.2.2.2.1/\d.1.q4.1=d.1.q4.1/\d.1.q4.2.1=d.1.q4.2.1/\d.1.q4.2.2.1=d.1.q4.2.2.1/\d.1.q4.2.2.2.1=d.1.q4.2.2.2.1/\True/\True/\True/\True)/\(jdz d a).2++[(jdw d a).1]=(vl (jdD d) (jdt d) b).2/\True)/\(b<=(jdt d).length/\cz (jdD d) (jdt d) b (vl (jdD d) (jdt d) b))/\(jdt d).length-b<(jdt d).length-a)))/\(decide ((a:Int)<(jdt d).length)=false->()=()/\((d.1.1,d.1.2.1,d.1.2.2.1,d.1.2.2.2.1,d.1.q4.1,d.1.q4.2.1,d.1.q4.2.2.1,d.1.q4.2.2.2.1,d.1.q4.q4.1,(jdz d a).1,Dh (jdz d a).2,()),())=(xZ d.1 (ay (vq d.1)),()))))
theorem yn {d:DyD} (h:wn d=0):KY d/\∀a∈qh d,∀b∈qh d,yR a=yR b->a=b:=by
 unfold wn tX at h;cases c:kR (kE d) with
 |false=>rw[c] at h;simp at h
 |true=>
  cases e:KF d with
  |false=>rw[c,e] at h;simp at h
  |true=>
   cases f:wL d with
   |false=>rw[c,e,f] at h;simp at h
   |true=>
    cases g:RF (wz (qh d)) with
    |true=>rw[c,e,f,g] at h;simp at h
    |false=>exact⟨⟨c,e,f⟩,(TL _).1 g⟩
theorem Zx:fg kI:=by
 have e:kI=RB (fun a b=>bP (H4 a) (H4 b)) (fun a b=>bP (yR a) (yR b)):=by
  funext a b;unfold kI;rw[wx,qE];rfl
 rw[e];exact oL (nA ly H4) (nA ly yR)
theorem TO {a b:ShD} (h:kI a b=0):yR a=yR b:=by
 unfold kI at h;rw[wx,qE] at h
 split at h
 contradiction;exact gO.1 h
theorem jcU {d:DyD} (h:wn d=0):qR (kr tSh fun x=>(kI x.1 x.2.1,())) (wz (qh d)):=
 Am Zx (fun a b e f c=>(yn h).2 a (oX.1 e) b (oX.1 f) (TO c))
theorem fD {d:DyD} {s:ShD}:s∈qk d↔s∈qh d:=((wj _).mem_iff).trans oX
theorem dQ (d:DyD):(qk d).Nodup:=(wj _).nodup_iff.2 (JK _)
theorem Zy (d:DyD):(qk d).length<=(qh d).length:=by
 unfold qk jdr;rw[(wj _).length_eq];exact TB _
theorem An {d:DyD} (h:wL d=true) {s:ShD} (a:s∈qh d):(0<=nE s/\nE s<((kB (kE d)).length:Int))/\ax d (KE s):=by
 have:=(ya h).2.2.2.2.2.2.2 _ a;unfold lT at this;have:=jb this;unfold ax;omega
theorem Cx {l:List ShD} {i:Nat} (h:i<l.length):qc l (i+1)=d9 tSt (dZ (nth l i)) (nth l i) (qc l i):=by
 unfold qc;rw[L.wb h,jU];rfl
theorem rT {r:RoD} {l:List ShD} {i:Nat} (h:i<l.length):vl r l (i+1)=KJ (U.rd r) (lX r) (qc l l.length) (vl r l i) (nth l i):=by
 unfold vl;rw[L.wb h,jU];rfl
theorem jck {d:DyD} {l:List Int} (c:l.Nodup) (a:∀b∈l,ax d b):l.length<=(kA d).length:=by
 have:=L.nodup_len l ((List.range (kA d).length).map (fun(b:Nat)=>(b:Int))) c (fun x e=>by
  have:=a x e;unfold ax at this;exact jT.2 ⟨x.toNat,jC.2 (by omega),by omega⟩)
 simpa using this
section
variable {r:RoD} {l:List ShD} {i:Nat}
theorem TP (t:wL (U.rd r)=true) (u:∀s∈l,s∈qh (U.rd r)) (nd:l.Nodup) (h:i<l.length) {x:List (List Int)×List Int} (w:cz (U.rd r,lX r,aq r,jcF r,()) l i x)
 (g:vi (qc l l.length) (nth l i)=true):(nth x.1 (nE (nth l i)).toNat++[KE (nth l i)]).Nodup/\(∀b∈nth x.1 (nE (nth l i)).toNat++[KE (nth l i)],ax (U.rd r) b)/\
  ∀b∈nth x.1 (nE (nth l i)).toNat++[KE (nth l i)],∃j:Nat,j<i+1/\dZ (nth l j)=(b,((nE (nth l i)).toNat:Int),())/\kW (Ty.dflt tSh) (kJ tSt (dZ (nth l j)) (qc l l.length))=nth l j:=by
 obtain⟨z,A,p⟩:=w;have v:=An t (u _ (L.kx h));have d:kW (Ty.dflt tSh) (kJ tSt (dZ (nth l i)) (qc l l.length))=nth l i:=by
  unfold vi at g;simp only[jI,jM,zg,js] at g;exact g.1
 have n:((nE (nth l i)).toNat:Int)=nE (nth l i):=(by omega);obtain⟨y,k⟩:=p (nE (nth l i)).toNat;refine⟨?_,fun b c=> ?_,fun b c=> ?_⟩;refine zD.2 ⟨y,by simp,fun a q b c e=> ?_⟩;simp at c;subst c;subst e;obtain⟨_,j,m,f,e2⟩:=k _ q;rw[n] at f;have o:dZ (nth l j)=dZ (nth l i):=f;rw[o,d] at e2;have:=(List.nodup_iff_pairwise_ne.1 nd);rw[zF] at this;refine this j i (by omega) h m ?_;rw[<-L.wG,<-L.wG h];exact e2.symm;rcases jr.1 c with c|c;exact(k b c).1;simp at c;subst c;exact v.2;rcases jr.1 c with c|c;obtain⟨_,j,m,f,e2⟩:=k b c;exact⟨j,by omega,f,e2⟩;simp at c;subst c;exact⟨i,by omega,by rw[n];rfl,d⟩
theorem TQ {r:RoD} {x:List (List Int)×List Int} (a:cz r l i x):cz r l (i+1) x:=
 ⟨a.1,by have:=a.2.1;omega,fun p=>⟨(a.2.2 p).1,fun b c=>⟨((a.2.2 p).2 b c).1,by
  obtain⟨j,d,e⟩:=((a.2.2 p).2 b c).2
  exact⟨j,by omega,e⟩⟩⟩⟩
theorem X5 (g:wL (U.rd r)=true) (j:∀s∈l,s∈qh (U.rd r)) (nd:l.Nodup) (h:i<l.length) {x:List (List Int)×List Int} (a:cz r l i x):
 cz r l (i+1) (KJ (U.rd r) (lX r) (qc l l.length) x (nth l i)):=by
 unfold KJ;cases k:vi (qc l l.length) (nth l i) with
 |false=>rw[jc (by simp)];exact TQ a
 |true=>
  rw[jg rfl];have d:=TP g j nd h a k;have m:=An g (j _ (L.kx h))
  split
  refine⟨by show(x.1.set _ _).length=_;rw[List.length_set];exact a.1,by have:=a.2.1;show x.2.length<=_;omega,fun p=> ?_⟩;have c:(nE (nth l i)).toNat<x.1.length:=(by rw[a.1];omega);show(nth (x.1.set (nE (nth l i)).toNat (nth x.1 (nE (nth l i)).toNat++[KE (nth l i)])) p).Nodup/\_;rw[L.aO c]
  split
  rename_i e;subst e;exact⟨d.1,fun b f=>⟨d.2.1 b f,d.2.2 b f⟩⟩;exact(TQ a).2.2 p;refine⟨a.1,?_,(TQ a).2.2⟩;have:=a.2.1;show(x.2++[yR (nth l i)]).length<=_;rw[jJ];simp;omega
end
theorem OF {l:List (List Int)} (h:jal l) (p:Nat):nth l p=[]:=by
 by_cases a:p<l.length;exact h _ (L.kx a);unfold nth;rw[j8,List.getElem?_eq_none (by omega)];rfl
theorem TR {r:RoD} {l:List ShD} (a:(aq r).length=(kB (kE (U.rd r))).length) (c:jal (aq r)) (d:jcF r=U.noI):cz r l 0 (vl r l 0):=by
 refine⟨a,?_,fun p=> ?_⟩;show(jcF r).length<=0;rw[d];exact jk 0;have e:nth (vl r l 0).1 p=[]:=OF c p;rw[e];exact⟨List.nodup_nil,fun b f=>by cases f⟩
theorem ja7 (m:List ((Int×Int×Unit)×ShD)) (s:ShD):vi m s= !(!decide (kW (Ty.dflt tSh) (kJ tSt (dZ s) m)=s)||decide (Xz s≠1)):=by
 unfold vi;by_cases h:Xz s=1<;>simp[h]
section
variable {r:RoD} {l:List ShD} {i:Nat}
theorem OG (h:i<l.length) (a:vi (qc l l.length) (nth l i)=false):vl r l (i+1)=vl r l i:=by
 rw[rT h];unfold KJ;rw[a,jc (by simp)]
theorem TS (h:i<l.length) (a:vi (qc l l.length) (nth l i)=true) (b:NC (U.rd r) (lX r) (nE (nth l i)) (nth (vl r l i).1 (nE (nth l i)).toNat++[KE (nth l i)])=true):
 vl r l (i+1)=((vl r l i).1.set (nE (nth l i)).toNat (nth (vl r l i).1 (nE (nth l i)).toNat++[KE (nth l i)]),(vl r l i).2):=by
 rw[rT h];unfold KJ;rw[a,jg rfl,jg b]
theorem X6 (h:i<l.length) (a:vi (qc l l.length) (nth l i)=true) (b:NC (U.rd r) (lX r) (nE (nth l i)) (nth (vl r l i).1 (nE (nth l i)).toNat++[KE (nth l i)])=false):
 vl r l (i+1)=((vl r l i).1,(vl r l i).2++[yR (nth l i)]):=by
 rw[rT h];unfold KJ;rw[a,jg rfl,b,jc (by simp)]
end
theorem xw:tI:=by
 unfold tI jg0 jeS jdz jdw jdt jgZ jfM jdD Prod.q4;rintro⟨b,⟨⟩⟩ J;obtain⟨⟨hk,N⟩,⟨O,B⟩,C⟩:XC (vq b):=J;have F:=(yn hk).1;have u:=F.2.2;have v:(qh (U.rd (vq b))).length<=30:=(ya u).2.2.2.2.1;have H:b.2.2.2.2.2.2.2.1.length<=30:=v;have M:(qk (U.rd (vq b))).length<=30:=jE (Zy _) v;have g:∀s∈qk (U.rd (vq b)),s∈qh (U.rd (vq b)):=fun s D=>fD.1 D
 have w:=dQ (U.rd (vq b));have K:(kA (U.rd (vq b))).length<=4:=(ya u).1;refine⟨by show b.2.2.2.2.2.2.2.1.length<=100000;omega,fun _ _ _ _=>tZ,jcU hk,fun _=>⟨⟨0,⟨⟨rfl,tZ⟩,rfl,tZ⟩,jw _⟩,fun x I=>⟨fun h=> ?_,fun h _=>⟨⟨0,⟨⟨rfl,tZ⟩,rfl,rfl,tZ⟩,jw _,TR (r:=vq b) O B C⟩,fun y n=>⟨fun t=> ?_,fun t=> ?_⟩⟩⟩⟩⟩;have h:(x:Int)<(qk (U.rd (vq b))).length:=jb h;have D:=Cx (l:=qk (U.rd (vq b))) (i:=x) (by omega);exact⟨by omega,h,iZ6,x+1,⟨⟨by simp,tZ⟩,D.symm,tZ⟩,by show x+1<=(qk (U.rd (vq b))).length;omega,by show(qk (U.rd (vq b))).length-(x+1)<(qk (U.rd (vq b))).length-x;omega⟩;have I:x<=(qk (U.rd (vq b))).length:=I;have h:¬(x:Int)<(qk (U.rd (vq b))).length:=jd h;have E:x=(qk (U.rd (vq b))).length:=(by omega);have t:(y:Int)<(qk (U.rd (vq b))).length:=jb t;have a:y<(qk (U.rd (vq b))).length:=(by omega);obtain⟨_,e⟩:y<=(qk (U.rd (vq b))).length/\cz (vq b) (qk (U.rd (vq b))) y (vl (vq b) (qk (U.rd (vq b))) y):=n;have c:=X5 (r:=vq b) u g w a e;rw[<-rT a] at c;have up:y+1<=(qk (U.rd (vq b))).length:=a;have A:(qk (U.rd (vq b))).length-(y+1)<(qk (U.rd (vq b))).length-y:=(by omega);have q:=An u (g _ (L.kx a));have o:=ja7 (qc (qk (U.rd (vq b))) (qk (U.rd (vq b))).length) (nth (qk (U.rd (vq b))) y);subst E;refine⟨by omega,t,fun p=> ?_,fun p=> ?_⟩;have f:vi (qc (qk (U.rd (vq b))) (qk (U.rd (vq b))).length) (nth (qk (U.rd (vq b))) y)=false:=by
  rw[o];have p:(!decide (kW (Ty.dflt tSh) (kJ tSt (dZ (nth (qk (U.rd (vq b))) y)) (qc (qk (U.rd (vq b))) (qk (U.rd (vq b))).length))=nth (qk (U.rd (vq b))) y)||decide (Xz (nth (qk (U.rd (vq b))) y)≠1))=true:=p;rw[p];rfl
 have d:=OG (r:=vq b) a f;exact⟨iZ6,y+1,⟨⟨by simp,tZ⟩,jS (·.2) d.symm,jS (·.1) d.symm,tZ⟩,⟨up,c⟩,A⟩;have f:vi (qc (qk (U.rd (vq b))) (qk (U.rd (vq b))).length) (nth (qk (U.rd (vq b))) y)=true:=by
  rw[o];have p:(!decide (kW (Ty.dflt tSh) (kJ tSt (dZ (nth (qk (U.rd (vq b))) y)) (qc (qk (U.rd (vq b))) (qk (U.rd (vq b))).length))=nth (qk (U.rd (vq b))) y)||decide (Xz (nth (qk (U.rd (vq b))) y)≠1))=false:=p;rw[p];rfl
 have j:=TP (r:=vq b) u g w a e f;have z:=jck j.1 j.2.1;have G:(nth (vl (vq b) (qk (U.rd (vq b))) y).1 (nE (nth (qk (U.rd (vq b))) y)).toNat).length<=4:=by
  rw[jJ] at z;omega
 have k:0<=nE (nth (qk (U.rd (vq b))) y):=q.1.1;have m:nE (nth (qk (U.rd (vq b))) y)<((vl (vq b) (qk (U.rd (vq b))) y).1.length:Int):=(by rw[e.1];exact q.1.2);have P:=e.2.1;refine⟨k,m,k,m,k,m,rfl,rfl,?_,rfl,⟨F,N⟩,q.1,⟨jE z (by omega),j.2.1⟩,fun n=> ?_,fun n=> ?_⟩;show((nth (vl (vq b) (qk (U.rd (vq b))) y).1 (nE (nth (qk (U.rd (vq b))) y)).toNat).length+1)*8<=140737488355328;omega;have d:=TS (r:=vq b) a f n;exact⟨k,m,iZ6,y+1,⟨⟨by simp,tZ⟩,jS (·.2) d.symm,jS (·.1) d.symm,tZ⟩,⟨up,c⟩,A⟩;have d:=X6 (r:=vq b) a f n;refine⟨?_,iZ6,y+1,⟨⟨by simp,tZ⟩,jS (·.1) d.symm,⟨rfl,rfl,rfl,rfl,rfl,rfl,rfl,rfl,tZ,tZ,tZ,tZ⟩,jS (·.2) d.symm,tZ⟩,⟨up,c⟩,A⟩;show((vl (vq b) (qk (U.rd (vq b))) y).2.length+1)*8<=140737488355328;omega;have t:¬(y:Int)<(qk (U.rd (vq b))).length:=jd t;have n:=n.1;have n:y<=(qk (U.rd (vq b))).length:=n;have a:y=(qk (U.rd (vq b))).length:=(by omega);subst a;exact⟨rfl,rfl⟩
theorem D2:yE PR 110 D1:=Wf Tryz.sortI 3 (qD Tryz.func110 (c:=wq Tryz.f110) (by kernel_rfl) (by kernel_rfl))
theorem tJ:yE PR 75 tG:=ux tH xw Tryz.func75 (kcC Mq (kcC Cs kcN)) (koC rM (koC aB (koC D2 koN)))
end Go.X
namespace Go.X
open U
open Go.Proofs
namespace U
def ic (l:List Int) (n:Nat):Int:=(l.take n).foldl (fun s p=>bor s (1*2^p.toNat)) 0
def O2 (l:List Int):Int:=ic l l.length
def vj (d:DyD) (n:Nat):List Int:=((kA d).take n).map (fun b=>O2 (cx (kE d) (yQ b)))
def jaD (d:DyD):List (List Int):=List.replicate (kB (kE d)).length noI
def KZ (d:DyD):RoD:=(d,vj d (kA d).length,jaD d,noI,())
def RH (d:DyD):RoD:=(d,vj d (kA d).length,(ay (KZ d)).1,(ay (KZ d)).2,())
def sE (d:DyD):Option RoD:=if wn d=0 then some (RH d) else none
end U
def JL:qb:=⟨[.val tDy,.nil true],[.cl (.dat (.ptr tRo)),.cl (.dat .int)],fun d=>[(qh d.1).length<=100000],fun d=>((sE d.1,wn d.1,()),())⟩
def TT:Ann:=fun r=>match r with
 |8=>some fun σ=>{X:=Nat,sl:=fun i=>[(39,.dat .int (i:Int))],ob:=fun i=>[(27,some (.box 127 false (((bx σ 27).set 8 (.own (ew 27 8) .int)).set 10 (.own (ew 27 10) .int)))),(ew 27 10,some (.row 3 .int false .yes U.noI)),(ew 27 8,some (.row 3 .int false .yes (vj (gb tDy σ 2) i)))],inv:=fun i=>i<=(kA (gb tDy σ 2)).length,mu:=fun i=>(kA (gb tDy σ 2)).length-i}
 |13=>some fun σ=>{X:=Nat,sl:=fun i=>[(53,.dat .int (i:Int)),(12,.dat .int (ic (gd (.slice .int) σ 51) i))],ob:=fun _=>[],inv:=fun i=>i<=(gd (.slice .int) σ 51).length,mu:=fun i=>(gd (.slice .int) σ 51).length-i}
 |3000005=>some fun _=>{X:=Unit,sl:=fun _=>[],ob:=fun _=>[],inv:=fun _=>True,mu:=fun _=>0}
 |_=>none
abbrev jdE (d:DyD×Unit×Unit)(x:Nat):=(cx d.1.1 (nth d.1.2.2.1 (x:Int).toNat).1)
abbrev jg1 (d:DyD×Unit×Unit):=(d.1.1.1=d.1.1.1/\d.1.1.2.1=d.1.1.2.1/\d.1.1.2.2.1=d.1.1.2.2.1/\d.1.2.1=d.1.2.1/\d.1.2.2.1=d.1.2.2.1/\d.1.2.2.2.1=d.1.2.2.2.1/\d.1.q4.1=d.1.q4.1/\d.1.q4.2.1=d.1.q4.2.1/\True/\True/\True/\True)
abbrev jeT (d:DyD×Unit×Unit):=(d.1.1.2.1.length:Int)
abbrev jg2 (d:DyD×Unit×Unit)(x:Nat):=(vq (d.1.1.1,d.1.1.2.1,d.1.1.2.2.1,d.1.2.1,d.1.2.2.1,d.1.2.2.2.1,d.1.q4.1,d.1.q4.2.1,vj d.1 x,List.replicate (jeT d).toNat [],U.noI,()))
abbrev jdY (d:DyD×Unit×Unit)(x:Nat):=(xZ (d.1.1.1,d.1.1.2.1,d.1.1.2.2.1,d.1.2.1,d.1.2.2.1,d.1.2.2.2.1,d.1.q4.1,d.1.q4.2.1,vj d.1 x,List.replicate (jeT d).toNat [],U.noI,()) (ay (jg2 d x)))
def JM:Prop:=∀(d:DyD×Unit×Unit),(qh d.1).length<=100000->(qh d.1).length<=100000/\(decide (wn d.1≠0)=true->(none,wn d.1,())=(sE d.1,wn d.1,())/\()=())/\(decide (wn d.1≠0)=false->0<=(jeT d)/\(jeT d)=(jeT d)/\(jeT d).toNat*24<=140737488355328/\((!true)=true->(!true)=true/\(!true)=true/\False)/\((!true)=false->(!true)=false/\(!true)=false/\(!true)=false/\(!true)=false/\(false=true->(none,(1:Int),())=(sE d.1,wn d.1,())/\()=())/\(qF->d.1.2.2.1.length<4611686018427387904->(∃(x:Nat),((0=(x:Int)/\True)/\(jg1 d)/\U.noI=[]/\vj d.1 x=[]/\True)/\x<=(kA d.1).length)/\∀(x:Nat),x<=(kA d.1).length->(decide ((x:Int)<d.1.2.2.1.length)=true->0<=(x:Int)/\(x:Int)<d.1.2.2.1.length/\((jdE d x).length<4611686018427387904->(∃(a:Nat),((0=(a:Int)/\0=ic (jdE d x) a/\True)/\True)/\a<=(jdE d x).length)/\∀(a:Nat),a<=(jdE d x).length->(decide ((a:Int)<(jdE d x).length)=true->0<=(a:Int)/\(a:Int)<(jdE d x).length/\0<=nth (jdE d x) (a:Int).toNat/\nth (jdE d x) (a:Int).toNat<=64/\kK ((1:Int)*2^(nth (jdE d x) (a:Int).toNat).toNat)/\kK ((a:Int)+1)/\∃(b:Nat),(((a:Int)+1=(b:Int)/\bor (ic (jdE d x) a) ((1:Int)*2^(nth (jdE d x) (a:Int).toNat).toNat)=ic (jdE d x) b/\True)/\True)/\b<=(jdE d x).length/\(jdE d x).length-b<(jdE d x).length-a)/\(decide ((a:Int)<(jdE d x).length)=false->((vj d.1 x).length+[ic (jdE d x) a].length)*8<=140737488355328/\kK ((x:Int)+1)/\∃(b:Nat),(((x:Int)+1=(b:Int)/\True)/\U.noI=U.noI/\(jg1 d)/\vj d.1 x++[ic (jdE d x) a]=vj d.1 b/\True)/\b<=(kA d.1).length/\(kA d.1).length-b<(kA d.1).length-x)))/\(decide ((x:Int)<d.1.2.2.1.length)=false->XC (jg2 d x)/\(some ((((jdY d x).1,(jdY d x).2.1,(jdY d x).2.2.1,()),(jdY d x).2.2.2.1,(jdY d x).q4.1,(jdY d x).q4.2.1,(jdY d x).q4.2.2.1,(jdY d x).q4.2.2.2.1,()),(jdY d x).q4.q4.1,(jdY d x).q4.q4.2.1,(jdY d x).q4.q4.2.2.1,()),(0:Int),())=(sE d.1,wn d.1,())/\()=()))))
theorem tK {l:List Int} {i:Nat} (h:i<l.length):ic l (i+1)=bor (ic l i) (1*2^(nth l i).toNat):=by
 unfold ic;rw[L.wb h,jU];rfl
theorem TU {d:DyD} {i:Nat} (h:i<(kA d).length):vj d (i+1)=vj d i++[O2 (cx (kE d) (yQ (nth (kA d) i)))]:=by
 unfold vj;rw[L.wb h,zA];rfl
theorem WE (d:DyD) (i:Nat):(vj d i).length<=i:=by
 unfold vj;rw[zr,j6];omega
theorem TV {c:CrD} (h:kR c=true) {j:JbD} {p:Int} (a:p∈cx c j):0<=p/\p<8:=by
 have d:=(w5 h).2.2.1;unfold cx at a
 split at a
 unfold bJ at a;obtain⟨n,b,rfl⟩:=jT.1 a;have:=jC.1 (jQ.1 b).1;omega;cases a
theorem Zz {c:CrD} (h:kR c=true) (j:JbD):(cx c j).length<=8:=by
 have a:=(w5 h).2.2.1;unfold cx
 split
 unfold bJ;rw[zr];exact jE (z7 _ _) (by simpa using a);exact jw _
theorem TW {d:DyD} (h:wn d=0):XC (KZ d):=by
 refine⟨⟨h,?_⟩,⟨?_,fun x a=> ?_⟩,rfl⟩;show(vj d (kA d).length).length=(kA d).length;unfold vj;simp;show(jaD d).length=(kB (kE d)).length;unfold jaD;simp;have a:x∈jaD d:=a;unfold jaD at a;exact(List.mem_replicate.1 a).2
theorem My:JM:=by
 unfold JM jdY jg2 jeT jg1 jdE Prod.q4;rintro⟨d,⟨⟩,⟨⟩⟩ j;refine⟨j,fun h=>⟨?_,rfl⟩,fun h=>⟨za _,rfl,?_,fun c=>(by cases c),fun _=>⟨rfl,rfl,rfl,rfl,fun c=>(by cases c),fun _=> ?_⟩⟩⟩;have h:wn d≠0:=jb h;show(none,wn d,())=(sE d,wn d,());unfold sE;rw[jc h];have hk:wn d=0:=jN.1 (jd h);have e:=(w5 (yn hk).1.1).2.2.1;have e:d.1.2.1.length<=8:=e;show((d.1.2.1.length:Int)).toNat*24<=140737488355328;omega;have hk:wn d=0:=jN.1 (jd h);clear j h;have f:=(yn hk).1;have r:=f.2.2;have g:(kA d).length<=4:=(ya r).1;have n:d.2.2.1.length<=4:=g;refine fun _=>⟨⟨0,⟨⟨rfl,tZ⟩,⟨rfl,rfl,rfl,rfl,rfl,rfl,rfl,rfl,tZ,tZ,tZ,tZ⟩,rfl,rfl,tZ⟩,jw _⟩,fun x o=>⟨fun h=>⟨by omega,jb h,fun _=>⟨⟨0,⟨⟨rfl,rfl,tZ⟩,tZ⟩,jw _⟩,fun y p=>⟨fun a=> ?_,fun a=> ?_⟩⟩⟩,fun h=> ?_⟩⟩
 have a:(y:Int)<(cx (kE d) (nth d.2.2.1 (x:Int).toNat).1).length:=jb a;have b:y<(cx (kE d) (nth d.2.2.1 (x:Int).toNat).1).length:=(by omega);have s:=TV f.1 (L.kx b);have k:=tK b;have e:=Zz f.1 (nth d.2.2.1 (x:Int).toNat).1;have q:BT.qV ((2:Int)^(nth (cx (kE d) (nth d.2.2.1 (x:Int).toNat).1) y).toNat):=BT.mC (by omega);unfold BT.qV at q;exact⟨by omega,a,s.1,by show nth (cx (kE d) (nth d.2.2.1 (x:Int).toNat).1) y<=64;omega,by show kK (1*2^(nth (cx (kE d) (nth d.2.2.1 (x:Int).toNat).1) y).toNat);rw[Cu];exact iZ6,iZ6,y+1,⟨⟨by simp,k.symm,tZ⟩,tZ⟩,by show y+1<=(cx (kE d) (nth d.2.2.1 (x:Int).toNat).1).length;omega,by show(cx (kE d) (nth d.2.2.1 (x:Int).toNat).1).length-(y+1)<(cx (kE d) (nth d.2.2.1 (x:Int).toNat).1).length-y;omega⟩;have h:(x:Int)<(kA d).length:=jb h;have k:=TU (d:=d) (i:=x) (by omega);have j:=WE d x;have p:y<=(cx (kE d) (nth d.2.2.1 (x:Int).toNat).1).length:=p;have a:¬(y:Int)<(cx (kE d) (nth d.2.2.1 (x:Int).toNat).1).length:=jd a;have m:y=(cx (kE d) (nth d.2.2.1 (x:Int).toNat).1).length:=(by omega);subst m;refine⟨?_,iZ6,x+1,⟨⟨by simp,tZ⟩,rfl,⟨rfl,rfl,rfl,rfl,rfl,rfl,rfl,rfl,tZ,tZ,tZ,tZ⟩,k.symm,tZ⟩,by show x+1<=(kA d).length;omega,by show(kA d).length-(x+1)<(kA d).length-x;omega⟩;show((vj d x).length+1)*8<=140737488355328;omega;have h:¬(x:Int)<(kA d).length:=jd h;have o:x<=(kA d).length:=o;have l:x=(kA d).length:=(by omega);subst l;refine⟨TW hk,?_⟩;refine⟨?_,rfl⟩;show(some (RH d),(0:Int),())=(sE d,wn d,());unfold sE;rw[jg hk,hk]
theorem uz:yE PR 47 JL:=ux TT My Tryz.func47 (kcC Fs (kcC Wt kcN)) (koC tJ koN)
namespace U
def y9 (d:DyD) (n:Nat):List Int:=(List.range n).map (fun(b:Nat)=>cQ (aq (RH d)) (b:Int))
def d4 (d:DyD):List Int:=if wn d=0 then y9 d (kA d).length else[]
def O3 (d:DyD) (b:Nat):Bool:=Dk d (b:Int) (cQ (aq (RH d)) (b:Int))
def yP (d:DyD) (n:Nat):List Int:=((List.range n).filter (O3 d)).map (fun(b:Nat)=>(b:Int))
def kl (d:DyD):List Int:=if wn d=0 then yP d (kA d).length else[]
def KK (d:DyD) (p:Int):Bool:=kk p 0 (((kB (kE d)).length:Int)-1)
def Vi (d:DyD) (b:Int):Bool:=kk b 0 (((kA d).length:Int)-1)
end U
def Qi:wd:=⟨[.val tDy],[.slice .int,.int],false,fun d=>[(qh d.1).length<=100000],fun d=>(d4 d.1,wn d.1,())⟩
def Qj:Ann:=fun r=>match r with
 |6=>some fun σ=>{X:=Nat,sl:=fun i=>[(19,.dat .int (i:Int)),(6,.own 6 .int)],ob:=fun i=>[(6,some (.row 3 .int false .yes (y9 (gb tDy σ 1) i)))],inv:=fun i=>i<=(kA (gb tDy σ 1)).length,mu:=fun i=>(kA (gb tDy σ 1)).length-i}
 |_=>none
def Qk:Prop:=∀(d:DyD×Unit),(qh d.1).length<=100000->(qh d.1).length<=100000/\(decide (wn d.1≠0)=true->([],wn d.1,())=(d4 d.1,wn d.1,()))/\(decide (wn d.1≠0)=false->d.1.2.2.1.length<4611686018427387904->(∃(x:Nat),((0=(x:Int)/\True/\True)/\y9 d.1 x=[]/\True)/\x<=(kA d.1).length)/\∀(x:Nat),x<=(kA d.1).length->(decide ((x:Int)<d.1.2.2.1.length)=true->(sE d.1).isSome=true/\(aq (U.ro (sE d.1))).length<=60/\((y9 d.1 x).length+[cQ (aq (U.ro (sE d.1))) (x:Int)].length)*8<=140737488355328/\kK ((x:Int)+1)/\∃(a:Nat),(((x:Int)+1=(a:Int)/\True/\True)/\y9 d.1 x++[cQ (aq (U.ro (sE d.1))) (x:Int)]=y9 d.1 a/\True)/\a<=(kA d.1).length/\(kA d.1).length-a<(kA d.1).length-x)/\(decide ((x:Int)<d.1.2.2.1.length)=false->(y9 d.1 x,(0:Int),())=(d4 d.1,wn d.1,())))
def Mz:wd:=⟨[.val tDy],[.slice .int,.int],false,fun d=>[(qh d.1).length<=100000],fun d=>(kl d.1,wn d.1,())⟩
def MA:Ann:=fun r=>match r with
 |6=>some fun σ=>{X:=Nat,sl:=fun i=>[(19,.dat .int (i:Int)),(6,.own 6 .int)],ob:=fun i=>[(6,some (.row 3 .int false .yes (yP (gb tDy σ 1) i)))],inv:=fun i=>i<=(kA (gb tDy σ 1)).length,mu:=fun i=>(kA (gb tDy σ 1)).length-i}
 |_=>none
def MB:Prop:=∀(d:DyD×Unit),(qh d.1).length<=100000->(qh d.1).length<=100000/\(decide (wn d.1≠0)=true->([],wn d.1,())=(kl d.1,wn d.1,()))/\(decide (wn d.1≠0)=false->d.1.2.2.1.length<4611686018427387904->(∃(x:Nat),((0=(x:Int)/\True/\True)/\yP d.1 x=[]/\True)/\x<=(kA d.1).length)/\∀(x:Nat),x<=(kA d.1).length->(decide ((x:Int)<d.1.2.2.1.length)=true->(sE d.1).isSome=true/\(aq (U.ro (sE d.1))).length<=60/\(sE d.1).isSome=true/\ax (U.rd (U.ro (sE d.1))) (x:Int)/\(Dk (U.rd (U.ro (sE d.1))) (x:Int) (cQ (aq (U.ro (sE d.1))) (x:Int))=true->((yP d.1 x).length+[(x:Int)].length)*8<=140737488355328/\kK ((x:Int)+1)/\∃(a:Nat),(((x:Int)+1=(a:Int)/\True/\True)/\yP d.1 x++[(x:Int)]=yP d.1 a/\True)/\a<=(kA d.1).length/\(kA d.1).length-a<(kA d.1).length-x)/\(Dk (U.rd (U.ro (sE d.1))) (x:Int) (cQ (aq (U.ro (sE d.1))) (x:Int))=false->kK ((x:Int)+1)/\∃(a:Nat),((True/\(x:Int)+1=(a:Int)/\True)/\yP d.1 x=yP d.1 a/\True)/\a<=(kA d.1).length/\(kA d.1).length-a<(kA d.1).length-x))/\(decide ((x:Int)<d.1.2.2.1.length)=false->(yP d.1 x,(0:Int),())=(kl d.1,wn d.1,())))
theorem MC {r:RoD} {l:List ShD} (d:wL (U.rd r)=true) (e:∀s∈l,s∈qh (U.rd r)) (nd:l.Nodup) (a:(aq r).length=(kB (kE (U.rd r))).length) (b:jal (aq r)) (c:jcF r=U.noI):
 ∀i,i<=l.length->cz r l i (vl r l i)
 |0,_=>TR a b c
 |i+1,hi=>by
  rw[rT hi]
  exact X5 d e nd hi (MC d e nd a b c i (by omega))
structure ZA (d:DyD):Prop where
 may:O1 (RH d)
 len:(aq (RH d)).length=(kB (kE d)).length
 row:∀p,(nth (aq (RH d)) p).Nodup/\∀b∈nth (aq (RH d)) p,ax d b
theorem TX {d:DyD} (h:wn d=0):ZA d:=by
 obtain⟨⟨_,i⟩,⟨j,c⟩,e⟩:=TW h;have f:=(yn h).1;have a:=MC (r:=KZ d) (l:=qk d) f.2.2 (fun s k=>fD.1 k) (dQ d) j c e _ (jk _);refine⟨⟨f,i⟩,a.1,fun p=> ?_⟩;have:=a.2.2 p;exact⟨this.1,fun b g=>(this.2 b g).1⟩
theorem ZA.len60 {d:DyD} (h:ZA d):(aq (RH d)).length<=60:=by
 have a:=(w5 h.may.1.1).2.2.1;have a:(kB (kE d)).length<=8:=a;rw[h.len];omega
theorem X7 {d:DyD} (h:wn d=0):sE d=some (RH d):=jg h
theorem Ql (d:DyD) (n:Nat):y9 d (n+1)=y9 d n++[cQ (aq (RH d)) (n:Int)]:=by
 unfold y9;rw[zq,zA];rfl
theorem TY:Qk:=by
 rintro⟨d,⟨⟩⟩ j;refine⟨j,fun h=> ?_,fun h _=>⟨⟨0,⟨⟨rfl,tZ,tZ⟩,rfl,tZ⟩,jw _⟩,fun x g=>⟨fun a=> ?_,fun a=> ?_⟩⟩⟩;have h:wn d≠0:=jb h;show([],wn d,())=(d4 d,wn d,());unfold d4;rw[jc h];have hk:wn d=0:=jN.1 (jd h);have f:=TX hk;have i:(kA d).length<=4:=(ya f.may.1.2.2).1;have a:(x:Int)<(kA d).length:=jb a;have k:=Ql d x;have e:(y9 d x).length=x:=(by unfold y9;simp);have b:=X7 hk;refine⟨by show(sE d).isSome=true;rw[b];rfl,by show(aq (U.ro (sE d))).length<=60;rw[b];exact f.len60,?_,iZ6,x+1,⟨⟨by simp,tZ,tZ⟩,?_,tZ⟩,by show x+1<=(kA d).length;omega,by show(kA d).length-(x+1)<(kA d).length-x;omega⟩;show((y9 d x).length+1)*8<=_;omega;show y9 d x++[cQ (aq (U.ro (sE d))) (x:Int)]=y9 d (x+1);rw[b,k];rfl;have hk:wn d=0:=jN.1 (jd h);have g:x<=(kA d).length:=g;have a:¬(x:Int)<(kA d).length:=jd a;have c:x=(kA d).length:=(by omega);subst c;show(y9 d _,(0:Int),())=(d4 d,wn d,());unfold d4;rw[jg hk,hk]
theorem Qm:wm PR 20 Qi:=vd Qj TY Tryz.func20 (kcC fX kcN) (koC uz koN)
theorem Qn (d:DyD) (n:Nat):yP d (n+1)=yP d n++(if O3 d n=true then[(n:Int)] else[]):=by
 unfold yP;rw[L.cB,zA];by_cases h:O3 d n=true;rw[jg h,jg h];rfl;rw[jc h,jc h];rfl
theorem Qo:MB:=by
 rintro⟨d,⟨⟩⟩ p;refine⟨p,fun h=> ?_,fun h _=>⟨⟨0,⟨⟨rfl,tZ,tZ⟩,rfl,tZ⟩,jw _⟩,fun x m=>⟨fun b=> ?_,fun b=> ?_⟩⟩⟩;have h:wn d≠0:=jb h;show([],wn d,())=(kl d,wn d,());unfold kl;rw[jc h];have hk:wn d=0:=jN.1 (jd h);have l:=TX hk;have o:(kA d).length<=4:=(ya l.may.1.2.2).1;have b:(x:Int)<(kA d).length:=jb b;have e:=Qn d x;have k:(yP d x).length<=x:=by
  unfold yP;rw[zr];exact jE (z7 _ _) (by simp)
 have c:=X7 hk;have i:(sE d).isSome=true:=(by rw[c];rfl);have e2:(aq (U.ro (sE d))).length<=60:=(by rw[c];exact l.len60);have n:ax (U.rd (U.ro (sE d))) (x:Int):=(by rw[c];exact⟨by omega,b⟩);have j:Dk (U.rd (U.ro (sE d))) (x:Int) (cQ (aq (U.ro (sE d))) (x:Int))=O3 d x:=(by rw[c];rfl);have up:x+1<=(kA d).length:=(by omega);have g:(kA d).length-(x+1)<(kA d).length-x:=(by omega);refine⟨i,e2,i,n,fun a=> ?_,fun a=> ?_⟩;have a:O3 d x=true:=(by rw[<-j];exact a);refine⟨?_,iZ6,x+1,⟨⟨by simp,tZ,tZ⟩,?_,tZ⟩,up,g⟩;show((yP d x).length+1)*8<=_;omega;rw[jg a] at e;exact e.symm;have a:O3 d x=false:=(by rw[<-j];exact a);refine⟨iZ6,x+1,⟨⟨tZ,by simp,tZ⟩,?_,tZ⟩,up,g⟩;rw[jc (by rw[a];simp),j7] at e;exact e.symm;have hk:wn d=0:=jN.1 (jd h);have m:x<=(kA d).length:=m;have b:¬(x:Int)<(kA d).length:=jd b;have f:x=(kA d).length:=(by omega);subst f;show(yP d _,(0:Int),())=(kl d,wn d,());unfold kl;rw[jg hk,hk]
theorem MD:wm PR 21 Mz:=vd MA Qo Tryz.func21 (kcC fX (kcC xv kcN)) (koC uz koN)
theorem oY {l:List Int} (h:∀p∈l,0<=p/\p<8):∀n,n<=l.length->BT.qV (ic l n)/\∀q,BT.has (ic l n) q=true->q<8
 |0,_=>⟨BT.Dv,fun q a=>by rw[show ic l 0=0 from rfl,BT.sB] at a;cases a⟩
 |n+1,d=>by
  have b:=oY h n (by omega)
  have e:=h _ (L.kx (l:=l) (i:=n) (by omega))
  have c:BT.qV ((2:Int)^(nth l n).toNat):=BT.mC (by omega)
  rw[tK (by omega),Cu]
  refine⟨BT.bor_set b.1 c,fun q a=> ?_⟩
  rw[BT.has_bor b.1 c,zm,BT.Ax,js] at a
  rcases a with a|a
  exact b.2 q a
  omega
end Go.X
namespace Go.X
open U
open Go.Proofs
end Go.X
namespace Go.X
open U
open Go.Proofs
namespace U
def J3 (c:CrD) (t d:Int) (a b:Nat):Bool:=jbE c t d (a:Int) (b:Int)
def jdp (c:CrD) (t b a:Int):List Int:=xY (J3 c t b) (la c).toNat a.toNat (la c).toNat
def Yn (c:Bool) (s b:Int):Int:=if c=true then bor s b else s
def Vj (c:CrD) (j:JbD) (t:Int) (x:Int×Bool) (i:Nat):Int×Bool:=
 if yI t (i:Int)=true then(Yn (!yI (cl (nth (kB c) i)) (iH j)) (Yn (!yI (fd (nth (kB c) i)) (Xy j)) (Yn (KG (nth (kB c) i) (Xx j)) x.1 1) 2) 4,x.2||jbC (nth (kB c) i)) else x
def x7 (c:CrD) (j:JbD) (t:Int) (n:Nat):Int×Bool:=(List.range n).foldl (Vj c j t) (0,false)
def jcZ (c:CrD) (j:JbD) (t:Int):Int:=(x7 c j t (kB c).length).1
def jc0 (c:CrD) (j:JbD) (t:Int):Bool:=(x7 c j t (kB c).length).2
def jdq (c:CrD) (j:JbD) (t:Int):Int:=
 Yn (decide (nth (jdp c t (Vy (dX c j)) (RE j)) (KW j).toNat<0)) (Yn (jcB (dX c j)&& !jc0 c j t) (Yn (decide (BT.size t≠max (jaz j) (jay (dX c j)))) (jcZ c j t) 8) 16) 32
def Dl (c:CrD) (j:JbD) (t:Int):Bool:=decide (0<t)&&decide (jdq c j t=0)
end U
def JN:wd:=⟨[.val .int,.val .int,.val .int],[.bool],false,fun _=>[],fun d=>(kk d.1 d.2.1 d.2.2.1,())⟩
def JO:Prop:=∀(d:Int×Int×Int×Unit),(decide (d.2.1<=d.1)&&decide (d.1<=d.2.2.1),())=(kk d.1 d.2.1 d.2.2.1,())
def JP:wd:=⟨[.val tCr],[.bool],false,fun _=>[],fun d=>(kR d.1,())⟩
def JQ:Ann:=fun r=>match r with
 |4=>some fun σ=>{X:=Nat,sl:=fun i=>[(3,.dat .int (i:Int))],ob:=fun _=>[],inv:=fun i=>i<=(kB (gb tCr σ 1)).length/\∀j:Nat,j<i->fL (U.la (gb tCr σ 1)) (nth (kB (gb tCr σ 1)) j)=true,mu:=fun i=>(kB (gb tCr σ 1)).length-i}
 |10=>some fun σ=>{X:=Nat,sl:=fun i=>[(5,.dat .int (i:Int))],ob:=fun _=>[],inv:=fun i=>i<=(U.lv (gb tPe σ 4)).length/\∀j:Nat,j<i->kk (nth (U.lv (gb tPe σ 4)) j) 0 5=true,mu:=fun i=>(U.lv (gb tPe σ 4)).length-i}
 |15=>some fun σ=>{X:=Nat,sl:=fun i=>[(6,.dat .int (i:Int))],ob:=fun _=>[],inv:=fun i=>i<=(yH (gb tPe σ 4)).length/\∀j:Nat,j<i->kk (nth (yH (gb tPe σ 4)) j) 0 99=true,mu:=fun i=>(yH (gb tPe σ 4)).length-i}
 |20=>some fun σ=>{X:=Nat,sl:=fun i=>[(7,.dat .int (i:Int))],ob:=fun _=>[],inv:=fun i=>i<=(vP (gb tCr σ 1)).length/\∀j:Nat,j<i->dV (nth (vP (gb tCr σ 1)) j)=true,mu:=fun i=>(vP (gb tCr σ 1)).length-i}
 |_=>none
abbrev jdB (d:CrD×Unit)(x:Nat):=(nth d.1.2.1 (x:Int).toNat)
abbrev jfh (d:CrD×Unit)(x:Nat):=(↑(jdB d x).1.length:Int)
abbrev jfN (d:CrD×Unit)(x:Nat):=(↑(jdB d x).2.2.2.1.length:Int)
abbrev jg3 (d:CrD×Unit)(x:Nat):=(decide ((jfh d x)≠d.1.1)|| !kk (jdB d x).2.1 (0:Int) (255:Int)|| !kk (jdB d x).2.2.1 (0:Int) (255:Int)||decide ((10:Int)<(jfN d x))|| !kk (jdB d x).q4.2.1 (0:Int) (1000:Int))
abbrev jfi (d:CrD×Unit):=(d.1.2.2.1.length:Int)
abbrev jeq (d:CrD×Unit)(x:Nat):=(yH (jdB d x))
abbrev jfj (d:CrD×Unit):=(d.1.2.1.length:Int)
abbrev jg4 (d:CrD×Unit):=(!kk d.1.1 (2:Int) (5:Int)||decide (8<(jfj d))||decide ((jfi d)≠4))
abbrev jfO (d:CrD×Unit)(x:Nat):=(nth d.1.2.2.1 (x:Int).toNat)
abbrev jg5 (d:CrD×Unit)(x:Nat):=(!kk (jfO d x).1 (1:Int) (5:Int)|| !kk (jfO d x).2.1 (1:Int) (8:Int))
def JR:Prop:=∀(d:CrD×Unit),((!!kk d.1.1 (2:Int) (5:Int))=true->d.1.2.1.length<4611686018427387904)->((!(!kk d.1.1 (2:Int) (5:Int)||decide (8<(jfj d))))=true->d.1.2.2.1.length<4611686018427387904)->((jg4 d)=true->(false,())=(kR d.1,()))/\((jg4 d)=false->(∃(x:Nat),((0=(x:Int)/\True)/\True)/\x<=(kB d.1).length/\∀(j:Nat),j<x->fL (U.la d.1) (nth (kB d.1) j)=true)/\∀(x:Nat),(x<=(kB d.1).length/\∀(j:Nat),j<x->fL (U.la d.1) (nth (kB d.1) j)=true)->d.1.2.1.length<4611686018427387904->(decide ((x:Int)<(jfj d))=true->0<=(x:Int)/\(x:Int)<(jfj d)/\((jdB d x).1.length<4611686018427387904->((!(decide ((jfh d x)≠d.1.1)|| !kk (jdB d x).2.1 (0:Int) (255:Int)|| !kk (jdB d x).2.2.1 (0:Int) (255:Int)))=true->(jdB d x).2.2.2.1.length<4611686018427387904)->((jg3 d x)=true->(false,())=(kR d.1,()))/\((jg3 d x)=false->(∃(b:Nat),((0=(b:Int)/\True)/\True)/\b<=(U.lv (jdB d x)).length/\∀(j:Nat),j<b->kk (nth (U.lv (jdB d x)) j) (0:Int) 5=true)/\∀(b:Nat),(b<=(U.lv (jdB d x)).length/\∀(j:Nat),j<b->kk (nth (U.lv (jdB d x)) j) (0:Int) 5=true)->(jdB d x).1.length<4611686018427387904->(decide ((b:Int)<(jfh d x))=true->0<=(b:Int)/\(b:Int)<(jfh d x)/\((!kk (nth (jdB d x).1 (b:Int).toNat) (0:Int) (5:Int))=true->(false,())=(kR d.1,()))/\((!kk (nth (jdB d x).1 (b:Int).toNat) (0:Int) (5:Int))=false->kK ((b:Int)+1)/\∃(c:Nat),(((b:Int)+1=(c:Int)/\True)/\True)/\(c<=(U.lv (jdB d x)).length/\∀(j:Nat),j<c->kk (nth (U.lv (jdB d x)) j) (0:Int) 5=true)/\(U.lv (jdB d x)).length-c<(U.lv (jdB d x)).length-b))/\(decide ((b:Int)<(jfh d x))=false->(∃(a:Nat),((0=(a:Int)/\True)/\True)/\a<=(jeq d x).length/\∀(j:Nat),j<a->kk (nth (jeq d x) j) (0:Int) 99=true)/\∀(a:Nat),(a<=(jeq d x).length/\∀(j:Nat),j<a->kk (nth (jeq d x) j) (0:Int) 99=true)->(jdB d x).2.2.2.1.length<4611686018427387904->(decide ((a:Int)<(jfN d x))=true->0<=(a:Int)/\(a:Int)<(jfN d x)/\((!kk (nth (jdB d x).2.2.2.1 (a:Int).toNat) (0:Int) (99:Int))=true->(false,())=(kR d.1,()))/\((!kk (nth (jdB d x).2.2.2.1 (a:Int).toNat) (0:Int) (99:Int))=false->kK ((a:Int)+1)/\∃(c:Nat),(((a:Int)+1=(c:Int)/\True)/\True)/\(c<=(jeq d x).length/\∀(j:Nat),j<c->kk (nth (jeq d x) j) (0:Int) 99=true)/\(jeq d x).length-c<(jeq d x).length-a))/\(decide ((a:Int)<(jfN d x))=false->kK ((x:Int)+1)/\∃(c:Nat),(((x:Int)+1=(c:Int)/\True)/\True)/\(c<=(kB d.1).length/\∀(j:Nat),j<c->fL (U.la d.1) (nth (kB d.1) j)=true)/\(kB d.1).length-c<(kB d.1).length-x)))))/\(decide ((x:Int)<(jfj d))=false->(∃(x:Nat),((0=(x:Int)/\True)/\True)/\x<=(vP d.1).length/\∀(j:Nat),j<x->dV (nth (vP d.1) j)=true)/\∀(x:Nat),(x<=(vP d.1).length/\∀(j:Nat),j<x->dV (nth (vP d.1) j)=true)->d.1.2.2.1.length<4611686018427387904->(decide ((x:Int)<(jfi d))=true->0<=(x:Int)/\(x:Int)<(jfi d)/\((!!kk (jfO d x).1 (1:Int) (5:Int))=true->0<=(x:Int))/\((!!kk (jfO d x).1 (1:Int) (5:Int))=true->(x:Int)<(jfi d))/\((jg5 d x)=true->(false,())=(kR d.1,()))/\((jg5 d x)=false->kK ((x:Int)+1)/\∃(c:Nat),(((x:Int)+1=(c:Int)/\True)/\True)/\(c<=(vP d.1).length/\∀(j:Nat),j<c->dV (nth (vP d.1) j)=true)/\(vP d.1).length-c<(vP d.1).length-x))/\(decide ((x:Int)<(jfi d))=false->(true,())=(kR d.1,()))))
def ME:wd:=⟨[.val tCr,.val tJb],[.bool],false,fun d=>[kR d.1=true],fun d=>(wV d.1 d.2.1,())⟩
def MF:Prop:=∀(d:CrD×JbD×Unit),kR d.1=true->kK (d.1.1-1)/\(kk d.2.1.1 (0:Int) (d.1.1-1)=true->kK (d.1.1-1))/\(kk d.2.1.1 (0:Int) (d.1.1-1)&&kk d.2.1.2.1 (0:Int) (d.1.1-1)&&decide (d.2.1.1≠d.2.1.2.1)&&kk d.2.1.2.2.1 (0:Int) (99:Int)&&kk d.2.1.2.2.2.1 (0:Int) (7:Int)&&kk d.2.1.q4.1 (0:Int) (3:Int)&&kk d.2.1.q4.2.1 (1:Int) (8:Int),())=(wV d.1 d.2.1,())
end Go.X
