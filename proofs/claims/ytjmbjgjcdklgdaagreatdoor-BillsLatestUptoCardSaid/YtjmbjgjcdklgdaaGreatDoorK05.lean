/-
  Part 5 of the road: a checked reading of bodies, and what the functions on it do (T L BT BS NL DF RC FX A1 P1 A2 P2 A4 P4 A5 P5 A3 P6 CM MP O1 B1 P7 IS B2 P8 B3 P9 DI B4 P10 B5 P11 B6 P12 P13 B7 P14 B8 P15).
-/
import Derived.Test.YtjmbjgjcdklgdaaGreatDoorK04
import Derived.Test.YtjmbjgjcdklgdaaGreatDoorProg
import Derived.KernelRfl
import Derived.Shelf.SlSortCmp.WholeK
import Derived.Shelf.Sort.Plain
namespace Go.X
open U
open Go.Proofs
abbrev bT:=true
abbrev bF:=false
abbrev vO:Value:=.int .i64 0
abbrev qy0:Ty:=.st [.int,.int]
abbrev qy1:Ty:=.ptr (.uint .u8)
abbrev qy2:Ty:=.ptr (.uint .u64)
abbrev qy3:Ty:=.slice (.slice .int)
abbrev qy4:Ty:=.st [.int,.int,.int]
abbrev qy5:Ty:=.st [.int,.int,.bool]
abbrev qy6:Ty:=.slice qy0
abbrev qy7:Ty:=.slice qy4
abbrev qy8:Ty:=.slice qy5
abbrev qy9:Ty:=.slice qy6
abbrev qy10:Ty:=.st [.int,.int,.bool,.uint .u8]
abbrev qy11:Ty:=.st [.int,.int,.int,.int,.int]
abbrev qy12:Ty:=.map .int qy4
abbrev qy13:Ty:=.st [.int,.int,.int,.int,.int,.int]
abbrev qy14:Ty:=.slice qy11
abbrev qy15:Ty:=.slice qy13
abbrev qy16:Ty:=.st [.slice .int,.int,.int,.slice .int,.bool,.int]
abbrev qy17:Ty:=.map qy0 qy11
abbrev qy18:Ty:=.st [qy13,.int,.int,.int]
abbrev qy19:Ty:=.slice qy16
abbrev qy20:Ty:=.slice qy18
abbrev qy21:Ty:=.st [.int,.int,.int,.int,.int,.int,.int,.int,.slice .int,qy6]
abbrev qy22:Ty:=.st [.int,qy19,qy8]
abbrev qy23:Ty:=.st [qy22,qy13,qy5]
abbrev qy24:Ty:=.ptr qy23
abbrev qy25:Ty:=.st [qy18,qy21,.int,.int,.slice .int,.int,.int,.bool,.int]
abbrev qy26:Ty:=.ptr qy25
abbrev qy27:Ty:=.map .int qy26
abbrev qy28:Ty:=.st [qy22,qy9,qy20,.int,.int,qy14]
abbrev qy29:Ty:=.st [qy28,.slice .int,qy3,.slice .int]
abbrev qy30:Ty:=.ptr qy29
abbrev qy31:Ty:=.st [qy28,.slice .int,.slice .int,qy21,qy7]
abbrev qy32:Ty:=.st [qy31,qy27]
def rr (i:Nat)(t:Ty)(n:Nat)(a:Bool)(f:List (Nat×Nat))(s:Bool)(e b:Nat)(z:List Value)(c m:Bool)(k:Nat)(q:Bool):TI:=⟨i,t,n,a,f,s,e,b,z,c,m,k,q,false,false,false⟩
def rf (i:Nat):TI:=⟨i,.unit,1,false,[],false,0,8,[.nilFunc],false,false,0,false,false,false,true⟩
def rq (i:Nat):TI:=⟨i,.unit,1,false,[],false,0,8,[.pointer none],false,false,0,false,false,true,false⟩
def ti:List TI:=[
 rf 1,
 rr 2 .int 1 bF [] bF 0 8 [vO] bF bF 0 bT,
 rr 3 .int 1 bF [] bF 0 8 [vO] bF bF 0 bT,
 rr 4 .bool 1 bF [] bF 0 1 [.bool false] bT bF 0 bF,
 rr 5 (.uint .u8) 1 bF [] bF 0 1 [.int .u8 0] bF bF 0 bF,
 rr 6 (.uint .u8) 1 bF [] bF 0 1 [.int .u8 0] bF bF 0 bF,
 rr 7 qy10 4 bT [(0,2),(1,3),(2,4),(3,6)] bF 0 24 [vO,vO,.bool false,.int .u8 0] bT bF 0 bT,
 rr 8 qy10 4 bT [(0,2),(1,3),(2,4),(3,6)] bF 0 24 [vO,vO,.bool false,.int .u8 0] bT bF 0 bT,
 rr 12 (.uint .u64) 1 bF [] bF 0 8 [.int .u64 0] bF bF 0 bF,
 rq 15,
 rq 16,
 rq 17,
 rr 18 .unit 1 bT [(0,17)] bF 0 8 [.pointer none] bF bF 0 bF,
 rr 19 .unit 1 bT [(0,17)] bF 0 8 [.pointer none] bF bF 0 bF,
 rr 21 (.uint .i32) 1 bF [] bF 0 4 [.int .i32 0] bF bF 0 bF,
 rr 22 qy19 1 bF [] bT 138 24 [.slice none 0 0] bF bF 0 bF,
 rr 23 qy8 1 bF [] bT 140 24 [.slice none 0 0] bF bF 0 bF,
 rr 24 qy22 3 bT [(0,3),(1,22),(2,23)] bF 0 56 [vO,.slice none 0 0,.slice none 0 0] bF bF 0 bF,
 rr 25 qy22 3 bT [(0,3),(1,22),(2,23)] bF 0 56 [vO,.slice none 0 0,.slice none 0 0] bF bF 0 bF,
 rr 26 qy9 1 bF [] bT 109 24 [.slice none 0 0] bF bF 0 bF,
 rr 27 qy20 1 bF [] bT 62 24 [.slice none 0 0] bF bF 0 bF,
 rr 28 qy14 1 bF [] bT 75 24 [.slice none 0 0] bF bF 0 bF,
 rr 29 qy28 8 bT [(0,25),(3,26),(4,27),(5,3),(6,3),(7,28)] bF 0 144 [vO,.slice none 0 0,.slice none 0 0,.slice none 0 0,.slice none 0 0,vO,vO,.slice none 0 0] bF bF 0 bF,
 rr 30 qy28 8 bT [(0,25),(3,26),(4,27),(5,3),(6,3),(7,28)] bF 0 144 [vO,.slice none 0 0,.slice none 0 0,.slice none 0 0,.slice none 0 0,vO,vO,.slice none 0 0] bF bF 0 bF,
 rr 31 (.slice .int) 1 bF [] bT 3 24 [.slice none 0 0] bF bF 0 bF,
 rr 32 qy6 1 bF [] bT 96 24 [.slice none 0 0] bF bF 0 bF,
 rr 33 qy21 10 bT [(0,3),(1,3),(2,3),(3,3),(4,3),(5,3),(6,3),(7,3),(8,31),(9,32)] bF 0 112 [vO,vO,vO,vO,vO,vO,vO,vO,.slice none 0 0,.slice none 0 0] bF bF 0 bF,
 rr 34 qy21 10 bT [(0,3),(1,3),(2,3),(3,3),(4,3),(5,3),(6,3),(7,3),(8,31),(9,32)] bF 0 112 [vO,vO,vO,vO,vO,vO,vO,vO,.slice none 0 0,.slice none 0 0] bF bF 0 bF,
 rr 35 qy7 1 bF [] bT 39 24 [.slice none 0 0] bF bF 0 bF,
 rr 36 qy31 21 bT [(0,30),(8,31),(9,31),(10,34),(20,35)] bF 0 328 [vO,.slice none 0 0,.slice none 0 0,.slice none 0 0,.slice none 0 0,vO,vO,.slice none 0 0,.slice none 0 0,.slice none 0 0,vO,vO,vO,vO,vO,vO,vO,vO,.slice none 0 0,.slice none 0 0,.slice none 0 0] bF bF 0 bF,
 rr 37 qy31 21 bT [(0,30),(8,31),(9,31),(10,34),(20,35)] bF 0 328 [vO,.slice none 0 0,.slice none 0 0,.slice none 0 0,.slice none 0 0,vO,vO,.slice none 0 0,.slice none 0 0,.slice none 0 0,vO,vO,vO,vO,vO,vO,vO,vO,.slice none 0 0,.slice none 0 0,.slice none 0 0] bF bF 0 bF,
 rr 38 qy4 3 bT [(0,3),(1,3),(2,3)] bF 0 24 [vO,vO,vO] bT bF 0 bT,
 rr 39 qy4 3 bT [(0,3),(1,3),(2,3)] bF 0 24 [vO,vO,vO] bT bF 0 bT,
 rf 40,
 rf 41,
 rf 42,
 rr 43 .int 1 bF [] bF 0 8 [vO] bF bF 0 bT,
 rf 44,
 rr 45 qy15 1 bF [] bT 51 24 [.slice none 0 0] bF bF 0 bF,
 rf 47,
 rf 49,
 rr 50 qy13 6 bT [(0,3),(1,3),(2,3),(3,3),(4,3),(5,3)] bF 0 48 [vO,vO,vO,vO,vO,vO] bT bF 0 bT,
 rr 51 qy13 6 bT [(0,3),(1,3),(2,3),(3,3),(4,3),(5,3)] bF 0 48 [vO,vO,vO,vO,vO,vO] bT bF 0 bT,
 rf 53,
 rf 54,
 rf 55,
 rr 56 qy4 3 bT [(0,3),(1,3),(2,3)] bF 0 24 [vO,vO,vO] bT bF 0 bT,
 rr 57 qy4 3 bT [(0,3),(1,3),(2,3)] bF 0 24 [vO,vO,vO] bT bF 0 bT,
 rf 58,
 rr 59 qy13 6 bT [(0,3),(1,3),(2,3),(3,3),(4,3),(5,3)] bF 0 48 [vO,vO,vO,vO,vO,vO] bT bF 0 bT,
 rr 60 qy13 6 bT [(0,3),(1,3),(2,3),(3,3),(4,3),(5,3)] bF 0 48 [vO,vO,vO,vO,vO,vO] bT bF 0 bT,
 rr 61 qy18 9 bT [(0,60),(6,3),(7,3),(8,3)] bF 0 72 [vO,vO,vO,vO,vO,vO,vO,vO,vO] bT bF 0 bT,
 rr 62 qy18 9 bT [(0,60),(6,3),(7,3),(8,3)] bF 0 72 [vO,vO,vO,vO,vO,vO,vO,vO,vO] bT bF 0 bT,
 rf 64,
 rf 65,
 rf 66,
 rf 68,
 rf 70,
 rf 71,
 rf 72,
 rf 73,
 rr 74 qy11 5 bT [(0,3),(1,3),(2,3),(3,3),(4,3)] bF 0 40 [vO,vO,vO,vO,vO] bT bF 0 bT,
 rr 75 qy11 5 bT [(0,3),(1,3),(2,3),(3,3),(4,3)] bF 0 40 [vO,vO,vO,vO,vO] bT bF 0 bT,
 rf 76,
 rf 77,
 rf 78,
 rf 79,
 rf 80,
 rf 81,
 rf 82,
 rr 83 qy27 1 bF [] bF 92 8 [.map none] bF bT 3 bF,
 rr 84 qy32 22 bT [(0,37),(21,83)] bF 0 336 [vO,.slice none 0 0,.slice none 0 0,.slice none 0 0,.slice none 0 0,vO,vO,.slice none 0 0,.slice none 0 0,.slice none 0 0,vO,vO,vO,vO,vO,vO,vO,vO,.slice none 0 0,.slice none 0 0,.slice none 0 0,.map none] bF bF 0 bF,
 rr 85 qy32 22 bT [(0,37),(21,83)] bF 0 336 [vO,.slice none 0 0,.slice none 0 0,.slice none 0 0,.slice none 0 0,vO,vO,.slice none 0 0,.slice none 0 0,.slice none 0 0,vO,vO,vO,vO,vO,vO,vO,vO,.slice none 0 0,.slice none 0 0,.slice none 0 0,.map none] bF bF 0 bF,
 rf 87,
 rf 88,
 rf 89,
 rf 90,
 rf 91,
 {rr 92 qy26 1 bF [] bF 0 8 [.pointer none] bF bF 0 bF with pt:=true},
 rf 93,
 rf 94,
 rr 95 qy0 2 bT [(0,3),(1,3)] bF 0 16 [vO,vO] bT bF 0 bT,
 rr 96 qy0 2 bT [(0,3),(1,3)] bF 0 16 [vO,vO] bT bF 0 bT,
 rr 97 qy25 26 bT [(0,62),(9,34),(19,3),(20,3),(21,31),(22,3),(23,3),(24,4),(25,3)] bF 0 256 [vO,vO,vO,vO,vO,vO,vO,vO,vO,vO,vO,vO,vO,vO,vO,vO,vO,.slice none 0 0,.slice none 0 0,vO,vO,.slice none 0 0,vO,vO,.bool false,vO] bF bF 0 bF,
 rr 98 qy25 26 bT [(0,62),(9,34),(19,3),(20,3),(21,31),(22,3),(23,3),(24,4),(25,3)] bF 0 256 [vO,vO,vO,vO,vO,vO,vO,vO,vO,vO,vO,vO,vO,vO,vO,vO,vO,.slice none 0 0,.slice none 0 0,vO,vO,.slice none 0 0,vO,vO,.bool false,vO] bF bF 0 bF,
 rf 99,
 rf 100,
 rf 101,
 {rr 102 qy30 1 bF [] bF 0 8 [.pointer none] bF bF 0 bF with pt:=true},
 rf 104,
 rr 105 (.uint .u64) 1 bF [] bF 0 8 [.int .u64 0] bF bF 0 bF,
 rf 106,
 rf 107,
 rf 108,
 rr 109 qy6 1 bF [] bT 135 24 [.slice none 0 0] bF bF 0 bF,
 rf 110,
 rf 111,
 rf 112,
 rf 113,
 rf 114,
 rf 115,
 rf 116,
 rf 117,
 rf 118,
 rf 119,
 rf 121,
 rf 122,
 rf 123,
 rf 124,
 rr 125 qy3 1 bF [] bT 31 24 [.slice none 0 0] bF bF 0 bF,
 rr 126 qy29 11 bT [(0,30),(8,31),(9,125),(10,31)] bF 0 216 [vO,.slice none 0 0,.slice none 0 0,.slice none 0 0,.slice none 0 0,vO,vO,.slice none 0 0,.slice none 0 0,.slice none 0 0,.slice none 0 0] bF bF 0 bF,
 rr 127 qy29 11 bT [(0,30),(8,31),(9,125),(10,31)] bF 0 216 [vO,.slice none 0 0,.slice none 0 0,.slice none 0 0,.slice none 0 0,vO,vO,.slice none 0 0,.slice none 0 0,.slice none 0 0,.slice none 0 0] bF bF 0 bF,
 rf 128,
 rf 129,
 rf 130,
 rr 131 qy15 1 bF [] bT 60 24 [.slice none 0 0] bF bF 0 bF,
 rf 133,
 rr 134 qy0 2 bT [(0,3),(1,3)] bF 0 16 [vO,vO] bT bF 0 bT,
 rr 135 qy0 2 bT [(0,3),(1,3)] bF 0 16 [vO,vO] bT bF 0 bT,
 rf 136,
 rr 137 qy16 6 bT [(0,31),(1,3),(2,3),(3,31),(4,4),(5,3)] bF 0 80 [.slice none 0 0,vO,vO,.slice none 0 0,.bool false,vO] bF bF 0 bF,
 rr 138 qy16 6 bT [(0,31),(1,3),(2,3),(3,31),(4,4),(5,3)] bF 0 80 [.slice none 0 0,vO,vO,.slice none 0 0,.bool false,vO] bF bF 0 bF,
 rr 139 qy5 3 bT [(0,3),(1,3),(2,4)] bF 0 24 [vO,vO,.bool false] bT bF 0 bT,
 rr 140 qy5 3 bT [(0,3),(1,3),(2,4)] bF 0 24 [vO,vO,.bool false] bT bF 0 bT,
 rf 141,
 rf 142,
 rf 143,
 rf 144,
 rr 145 qy12 1 bF [] bF 39 8 [.map none] bF bT 3 bF,
 rf 147,
 rf 148,
 rf 149,
 rf 150,
 rf 151,
 rf 152,
 rf 153,
 rf 154,
 rf 155,
 {rr 156 qy24 1 bF [] bF 0 8 [.pointer none] bF bF 0 bF with pt:=true},
 rf 158,
 rr 159 (.uint .u64) 1 bF [] bF 0 8 [.int .u64 0] bF bF 0 bF,
 rf 160,
 rr 161 qy17 1 bF [] bF 75 8 [.map none] bF bT 165 bF,
 rf 162,
 rf 163,
 rr 164 qy0 2 bT [(0,3),(1,3)] bF 0 16 [vO,vO] bT bF 0 bT,
 rr 165 qy0 2 bT [(0,3),(1,3)] bF 0 16 [vO,vO] bT bF 0 bT,
 rf 166,
 rf 167,
 rf 168,
 rf 169,
 rf 170,
 rf 171,
 rf 172,
 rr 173 .int 1 bF [] bF 0 8 [vO] bF bF 0 bT,
 rf 175,
 rf 176,
 rf 177,
 rf 178,
 rf 179,
 rr 180 (.uint .u32) 1 bF [] bF 0 4 [.int .u32 0] bF bF 0 bF,
 rf 181,
 rr 182 (.uint .u64) 1 bF [] bF 0 8 [.int .u64 0] bF bF 0 bF,
 rf 183,
 rf 184,
 rf 185,
 rf 186,
 rf 187,
 rf 188,
 rf 189,
 rf 190,
 rf 191,
 rf 192,
 rf 193,
 rf 194,
 rr 195 (.map .int .int) 1 bF [] bF 3 8 [.map none] bF bT 3 bF,
 rr 196 qy23 12 bT [(0,25),(3,60),(9,140)] bF 0 128 [vO,.slice none 0 0,.slice none 0 0,vO,vO,vO,vO,vO,vO,vO,vO,.bool false] bF bF 0 bF,
 rr 197 qy23 12 bT [(0,25),(3,60),(9,140)] bF 0 128 [vO,.slice none 0 0,.slice none 0 0,vO,vO,vO,vO,vO,vO,vO,vO,.bool false] bF bF 0 bF,
 rf 198,
 rf 199,
 rf 200,
 rf 201,
 rf 202,
 rf 203,
 rf 204,
 rf 205,
 rf 206,
 rr 207 (.uint .u64) 1 bF [] bF 0 8 [.int .u64 0] bF bF 0 bF,
 rf 208,
 rf 209,
 rf 210,
 {rr 211 (.ptr .int) 1 bF [] bF 0 8 [.pointer none] bF bF 0 bF with pt:=true},
 rf 212,
 rf 213,
 rf 214,
 rf 215,
 rf 216,
 rf 217,
 rf 218,
 rf 219,
 rf 220,
 rf 221,
 rf 222,
 rf 223,
 rf 224,
 rf 225,
 rf 226,
 rf 227,
 rf 228,
 rf 229,
 rf 230,
 rf 231,
 rf 232,
 rf 233,
 {rr 234 qy2 1 bF [] bF 0 8 [.pointer none] bF bF 0 bF with pt:=true},
 rf 236,
 rf 237,
 rf 238,
 rf 239,
 rf 240,
 rf 241,
 rf 242,
 rf 243,
 rf 244,
 rf 245,
 rf 247,
 rf 248,
 rf 249,
 rf 250,
 rf 251,
 rf 252,
 rf 253,
 rf 255,
 rf 257,
 rf 258,
 rf 259,
 rf 260,
 rf 261,
 rf 262,
 rf 263,
 rf 264,
 rf 265,
 rf 266,
 rr 270 .unit 0 bT [(0,269)] bF 0 0 [] bF bF 0 bF,
 rr 271 .unit 0 bT [(0,269)] bF 0 0 [] bF bF 0 bF,
 rr 272 (.uint .u8) 1 bF [] bF 0 1 [.int .u8 0] bF bF 0 bF,
 rr 273 (.uint .u8) 1 bF [] bF 0 1 [.int .u8 0] bF bF 0 bF,
 rf 274,
 {rr 275 qy1 1 bF [] bF 0 8 [.pointer none] bF bF 0 bF with pt:=true},
 rr 276 (.uint .i32) 1 bF [] bF 0 4 [.int .i32 0] bF bF 0 bF,
 rr 277 (.uint .i32) 1 bF [] bF 0 4 [.int .i32 0] bF bF 0 bF,
 rr 278 .unit 11 bT [(0,12),(1,12),(2,180),(3,272),(4,5),(5,5),(6,273),(7,274),(8,275),(9,276),(10,277)] bF 0 48 [.int .u64 0,.int .u64 0,.int .u32 0,.int .u8 0,.int .u8 0,.int .u8 0,.int .u8 0,.nilFunc,.pointer none,.int .i32 0,.int .i32 0] bF bF 0 bF,
 rr 279 .unit 11 bT [(0,12),(1,12),(2,180),(3,272),(4,5),(5,5),(6,273),(7,274),(8,275),(9,276),(10,277)] bF 0 48 [.int .u64 0,.int .u64 0,.int .u32 0,.int .u8 0,.int .u8 0,.int .u8 0,.int .u8 0,.nilFunc,.pointer none,.int .i32 0,.int .i32 0] bF bF 0 bF,
 rf 280,
 rf 282]
def strs:List Nat:=[9,10,11]
noncomputable abbrev PR:Program:=Tryz.prog
theorem X3:ti.all (jdw PR)=true:=by kernel_rfl
def jaS (P:Program) (k:Nat):Bool:=match P.underlying k with|some .string=>true|_=>false
theorem UT {P:Program} {l:List Nat} (a:l.all (jaS P)=true) (T:Nat) (h:aj l T=true):P.underlying T=some .string:=by
 have:=jT.1 a T ((qV _ _).1 h);unfold jaS at this
 split at this
 assumption
 cases this
theorem jaT:strs.all (jaS PR)=true:=by kernel_rfl
theorem PI:∀T,aj strs T=true->PR.underlying T=some .string:=UT jaT
theorem mixed:PR.follows .mixedOrders=true:=by kernel_rfl
def jdS (n:Nat) (fs:List (Nat×we)):Ctx:=⟨n,ti,fs,fun _ _ _ _=>none,strs,false⟩
def ctx (n:Nat) (fs:List (Nat×we)) (os:List (Nat×qk)):Ctx:=⟨n,ti,fs,jdM (jdS n fs) os,strs,false⟩
def mV:List (Nat×we)->Prop
 |[]=>True
 |p::r=>(p.2.own=false->wn PR p.1 p.2)/\mV r
def cG:List (Nat×qk)->Prop
 |[]=>True
 |p::r=>yR PR p.1 p.2/\cG r
theorem dM:∀{l:List (Nat×we)},mV l->∀f s,kS l f=some s->s.own=false->wn PR f s
 |[],_,f,s,h,_=>by simp[kS] at h
 | (j,x)::r,hk,f,s,h,ho=>by
  simp only[kS] at h
  cases a:Nat.beq j f with
  |true=>rw[a] at h;simp at h;subst h;have:=jb a;subst this;exact hk.1 ho
  |false=>rw[a] at h;exact dM hk.2 f s h ho
theorem oN:∀{l:List (Nat×qk)},cG l->∀f s,kS l f=some s->yR PR f s
 |[],_,f,s,h=>by simp[kS] at h
 | (j,x)::r,hk,f,s,h=>by
  simp only[kS] at h
  cases a:Nat.beq j f with
  |true=>rw[a] at h;simp at h;subst h;have:=jb a;subst this;exact hk.1
  |false=>rw[a] at h;exact oN hk.2 f s h
theorem UU {n:Nat} {fs:List (Nat×we)} (h:mV fs):(jdS n fs).ok PR:=
 ⟨Pp X3,dM h,PI,rfl,fun _ _ _ _ _ a=>by cases a⟩
theorem nT {n:Nat} {fs:List (Nat×we)} {os:List (Nat×qk)} (h:mV fs) (b:cG os):(ctx n fs os).ok PR:=
 ⟨Pp X3,dM h,PI,rfl,fun _ _ _ _ _ a=>Q1 (UU h) (oN b) a⟩
def gd (t:Ty) (σ:St) (s:Nat):t.Data:=match σ.get s with
 | .dat a d=>(match w5 a t d with|some x=>x|none=>t.dflt)
 |_=>t.dflt
def gr (t:Ty) (σ:St) (o:Nat):List t.Data:=match σ.obj o with
 |some (.row _ a _ _ l)=>(match w5 (.slice a) (.slice t) l with|some l'=>l'|none=>[])
 |_=>[]
def gfn (ps rs:List Ty) (σ:St) (s:Nat):(Ty.st ps).Data->(Ty.st rs).Data:=match σ.get s with
 | .fn a b _ F=>if h:a=ps/\b=rs then h.1▸h.2▸F else fun _=>(Ty.st rs).dflt
 |_=>fun _=>(Ty.st rs).dflt
def wz (fn:Func):Code:=match fn.body with|some c=>c|none=> .skip
theorem jei {f:Nat} {fn:Func} {n:Nat} {fs:List (Nat×we)} {os:List (Nat×qk)} {s:we} {A:Ann} (h:jb7 (ctx n fs os) A fn (wz fn) s) (d:PR.funcs[f]? =some fn) (c:fn.body=some (wz fn)) (a:(fn.name== "runtime.NumGoroutine")=false)
 (e:fn.ntmps=n) (b:Nat.ble s.ps.length n=true) (hk:mV fs) (g:cG os):wn PR f s:=
 jcs (nT hk g) mixed d c a e (jz b) A h
theorem jcE {f:Nat} {fn:Func} {n:Nat} {fs:List (Nat×we)} {os:List (Nat×qk)} {s:qk} {A:Ann} (h:Uy (ctx n fs os) A fn (wz fn) s) (e:PR.funcs[f]? =some fn) (d:fn.body=some (wz fn)) (a:(fn.name== "runtime.NumGoroutine")=false)
 (g:fn.ntmps=n) (c:Nat.ble s.ps.length n=true) (b:y6 (Mk s.ps 0)=true) (hk:mV fs) (i:cG os):yR PR f s:=
 jcv (nT hk i) mixed e d a g (jz c) b A h
abbrev qF:Prop:=false=false
theorem tZ:True:=True.intro
theorem iZ6 {x:Int} (a: -9223372036854775808<=x:=by omega) (b:x<=9223372036854775807:=by omega):kH x:=⟨a,b⟩
theorem kcC {f:Nat} {s:we} {fs:List (Nat×we)} (h:wn PR f s) (hk:mV fs):mV ((f,s)::fs):=⟨fun _=>h,hk⟩
theorem kcN:mV []:=trivial
theorem koC {f:Nat} {s:qk} {fs:List (Nat×qk)} (h:yR PR f s) (hk:cG fs):cG ((f,s)::fs):=⟨h,hk⟩
theorem koN:cG []:=trivial
theorem qG (A:Ann) {f:Nat} {fn:Func} {fs:List (Nat×we)} {os:List (Nat×qk)} {s:we} {P:Prop} (h:P) (e:PR.funcs[f]? =some fn) (hk:mV fs) (g:cG os) (d:jb7 (ctx fn.ntmps fs os) A fn (wz fn) s=P:=by kernel_rfl) (c:fn.body=some (wz fn):=by kernel_rfl) (a:(fn.name== "runtime.NumGoroutine")=false:=by kernel_rfl) (b:Nat.ble s.ps.length fn.ntmps=true:=by kernel_rfl):wn PR f s:=jei (d.mpr h) e c a rfl b hk g
theorem kY {f:Nat} {fn:Func} {fs:List (Nat×we)} {os:List (Nat×qk)} {s:we} {P:Prop} (h:P) (e:PR.funcs[f]? =some fn) (hk:mV fs) (g:cG os) (d:jb7 (ctx fn.ntmps fs os) (fun _=>none) fn (wz fn) s=P:=by kernel_rfl) (c:fn.body=some (wz fn):=by kernel_rfl) (a:(fn.name== "runtime.NumGoroutine")=false:=by kernel_rfl) (b:Nat.ble s.ps.length fn.ntmps=true:=by kernel_rfl):wn PR f s:=jei (d.mpr h) e c a rfl b hk g
theorem rK (A:Ann) {f:Nat} {fn:Func} {fs:List (Nat×we)} {os:List (Nat×qk)} {s:qk} {P:Prop} (h:P) (g:PR.funcs[f]? =some fn) (hk:mV fs) (i:cG os) (e:Uy (ctx fn.ntmps fs os) A fn (wz fn) s=P:=by kernel_rfl) (d:fn.body=some (wz fn):=by kernel_rfl) (a:(fn.name== "runtime.NumGoroutine")=false:=by kernel_rfl) (c:Nat.ble s.ps.length fn.ntmps=true:=by kernel_rfl) (b:y6 (Mk s.ps 0)=true:=by kernel_rfl):yR PR f s:=jcE (e.mpr h) g d a rfl c b hk i
theorem uW {f:Nat} {fn:Func} {fs:List (Nat×we)} {os:List (Nat×qk)} {s:qk} {P:Prop} (h:P) (g:PR.funcs[f]? =some fn) (hk:mV fs) (i:cG os) (e:Uy (ctx fn.ntmps fs os) (fun _=>none) fn (wz fn) s=P:=by kernel_rfl) (d:fn.body=some (wz fn):=by kernel_rfl) (a:(fn.name== "runtime.NumGoroutine")=false:=by kernel_rfl) (c:Nat.ble s.ps.length fn.ntmps=true:=by kernel_rfl) (b:y6 (Mk s.ps 0)=true:=by kernel_rfl):yR PR f s:=jcE (e.mpr h) g d a rfl c b hk i
def Lx (n:Nat) (fs:List (Nat×we)) (os:List (Nat×qk)) (cs:List (Nat×oJ)) (vs:List (Nat×GW)):Ctx:=⟨n,ti,fs,jdR (jdS n fs) os cs vs,strs,false⟩
def UV:List (Nat×oJ)->Prop
 |[]=>True
 |p::r=>Jb PR p.1 p.2/\UV r
def UW:List (Nat×GW)->Prop
 |[]=>True
 |p::r=>VOK PR p.1 p.2/\UW r
theorem B9:∀{l:List (Nat×oJ)},UV l->∀f s,kS l f=some s->Jb PR f s
 |[],_,f,s,h=>by simp[kS] at h
 | (j,x)::r,hk,f,s,h=>by
  simp only[kS] at h
  cases a:Nat.beq j f with
  |true=>rw[a] at h;simp at h;subst h;have:=jb a;subst this;exact hk.1
  |false=>rw[a] at h;exact B9 hk.2 f s h
theorem Ca:∀{l:List (Nat×GW)},UW l->∀f s,kS l f=some s->VOK PR f s
 |[],_,f,s,h=>by simp[kS] at h
 | (j,x)::r,hk,f,s,h=>by
  simp only[kS] at h
  cases a:Nat.beq j f with
  |true=>rw[a] at h;simp at h;subst h;have:=jb a;subst this;exact hk.1
  |false=>rw[a] at h;exact Ca hk.2 f s h
theorem MA {n:Nat} {fs:List (Nat×we)} {os:List (Nat×qk)} {cs:List (Nat×oJ)} {vs:List (Nat×GW)} (h:mV fs) (c:cG os) (a:UV cs) (d:UW vs):(Lx n fs os cs vs).ok PR:=
 ⟨Pp X3,dM h,PI,rfl,fun _ _ _ _ _ b=>Q3 (UU h) (oN c) (B9 a) (Ca d) b⟩
theorem jcF {f:Nat} {fn:Func} {n:Nat} {fs:List (Nat×we)} {os:List (Nat×qk)} {s:oJ} {A:Ann} (h:UM (ctx n fs os) A fn (wz fn) s) (d:PR.funcs[f]? =some fn) (c:fn.body=some (wz fn)) (a:(fn.name== "runtime.NumGoroutine")=false)
 (e:fn.ntmps=n) (b:Nat.ble s.ps.length n=true) (hk:mV fs) (g:cG os):Jb PR f s:=
 jcB (nT hk g) mixed d c a e (jz b) A h
end Go.X
namespace Go.X
open U
namespace L
theorem wW {α:Type} [Inhabited α] {l:List α} {i:Nat} (h:i<l.length):nth l i=l[i]:=by
 unfold nth;simp[h]
theorem wd {α:Type} [Inhabited α] {l:List α} {i:Nat} (h:i<l.length):l.take (i+1)=l.take i++[nth l i]:=by
 rw[wW h];exact List.take_succ_eq_append_getElem h
theorem kB {α:Type} [Inhabited α] {l:List α} {i:Nat} (h:i<l.length):nth l i∈l:=by
 rw[wW h];exact List.getElem_mem h
theorem mem_iff {α:Type} [Inhabited α] {l:List α} {x:α}:x∈l↔∃i,i<l.length/\nth l i=x:=by
 constructor;intro h;obtain⟨i,hi,e⟩:=List.getElem_of_mem h;exact⟨i,hi,by rw[wW hi,e]⟩;rintro⟨i,hi,rfl⟩;exact kB hi
theorem all_false {α:Type} [Inhabited α] {l:List α} {i:Nat} {p:α->Bool} (h:i<l.length) (a:p (nth l i)=false):l.all p=false:=by
 rw[zY];exact⟨nth l i,kB h,by simp[a]⟩
theorem E0 {x:Int} (a: -9223372036854775808<=x) (b:x<=9223372036854775807):kH x:=⟨a,b⟩
end L
namespace BT
theorem AN (k:Nat):(2:Int)^k=((2^k:Nat):Int):=by simp
theorem div_nat (n k:Nat):(n:Int)/2^k=((n/2^k:Nat):Int):=by simp
theorem pow63 {k:Nat} (h:k<=62):2^k<2^63:=Nat.pow_lt_pow_right (by decide) (by omega)
theorem ofInt_nat {n:Nat} (a:n<2^63):(BitVec.ofInt 64 (n:Int)).toNat=n:=by
 simp only[BitVec.toNat_ofInt];omega
theorem wrap_nat {n:Nat} (h:n<2^63):IntKind.i64.wrap (n:Int)=(n:Int):=by
 unfold IntKind.wrap;simp[IntKind.signed,IntKind.bits];omega
theorem wrapU_nat {n:Nat} (h:n<2^63):IntKind.u64.wrap (n:Int)=(n:Int):=by
 unfold IntKind.wrap;simp[IntKind.signed,IntKind.bits];omega
theorem band_nat {a b:Nat} (c:a<2^63) (d:b<2^63):iy (a:Int) (b:Int)=((a&&&b:Nat):Int):=by
 unfold iy;rw[BitVec.toNat_and,ofInt_nat c,ofInt_nat d];exact wrap_nat (Nat.lt_of_le_of_lt Nat.and_le_left c)
theorem uand_nat {a b:Nat} (c:a<2^63) (d:b<2^63):yL (a:Int) (b:Int)=((a&&&b:Nat):Int):=by
 unfold yL;rw[BitVec.toNat_and,ofInt_nat c,ofInt_nat d];exact wrapU_nat (Nat.lt_of_le_of_lt Nat.and_le_left c)
theorem bor_nat {a b:Nat} (c:a<2^63) (d:b<2^63):bor (a:Int) (b:Int)=((a|||b:Nat):Int):=by
 unfold bor;rw[BitVec.toNat_or,ofInt_nat c,ofInt_nat d,wrap_nat (Nat.or_lt_two_pow c d)]
def w4 (s:Int):Prop:=0<=s/\s<2^62
def has (s:Int) (p:Nat):Bool:=s.toNat.testBit p
theorem nat_of {s:Int} (h:w4 s):∃n:Nat,s=(n:Int)/\n<2^62:=⟨s.toNat,by unfold w4 at h;omega,by unfold w4 at h;omega⟩
theorem lt63 {n:Nat} (h:n<2^62):n<2^63:=by omega
theorem has_shr {s:Int} (h:w4 s) (p:Nat):decide (iy (s/2^p) 1=1)=has s p:=by
 obtain⟨n,rfl,b⟩:=nat_of h;unfold has;rw[jw,div_nat];have a:n/2^p<2^63:=Nat.lt_of_le_of_lt (Nat.div_le_self _ _) (lt63 b);rw[show(1:Int)=((1:Nat):Int) from rfl,band_nat a (by decide),Nat.and_one_is_mod,Nat.testBit_eq_decide_div_mod_eq];exact decide_eq_decide.2 ⟨fun h=>by omega,fun h=>by omega⟩
theorem has_ushr {s:Int} (h:w4 s) (p:Nat):decide (yL (s/2^p) 1=1)=has s p:=by
 obtain⟨n,rfl,b⟩:=nat_of h;unfold has;rw[jw,div_nat];have a:n/2^p<2^63:=Nat.lt_of_le_of_lt (Nat.div_le_self _ _) (lt63 b);rw[show(1:Int)=((1:Nat):Int) from rfl,uand_nat a (by decide),Nat.and_one_is_mod,Nat.testBit_eq_decide_div_mod_eq];exact decide_eq_decide.2 ⟨fun h=>by omega,fun h=>by omega⟩
theorem bit_num {s:Int} (h:w4 s) (p:Nat):iy (s/2^p) 1=if has s p=true then 1 else 0:=by
 obtain⟨n,rfl,b⟩:=nat_of h;unfold has;rw[jw,div_nat];have a:n/2^p<2^63:=Nat.lt_of_le_of_lt (Nat.div_le_self _ _) (lt63 b);rw[show(1:Int)=((1:Nat):Int) from rfl,band_nat a (by decide),Nat.and_one_is_mod,Nat.testBit_eq_decide_div_mod_eq]
 split
 rename_i h;have:=ja h;omega;rename_i h;have:¬(n/2^p%2=1):=fun e=>h (jH e);omega
theorem sS (p:Nat):has 0 p=false:=by unfold has;simp
theorem AO (k p:Nat):has ((2:Int)^k) p=decide (k=p):=by
 unfold has;rw[AN,jw,Nat.testBit_two_pow]
theorem has_bor {a b:Int} (c:w4 a) (d:w4 b) (p:Nat):has (bor a b) p=(has a p||has b p):=by
 obtain⟨n,rfl,f⟩:=nat_of c;obtain⟨m,rfl,e⟩:=nat_of d;unfold has;rw[bor_nat (lt63 f) (lt63 e)];simp only[jw,Nat.testBit_or]
theorem bor_set {a b:Int} (e:w4 a) (f:w4 b):w4 (bor a b):=by
 obtain⟨n,rfl,d⟩:=nat_of e;obtain⟨m,rfl,c⟩:=nat_of f;rw[bor_nat (lt63 d) (lt63 c)];have:n|||m<2^62:=Nat.or_lt_two_pow d c;unfold w4;omega
theorem DH:w4 0:=by unfold w4;omega
theorem fZ {k:Nat} (h:k<=61):w4 ((2:Int)^k):=by
 rw[AN];have:2^k<2^62:=Nat.pow_lt_pow_right (by decide) (by omega);obtain⟨q,a⟩:∃q,q=2^k:=⟨_,rfl⟩;rw[<-a] at this⊢;unfold w4;omega
theorem ext {a b:Int} (c:w4 a) (d:w4 b) (h:∀p,has a p=has b p):a=b:=by
 obtain⟨n,rfl,f⟩:=nat_of c;obtain⟨m,rfl,e⟩:=nat_of d;have:n=m:=kh (fun i=>by have:=h i;unfold has at this;simpa using this);rw[this]
theorem has_lt {s:Int} {k:Nat} (c:0<=s) (h:s<2^k) {p:Nat} (b:has s p=true):p<k:=by
 obtain⟨n,rfl⟩:∃n:Nat,s=(n:Int):=⟨s.toNat,by omega⟩;rw[AN] at h;unfold has at b;rw[jw] at b;have d:=Nat.ge_two_pow_of_testBit b;rcases Nat.lt_or_ge p k with a|a;exact a;have:=Nat.pow_le_pow_right (n:=2) (by decide) a;omega
theorem lt_of_has {s:Int} {k:Nat} (a:w4 s) (h:∀p,has s p=true->p<k):s<2^k:=by
 obtain⟨n,rfl,b⟩:=nat_of a;rw[AN];have:n<2^k:=Nat.lt_pow_two_of_testBit n (fun i hi=>by
  cases e:n.testBit i with
  |false=>rfl
  |true=>have:=h i (by unfold has;simpa using e);omega)
 omega
theorem or_two {n p:Nat} (h:n.testBit p=false):n+2^p=n|||2^p:=by
 have f:n=2^(p+1)*(n/2^(p+1))+n%2^(p+1):=(Nat.div_add_mod _ _).symm;have c:n%2^(p+1)<2^p:=by
  have b:n%2^(p+1)<2^(p+1):=Nat.mod_lt _ (Nat.pow_pos (by decide));rcases Nat.lt_or_ge (n%2^(p+1)) (2^p) with a|a
  .exact a
  .exfalso;have:(n%2^(p+1)).testBit p=true:=Nat.testBit_of_two_pow_le_and_two_pow_add_one_gt a b;rw[Nat.testBit_mod_two_pow,h] at this;simp at this
 apply kh;intro i;rw[Nat.testBit_or,Nat.testBit_two_pow];have e:n+2^p=2^(p+1)*(n/2^(p+1))+(2^p+n%2^(p+1)):=(by omega);have g:2^p+n%2^(p+1)<2^(p+1):=zC (Nat.add_lt_add_left c _) (by rw[Nat.pow_succ];omega);rw[e,Nat.testBit_two_pow_mul_add _ g]
 conv=>rhs;rw[f,Nat.testBit_two_pow_mul_add _ (Nat.mod_lt _ (Nat.pow_pos (by decide)))]
 have e2:2^p+n%2^(p+1)=2^p*1+n%2^(p+1):=(by omega);by_cases hi:i<p+1
 .rw[jh hi,jh hi,e2,Nat.testBit_two_pow_mul_add _ c];by_cases d:i<p
  .rw[jh d,zl (by omega),Bool.or_false]
  .have:i=p:=(by omega);subst this;rw[jd d,Nat.sub_self,jH rfl,Bool.or_true];simp
 .rw[jd hi,jd hi,zl (by omega),Bool.or_false]
theorem add_two {s:Int} (b:w4 s) {p:Nat} (c:p<=61) (h:has s p=false):s+2^p=bor s (2^p):=by
 obtain⟨n,rfl,a⟩:=nat_of b;rw[AN,bor_nat (lt63 a) (pow63 (by omega))];unfold has at h;rw[jw] at h;rw[<-or_two h];omega
def size (s:Int):Int:=(((List.range 62).countP (fun p=>has s p):Nat):Int)
theorem size_zero:size 0=0:=by
 unfold size;have:(List.range 62).countP (fun p=>has 0 p)=0:=zM.2 (fun p _=>by rw[sS];simp);rw[this];rfl
theorem size_le (s:Int):0<=size s/\size s<=62:=by
 have:=List.countP_le_length (l:=List.range 62) (p:=fun p=>has s p);rw[zZ] at this;unfold size;omega
theorem has_half {s:Int} (a:w4 s) (p:Nat):has (s/2) p=has s (p+1):=by
 obtain⟨n,rfl,b⟩:=nat_of a;unfold has;have:((n:Int)/2).toNat=n/2:=(by omega);rw[this,jw,Nat.testBit_succ]
theorem size_half {s:Int} (d:w4 s):size s=s%2+size (s/2):=by
 obtain⟨n,e,i⟩:=nat_of d;have b:has (s/2) 61=false:=by
  rw[has_half d];subst e;unfold has;rw[jw];exact Nat.testBit_lt_two_pow i
 have j:(List.range 62)=0::(List.range 61).map (·+1):=by
  rw[show(62:Nat)=61+1 from rfl,List.range_succ_eq_map]
 have c:(List.range 62)=List.range 61++[61]:=(by rw[show(62:Nat)=61+1 from rfl,zi]);have f:(has s 0=true)↔s%2=1:=by
  subst e;unfold has;rw[jw,Nat.testBit_zero];simp only[jm];omega
 have g:(List.range 62).countP (fun p=>has (s/2) p)=(List.range 61).countP (fun p=>has s (p+1)):=by
  rw[c,zQ];simp only[kj,List.countP_nil,b];simp only[has_half d];simp
 unfold size;rw[g]
 conv=>lhs;rw[j]
 rw[kj,List.countP_map];have h:((fun p=>has s p)∘fun(x:Nat)=>x+1)=fun p=>has s (p+1):=rfl
 rw[h];by_cases a:has s 0=true
 .rw[jh a];have:=f.1 a;omega
 .rw[jd a];have:¬s%2=1:=fun e=>a (f.2 e);omega
end BT
namespace BT
theorem uor_nat {a b:Nat} (c:a<2^63) (d:b<2^63):uor (a:Int) (b:Int)=((a|||b:Nat):Int):=by
 unfold uor;rw[BitVec.toNat_or,ofInt_nat c,ofInt_nat d,wrapU_nat (Nat.or_lt_two_pow c d)]
theorem has_uor {a b:Int} (c:w4 a) (d:w4 b) (p:Nat):has (uor a b) p=(has a p||has b p):=by
 obtain⟨n,rfl,f⟩:=nat_of c;obtain⟨m,rfl,e⟩:=nat_of d;unfold has;rw[uor_nat (lt63 f) (lt63 e)];simp only[jw,Nat.testBit_or]
theorem uor_set {a b:Int} (e:w4 a) (f:w4 b):w4 (uor a b):=by
 obtain⟨n,rfl,d⟩:=nat_of e;obtain⟨m,rfl,c⟩:=nat_of f;rw[uor_nat (lt63 d) (lt63 c)];have:n|||m<2^62:=Nat.or_lt_two_pow d c;unfold w4;omega
theorem pred_odd (k:Nat):(2*k+1)&&&(2*k+1-1)=2*k:=by
 apply kh;intro i;rw[Nat.testBit_and,Nat.add_sub_cancel];cases i with
 |zero=>simp
 |succ i=>
  rw[Nat.testBit_succ,Nat.testBit_succ];have:(2*k+1)/2=k:=(by omega);have a:(2*k)/2=k:=(by omega);rw[this,a,Bool.and_self]
theorem pred_even (k:Nat) (_:k≠0):(2*k)&&&(2*k-1)=2*(k&&&(k-1)):=by
 apply kh;intro i;rw[Nat.testBit_and];cases i with
 |zero=>simp
 |succ i=>
  rw[Nat.testBit_succ,Nat.testBit_succ,Nat.testBit_succ];have:(2*k)/2=k:=(by omega);have a:(2*k-1)/2=k-1:=(by omega);have b:(2*(k&&&(k-1)))/2=k&&&(k-1):=(by omega);rw[this,a,b,Nat.testBit_and]
theorem size_dbl {k:Nat} (h:k<2^61):size ((2*k:Nat):Int)=size (k:Int):=by
 rw[size_half (s:=((2*k:Nat):Int)) (by unfold w4;omega)];have a:((2*k:Nat):Int)%2=0:=(by omega);have b:((2*k:Nat):Int)/2=(k:Int):=(by omega);rw[a,b];omega
theorem size_odd {k:Nat} (h:k<2^61):size ((2*k+1:Nat):Int)=1+size (k:Int):=by
 rw[size_half (s:=((2*k+1:Nat):Int)) (by unfold w4;omega)];have a:((2*k+1:Nat):Int)%2=1:=(by omega);have b:((2*k+1:Nat):Int)/2=(k:Int):=(by omega);rw[a,b]
theorem pred_nat:∀(n:Nat),n≠0->n<2^62->(n&&&(n-1))<n/\size ((n&&&(n-1):Nat):Int)+1=size (n:Int)
 |n,b,d=>by
  rcases Nat.mod_two_eq_zero_or_one n with e|e
  obtain⟨k,rfl⟩:∃k,n=2*k:=⟨n/2,by omega⟩
  have hk:k≠0:=by omega
  obtain⟨c,a⟩:=pred_nat k hk (by omega)
  rw[pred_even k hk]
  exact⟨by omega,by rw[size_dbl (by omega),size_dbl (by omega)];exact a⟩
  obtain⟨k,rfl⟩:∃k,n=2*k+1:=⟨n/2,by omega⟩
  rw[pred_odd]
  exact⟨by omega,by rw[size_dbl (by omega),size_odd (by omega)];omega⟩
termination_by n=>n
theorem pred {s:Int} (d:w4 s) (h:s≠0):w4 (yL s (s-1))/\yL s (s-1)<s/\size (yL s (s-1))+1=size s:=by
 obtain⟨n,rfl,a⟩:=nat_of d;have b:n≠0:=(by omega);have e:(n:Int)-1=((n-1:Nat):Int):=(by omega);rw[e,uand_nat (lt63 a) (by omega)];obtain⟨f,c⟩:=pred_nat n b a;exact⟨by unfold w4;omega,by omega,c⟩
end BT
namespace U
def eB {α:Type} (eq:α->α->Bool) (p:α):List α->List α
 |[]=>[]
 |y::r=>if eq y p=true then eB eq y r else y::eB eq y r
def aO {α:Type} (eq:α->α->Bool):List α->List α
 |[]=>[]
 |x::r=>x::eB eq x r
def jbU {α:Type} (eq:α->α->Bool) (l:List α) (i:Nat):Prop:=1<=i/\i<=l.length/\aO eq (l.take i)=l.take i
def nX {α:Type} (eq:α->α->Bool) (l:List α) (n:Nat):Int:=((aO eq (l.take n)).length:Int)
def OL {α:Type} (eq:α->α->Bool) (l:List α) (i k:Nat) (r:List α):Prop:=1<=k/\i+k<=l.length/\r.length=l.length/\aO eq (l.take (i+k))=r.take (aO eq (l.take (i+k))).length/\r.drop (i+k-1)=l.drop (i+k-1)/\(aO eq (l.take (i+k))).length<i+k
end U
namespace L
theorem nodup_len {α:Type}:∀(a b:List α),a.Nodup->(∀x∈a,x∈b)->a.length<=b.length
 |[],_,_,_=>by simp
 |x::a,b,hn,h=>by
  obtain⟨e,f,rfl⟩:=List.append_of_mem (h x (by simp))
  rw[zt] at hn
  have:=nodup_len a (e++f) hn.2 (fun y d=>by
   have:=h y (by simp[d])
   rw[js,jj] at this
   rw[js]
   rcases this with c|c|c
   exact .inl c
   subst c;exact absurd d hn.1
   exact .inr c)
  simp at this⊢
  omega
theorem n7 {α:Type} [DecidableEq α]:∀{a b:List α},a.Nodup->b.Nodup->(∀n,n∈a↔n∈b)->a.Perm b
 |[],b,_,_,h=>by
  have:b=[]:=by
   cases b with
   |nil=>rfl
   |cons x r=>exact absurd ((h x).2 (by simp)) (by simp)
  rw[this]
 |x::r,b,ha,hb,h=>by
  have i:x∈b:=(h x).1 (by simp);have f:=List.perm_cons_erase i;refine(List.Perm.cons x (n7 (zt.1 ha).2 (hb.erase x) (fun n=> ?_))).trans f.symm;rw[hb.mem_erase_iff];constructor;intro c;exact⟨fun e=>by subst e;exact(zt.1 ha).1 c,(h n).1 (jp _ c)⟩;rintro⟨d,c⟩;rcases jj.1 ((h n).2 c) with e|g;exact absurd e d;exact g
theorem nodup_inj {α β:Type} {f:α->β}:∀{l:List α},(l.map f).Nodup->∀{x y:α},x∈l->y∈l->f x=f y->x=y
 |[],_,_,_,h,_,_=>by simp at h
 |a::r,hn,x,y,hx,hy,e=>by
  simp only[zx,zt] at hn
  rcases jj.1 hx with rfl|c
  rcases jj.1 hy with rfl|b
  rfl
  exact absurd (jV.2 ⟨y,b,e.symm⟩) hn.1
  rcases jj.1 hy with rfl|b
  exact absurd (jV.2 ⟨x,c,e⟩) hn.1
  exact nodup_inj hn.2 c b e
theorem nth_take {α:Type} [Inhabited α] {l:List α} {i n:Nat} (h:i<n):nth (l.take n) i=nth l i:=by
 unfold nth;rw[zf,zf,jS h]
theorem nth_drop {α:Type} [Inhabited α] {l r:List α} {a n:Nat} (h:l.drop a=r.drop a) (b:a<=n):nth l n=nth r n:=by
 have e:=jG (fun x=>x[n-a]?) h;simp only[zh] at e;rw[show a+(n-a)=n by omega] at e;unfold nth;rw[zf,zf,e]
theorem nth_map {α β:Type} [Inhabited α] [Inhabited β] {f:α->β} {l:List α} {i:Nat} (h:i<l.length):nth (l.map f) i=f (nth l i):=by
 rw[wW (by simpa using h),wW h];simp
theorem ai {α:Type} [Inhabited α] {l:List α} {i j:Nat} {x:α} (h:i<l.length):nth (l.set i x) j=if i=j then x else nth l j:=by
 unfold nth;rw[zf,zf,List.getElem?_set]
 split
 rename_i e;subst e;simp[h];rfl
theorem AP {α:Type} [Inhabited α] {n i:Nat} {x:α} (h:i<n):nth (List.replicate n x) i=x:=by
 unfold nth;rw[zf,List.getElem?_replicate,jh h];rfl
theorem ext_nth {α:Type} [Inhabited α] {a b:List α} (h:a.length=b.length) (d:∀i,i<a.length->nth a i=nth b i):a=b:=by
 apply List.ext_getElem h;intro i c e;rw[<-wW c,<-wW e];exact d i c
theorem range_map_nth {α:Type} [Inhabited α] (l:List α):(List.range l.length).map (nth l)=l:=by
 apply ext_nth;simp;intro i hi;rw[nth_map (by simpa using hi)];congr 1;rw[wW (by simpa using hi)];simp
section
variable {α:Type} [Inhabited α] {eq:α->α->Bool}
theorem compT_snoc (y:α):∀(r:List α) (p:α),eB eq p (r++[y])=eB eq p r++(if eq y (nth (p::r) r.length)=true then[] else[y])
 |[],p=>rfl
 |z::r,p=>by
  have e:nth (p::z::r) (z::r).length=nth (z::r) r.length:=rfl
  rw[e]
  simp only[j6,eB]
  split
  exact compT_snoc y r z
  rw[compT_snoc y r z];rfl
theorem comp_snoc (y:α) {l:List α} (h:l≠[]):aO eq (l++[y])=aO eq l++(if eq y (nth l (l.length-1))=true then[] else[y]):=by
 cases l with
 |nil=>exact absurd rfl h
 |cons x r=>
  show x::eB eq x (r++[y])=_;rw[compT_snoc];have:(x::r).length-1=r.length:=(by simp);rw[this];rfl
theorem comp_take {l:List α} {n:Nat} (b:1<=n) (a:n<l.length):aO eq (l.take (n+1))=aO eq (l.take n)++(if eq (nth l n) (nth l (n-1))=true then[] else[nth l n]):=by
 rw[L.wd a,comp_snoc];have e:(l.take n).length-1=n-1:=(by rw[jY];omega);rw[e,nth_take (by omega)];intro e;have:=jG List.length e;rw[jY,zo] at this;omega
end
theorem comp_short {α:Type} {eq:α->α->Bool} {l:List α} (h:l.length<2):aO eq l=l:=by
 match l,h with
 |[],_=>rfl
 |[x],_=>rfl
theorem comp_len {α:Type} {eq:α->α->Bool} (l:List α):(aO eq l).length<=l.length:=by
 have:∀(r:List α) (p:α),(eB eq p r).length<=r.length:=by
  intro r
  induction r with
  |nil=>intro p;simp[eB]
  |cons y r a=>
   intro p;unfold eB
   split
   have:=a y;simp;omega;have:=a y;simp;omega
 cases l with
 |nil=>simp[aO]
 |cons x r=>have:=this r x;simp[aO];omega
theorem inv9_next {α:Type} [Inhabited α] {eq:α->α->Bool} {l r:List α} {i k:Nat} (hi:1<=i) (h:OL eq l i k r) (g:i+k<l.length):
 (eq (nth r (i+k)) (nth r (i+k-1))=false->nX eq l (i+(k+1))=nX eq l (i+k)+1/\OL eq l i (k+1) (r.set (nX eq l (i+k)).toNat (nth r (i+k))))/\
 (eq (nth r (i+k)) (nth r (i+k-1))=true->nX eq l (i+(k+1))=nX eq l (i+k)/\OL eq l i (k+1) r):=by
 obtain⟨s,t,j,d,e,p⟩:=h;have o:nth r (i+k)=nth l (i+k):=nth_drop e (by omega);have e2:nth r (i+k-1)=nth l (i+k-1):=nth_drop e (by omega);have a:=comp_take (eq:=eq) (l:=l) (n:=i+k) (by omega) g;rw[show i+k+1=i+(k+1) by omega] at a;have m:r.drop (i+k)=l.drop (i+k):=by
  have:=jG (List.drop 1) e;rw[List.drop_drop,List.drop_drop,show i+k-1+1=i+k by omega] at this;exact this
 rw[o,e2];obtain⟨c,b⟩:∃c,c=aO eq (l.take (i+k)):=⟨_,rfl⟩;rw[<-b] at a d p;have q:(nX eq l (i+k))=(c.length:Int):=(by unfold nX;rw[<-b]);rw[q];refine⟨fun f=> ?_,fun f=> ?_⟩;rw[jd (by rw[f];simp)] at a;refine⟨by unfold nX;rw[a];simp,by omega,by omega,by simpa using j,?_,?_,?_⟩;rw[a];simp only[jw,jL,j7,zo];rw[List.take_add_one,List.getElem?_set_self (by omega)];rw[List.take_set_of_le (by omega),<-d];rfl;rw[show i+(k+1)-1=i+k by omega];simp only[jw];rw[List.drop_set_of_lt (by omega)];exact m;rw[a];simp;omega;rw[jh f,j8] at a;refine⟨by unfold nX;rw[a],by omega,by omega,j,?_,?_,?_⟩;rw[a];exact d;rw[show i+(k+1)-1=i+k by omega];exact m;rw[a];omega
theorem compT_sub {α:Type} {eq:α->α->Bool}:∀(r:List α) (p x:α),x∈eB eq p r->x∈r
 |[],_,_,h=>by simp[eB] at h
 |y::r,p,x,h=>by
  unfold eB at h
  split at h
  exact jp _ (compT_sub r y x h)
  rcases jj.1 h with rfl|h
  simp
  exact jp _ (compT_sub r y x h)
theorem comp_sub {α:Type} {eq:α->α->Bool} {l:List α} {x:α} (h:x∈aO eq l):x∈l:=by
 cases l with
 |nil=>simp[aO] at h
 |cons y r=>
  unfold aO at h;rcases jj.1 h with rfl|h;simp;exact jp _ (compT_sub r y x h)
theorem compT_mem {α:Type} [DecidableEq α]:∀(r:List α) (p x:α),x∈r->x=p\/x∈eB (fun a b=>decide (a=b)) p r
 |y::r,p,x,h=>by
  unfold eB
  rcases jj.1 h with rfl|h
  by_cases e:x=p
  exact .inl e
  rw[jd (by simpa using e)];right;simp
  rcases compT_mem r y x h with rfl|c
  by_cases e:x=p
  exact .inl e
  rw[jd (by simpa using e)];right;simp
  right
  split
  exact c
  exact jp _ c
theorem comp_mem {α:Type} [DecidableEq α] {l:List α} {x:α}:x∈aO (fun a b=>decide (a=b)) l↔x∈l:=by
 refine⟨comp_sub,fun h=> ?_⟩;cases l with
 |nil=>simp at h
 |cons y r=>
  unfold aO;rcases jj.1 h with rfl|h;simp;rcases compT_mem r y x h with rfl|c;simp;exact jp _ c
theorem comp_asc {α:Type} [DecidableEq α] {lt:α->α->Bool}:∀{l:List α},q9 lt l->Q4 lt l->(aO (fun a b=>decide (a=b)) l).Pairwise (fun a b=>lt a b=true):=by
 have i:∀(r:List α) (p:α),q9 lt (p::r)->Q4 lt (p::r)->(p::eB (fun a b=>decide (a=b)) p r).Pairwise (fun a b=>lt a b=true):=by
  intro r
  induction r with
  |nil=>intro p _ _;exact List.pairwise_singleton _ _
  |cons y r n=>
   intro p f j;have d:=zB.1 j;have k:q9 lt (y::r):=f.sub (fun z c=>jp _ c);have hi:=n y k d.2;unfold eB;by_cases e:y=p;rw[jh (by simpa using e)];subst e;exact hi;rw[jd (by simpa using e)];refine zB.2 ⟨fun z c=> ?_,hi⟩;have g:lt p y=true:=by
    cases h:lt p y with
    |true=>rfl
    |false=>exact absurd (f.total p y (by simp) (by simp) h (d.1 y (by simp))).symm e
   rcases jj.1 c with rfl|c;exact g;have m:=compT_sub r y z c;exact f.trans p y z (by simp) (by simp) (by simp[m]) g ((zB.1 hi).1 z c)
 intro l f j;cases l with
 |nil=>exact List.Pairwise.nil
 |cons p r=>exact i r p f j
theorem asc_nodup {α:Type} {lt:α->α->Bool} {l:List α} (hi:∀x,lt x x=false) (h:l.Pairwise (fun a b=>lt a b=true)):l.Nodup:=
 h.imp (fun{a b} h e=>by subst e;rw[hi] at h;cases h)
theorem filter_take {α:Type} [Inhabited α] {p:α->Bool} {l:List α} {i:Nat} (h:i<l.length):(l.take (i+1)).filter p=(l.take i).filter p++(if p (nth l i)=true then[nth l i] else[]):=by
 rw[wd h,List.filter_append];congr 1;by_cases e:p (nth l i)=true<;>simp[e]
theorem ve {p:Nat->Bool} {n:Nat}:(List.range (n+1)).filter p=(List.range n).filter p++(if p n=true then[n] else[]):=by
 rw[zi,List.filter_append];congr 1;by_cases e:p n=true<;>simp[e]
end L
end Go.X
namespace Go.X
open U
abbrev tSp:Ty:= .st [.int,.int]
abbrev tPe:Ty:= .st [.slice .int,.int,.int,.slice .int,.bool,.int]
abbrev tLw:Ty:= .st [.int,.int,.bool]
abbrev tCr:Ty:= .st [.int,.slice tPe,.slice tLw]
abbrev tJb:Ty:= .st [.int,.int,.int,.int,.int,.int]
abbrev tBk:Ty:= .st [tJb,.int,.int,.int]
abbrev tSh:Ty:= .st [.int,.int,.int,.int,.int]
abbrev tDy:Ty:= .st [tCr,.slice (.slice tSp),.slice tBk,.int,.int,.slice tSh]
abbrev SpD:Type:=Int×Int×Unit
abbrev PeD:Type:=List Int×Int×Int×List Int×Bool×Int×Unit
abbrev LwD:Type:=Int×Int×Bool×Unit
abbrev CrD:Type:=Int×List PeD×List LwD×Unit
abbrev JbD:Type:=Int×Int×Int×Int×Int×Int×Unit
abbrev BkD:Type:=JbD×Int×Int×Int×Unit
abbrev ShD:Type:=Int×Int×Int×Int×Int×Unit
abbrev DyD:Type:=CrD×List (List SpD)×List BkD×Int×Int×List ShD×Unit
namespace U
def lo (s:SpD):Int:=s.1
def hi (s:SpD):Int:=s.2.1
def kl (n a b:Int):Bool:=decide (a<=n)&&decide (n<=b)
def lv (p:PeD):List Int:=p.1
def fd (p:PeD):Int:=p.2.1
def cl (p:PeD):Int:=p.2.2.1
def qo (p:PeD):List Int:=p.2.2.2.1
def jbV (p:PeD):Bool:=p.2.2.2.2.1
def fe (p:PeD):Int:=p.2.2.2.2.2.1
def Tn (l:LwD):Int:=l.1
def jbW (l:LwD):Int:=l.2.1
def jdD (l:LwD):Bool:=l.2.2.1
def la (c:CrD):Int:=c.1
def kz (c:CrD):List PeD:=c.2.1
def vZ (c:CrD):List LwD:=c.2.2.1
def Ly (j:JbD):Int:=j.1
def F6 (j:JbD):Int:=j.2.1
def Xj (j:JbD):Int:=j.2.2.1
def OM (j:JbD):Int:=j.2.2.2.1
def l8 (j:JbD):Int:=j.2.2.2.2.1
def Zg (j:JbD):Int:=j.2.2.2.2.2.1
def y7 (b:BkD):JbD:=b.1
def S9 (b:BkD):Int:=b.2.1
def wP (b:BkD):Int:=b.2.2.1
def cj (b:BkD):Int:=b.2.2.2.1
def yy (s:ShD):Int:=s.1
def DL (s:ShD):Int:=s.2.1
def W3 (s:ShD):Int:=s.2.2.1
def iV (s:ShD):Int:=s.2.2.2.1
def y9 (s:ShD):Int:=s.2.2.2.2.1
def kD (d:DyD):CrD:=d.1
def wt (d:DyD):List (List SpD):=d.2.1
def kE (d:DyD):List BkD:=d.2.2.1
def Ao (d:DyD):Int:=d.2.2.2.1
def Zh (d:DyD):Int:=d.2.2.2.2.1
def wu (d:DyD):List ShD:=d.2.2.2.2.2.1
def eC (L:Int) (p:PeD):Bool:=decide (((lv p).length:Int)=L/\0<=fd p/\fd p<=255/\0<=cl p/\cl p<=255/\(qo p).length<=10/\0<=fe p/\fe p<=1000)&&((lv p).all (fun n=>kl n 0 5)&&(qo p).all (fun n=>kl n 0 99))
def eD (l:LwD):Bool:=kl (Tn l) 1 5&&kl (jbW l) 1 8
def kG (c:CrD):Bool:=decide (2<=la c/\la c<=5/\(kz c).length<=8/\(vZ c).length=4)&&((kz c).all (eC (la c))&&(vZ c).all eD)
def ww (c:CrD) (j:JbD):Bool:=decide (0<=Ly j/\Ly j<=la c-1/\0<=F6 j/\F6 j<=la c-1/\Ly j≠F6 j/\0<=Xj j/\Xj j<=99/\0<=OM j/\OM j<=7/\0<=l8 j/\l8 j<=3/\1<=Zg j/\Zg j<=8)
def qH (c:CrD) (j:JbD):Int:=if kG c=false then 30 else if ww c j=false then 31 else 0
def sK (s:SpD):Bool:=decide (0<=lo s/\lo s<=hi s/\hi s<=300)
def bV (n:Nat) (r:List SpD):Bool:=decide (r.length=n)&&r.all sK
def l9 (n:Nat) (b:BkD):Bool:=decide (0<=S9 b/\S9 b<=(n:Int)-1/\0<=wP b/\wP b<cj b/\cj b<=1440)
def ma (nb a:Nat) (s:ShD):Bool:=decide (0<=yy s/\yy s<=99/\0<=DL s/\DL s<=9999/\1<=W3 s/\W3 s<=2/\0<=iV s/\iV s<=(nb:Int)-1/\0<=y9 s/\y9 s<=(a:Int)-1)
def wR (d:DyD):Bool:=decide ((kE d).length<=4/\1<=(wt d).length/\(wt d).length<=5/\0<=Ao d/\Ao d<=300/\0<=Zh d/\Zh d<=1440/\(wu d).length<=30)&&
 ((wt d).all (bV (wt d).length)&&((kE d).all (l9 (wt d).length)&&(wu d).all (ma (kE d).length (kz (kD d)).length)))
def Dz (a b:ShD):Bool:=decide (yy a=yy b)&& !decide (a=b)
def AK (l:List ShD) (i:Nat):Bool:=(l.take i).any (Dz (nth l i))
def gy (l:List ShD) (n:Nat):Bool:=(List.range n).any (AK l)
def aV (l:List ShD):Bool:=gy l l.length
def Ib (d:DyD):Bool:=(kE d).all (fun b=>ww (kD d) (y7 b))
def ga (d:DyD):Int:=if kG (kD d)=false then 30 else if Ib d=false then 31 else if wR d=false then 50 else if aV (wu d)=true then 51 else 0
def mb (l:List ShD) (i:Nat):Bool:= !((l.take i).any (fun x=>decide (x=nth l i)))
def bW (l:List ShD) (n m:Nat):List ShD:=((List.range n).filter (fun i=>decide (yy (nth l i)=(m:Int))&&mb l i)).map (nth l)
def qR (l:List ShD) (n:Nat):List ShD:=(List.range n).flatMap (bW l l.length)
def kw (l:List ShD):List ShD:=qR l 100
def bX (p:PeD) (a:Int):Bool:=(qo p).any (fun t=>decide (t=a))
def wy (s n:Int):Bool:=decide (iy (s/2^n.toNat) 1=1)
def wZ (c:CrD) (j:JbD) (p:Int):Bool:= !(bX (nth (kz c) p.toNat) (Xj j))&&wy (fd (nth (kz c) p.toNat)) (OM j)&&wy (cl (nth (kz c) p.toNat)) (l8 j)
def bk (d:DyD) (b:Int):BkD:=nth (kE d) b.toNat
def ON (d:DyD) (a b:Int):Int:=hi (nth (nth (wt d) (S9 (bk d a)).toNat) (S9 (bk d b)).toNat)
def y8 (d:DyD) (a b:Int):Bool:=decide (wP (bk d a)<wP (bk d b)\/(wP (bk d a)=wP (bk d b)/\a<b))
def aH (d:DyD) (a b:Int):Int:=wP (bk d b)-cj (bk d a)-Ao d-ON d a b
def wq (d:DyD) (a b:Int):Bool:=if y8 d b a=true then decide (0<=aH d b a) else decide (0<=aH d a b)
def Ic (d:DyD) (l:List Int):Int:=(l.map (fun b=>cj (bk d b)-wP (bk d b))).foldl (·+·) 0
def Z0 (d:DyD) (l:List Int):Bool:=(List.range l.length).all (fun i=>(l.take i).all (fun b=>wq d (nth l i) b))
def vL (d:DyD) (p:Int) (l:List Int):Bool:=l.all (fun b=>wZ (kD d) (y7 (bk d b)) p)&&(Z0 d l&&decide (Ic d l<=Zh d))
def qj (a b:ShD):Bool:=decide (DL b<DL a\/(DL a=DL b/\yy b<yy a))
def AL (l:List ShD) (s:ShD):Bool:=decide (W3 s=1)&& !(l.any (fun t=>decide (iV t=iV s)&&decide (y9 t=y9 s)&&qj t s))
def jbX (a b:ShD):Bool:=qj b a
def nC (t:List Int) (p:Int) (n:Nat):List Int:=((List.range n).filter (fun b=>wy (nth t b) p)).map (fun(b:Nat)=>(b:Int))
def on (t:List Int) (p:Int):List Int:=nC t p t.length
def bv (d:DyD) (x:List Int×List Int) (s:ShD):List Int×List Int:=
 if vL d (y9 s) (on x.1 (y9 s)++[iV s])=true then(x.1.set (iV s).toNat (nth x.1 (iV s).toNat+2^(y9 s).toNat),x.2) else(x.1,x.2++[yy s])
def ir (c:CrD) (t:Int) (d a b:Int):Bool:=(List.range (kz c).length).any (fun i=>wy t (i:Int)&&decide (d<=nth (lv (nth (kz c) i)) a.toNat)&&decide (d<=nth (lv (nth (kz c) i)) b.toNat))
def cv (c:CrD) (j:JbD):LwD:=nth (vZ c) (l8 j).toNat
end U
inductive Rch (J:Nat->Nat->Bool) (n s:Nat):Nat->Prop where
 |base:Rch J n s s
 |step {a b:Nat}:Rch J n s a->b<n->J a b=true->Rch J n s b
theorem Rch.lt {J:Nat->Nat->Bool} {n s t:Nat} (a:s<n) (h:Rch J n s t):t<n:=by
 cases h with
 |base=>exact a
 |step _ h _=>exact h
theorem Rch.trans {J:Nat->Nat->Bool} {n s t u:Nat} (a:Rch J n s t) (b:Rch J n t u):Rch J n s u:=by
 induction b with
 |base=>exact a
 |step _ c d e=>exact .step e c d
theorem Rch.symm {J:Nat->Nat->Bool} {n s t:Nat} (c:∀a b,J a b=J b a) (f:s<n) (h:Rch J n s t):Rch J n t s:=by
 induction h with
 |base=>exact .base
 |step d i e g=>
  rename_i a b;have:Rch J n b a:= .step .base (d.lt f) (by rw[c];exact e);exact this.trans g
theorem Rch.closed {J:Nat->Nat->Bool} {n s t:Nat} {S:Nat->Prop} (i:s<n) (c:S s) (f:∀a b,a<n->S a->b<n->J a b=true->S b) (h:Rch J n s t):S t:=by
 induction h with
 |base=>exact c
 |step d e g j=>exact f _ _ (d.lt i) j e g
namespace U
def mR (J:Nat->Nat->Bool) (r a:Nat) (out:List Int) (b:Nat):List Int:=if nth out a=(r:Int)/\nth out b<0/\J a b=true then out.set b ((r:Int)+1) else out
def vG (J:Nat->Nat->Bool) (r a:Nat) (out:List Int) (k:Nat):List Int:=(List.range k).foldl (mR J r a) out
def qZ (J:Nat->Nat->Bool) (n r:Nat) (out:List Int) (k:Nat):List Int:=(List.range k).foldl (fun o a=>vG J r a o n) out
def yi (n s:Nat):List Int:=(List.replicate n (-1:Int)).set s 0
def w6 (J:Nat->Nat->Bool) (n s k:Nat):List Int:=(List.range k).foldl (fun o r=>qZ J n r o n) (yi n s)
def sL (J:Nat->Nat->Bool) (q:Nat) (x:List Int×List Int) (b:Nat):List Int×List Int:=if nth x.1 b<0/\J q b=true then(x.1.set b (nth x.1 q+1),x.2++[(b:Int)]) else x
def sM (J:Nat->Nat->Bool) (q:Nat) (x:List Int×List Int) (k:Nat):List Int×List Int:=(List.range k).foldl (sL J q) x
def gz (J:Nat->Nat->Bool) (n:Nat) (x:List Int×List Int):List Int×List Int:=match x.2 with
 |[]=>x
 |q::_=>((sM J q.toNat x n).1,(sM J q.toNat x n).2.drop 1)
def gL (J:Nat->Nat->Bool) (n s:Nat):Nat->List Int×List Int
 |0=>(yi n s,[(s:Int)])
 |k+1=>gz J n (gL J n s k)
def jdi (J:Nat->Nat->Bool) (n s:Nat):List Int:=(gL J n s (n+1)).1
end U
theorem oO (n s:Nat):(yi n s).length=n:=by unfold yi;simp
theorem Cb {n s x:Nat} (a:s<n) (b:x<n):nth (yi n s) x=if s=x then 0 else-1:=by
 unfold yi;rw[L.ai (by simpa using a),L.AP b]
structure Tl (J:Nat->Nat->Bool) (n s r a b:Nat) (out:List Int):Prop where
 len:out.length=n
 val:∀x,x<n->nth out x= -1\/(0<=nth out x/\nth out x<=(r:Int)+1)
 top:(a=0/\b=0)->∀x,x<n->nth out x<=(r:Int)
 zero:0<=nth out s
 rch:∀x,x<n->0<=nth out x->Rch J n s x
 lev:∀x,x<n->0<nth out x->∃y,y<n/\nth out y=nth out x-1
 cls:∀x y,x<n->y<n->0<=nth out x->(nth out x<(r:Int)\/(nth out x=(r:Int)/\(x<a\/(x=a/\y<b))))->J x y=true->0<=nth out y
theorem UX {J:Nat->Nat->Bool} {n s r a b:Nat} {out:List Int} (_:s<n) (t:a<n) (u:b<n) (h:Tl J n s r a b out):Tl J n s r a (b+1) (mR J r a out b):=by
 unfold mR
 split
 rename_i q;obtain⟨c1,c2,v⟩:=q;have p:b<out.length:=(by rw[h.len];exact u);have c:∀j,nth (out.set b ((r:Int)+1)) j=if b=j then(r:Int)+1 else nth out j:=fun j=>L.ai p
 have o:b≠a:=fun e=>by subst e;omega
 refine⟨by simpa using h.len,fun x g=> ?_,fun e=>by omega,?_,fun x g f=> ?_,fun x g f=> ?_,fun x y g k f d l=> ?_⟩;rw[c];split;right;omega;exact h.val x g;rw[c];split;omega;exact h.zero;rw[c] at f
 split at f
 rename_i e;subst e;exact .step (h.rch a t (by omega)) u v;exact h.rch x g f;rw[c] at f⊢
 split at f
 rename_i e;subst e;rw[jh rfl];exact⟨a,t,by rw[c,jd o];omega⟩;rename_i e;rw[jd e];obtain⟨y,k,e2⟩:=h.lev x g f;refine⟨y,k,?_⟩;rw[c,jd (fun e=>by subst e;omega)];exact e2;rw[c] at f d⊢
 split
 omega;rename_i z
 split at f
 rename_i e;rw[jh e] at d;omega;rename_i e;rw[jd e] at d;refine h.cls x y g k f ?_ l;rcases d with d|⟨d,i|⟨i,w⟩⟩;exact .inl d;exact .inr ⟨d,.inl i⟩;exact .inr ⟨d,.inr ⟨i,by omega⟩⟩;rename_i q;refine⟨h.len,h.val,fun e=>by omega,h.zero,h.rch,h.lev,fun x y g k f d l=> ?_⟩;rcases d with d|⟨d,i|⟨i,w⟩⟩;exact h.cls x y g k f (.inl d) l;exact h.cls x y g k f (.inr ⟨d,.inl i⟩) l;by_cases e:y=b;subst e;subst i;rcases Int.lt_or_le (nth out y) 0 with m|m;exact absurd ⟨d,m,l⟩ q;exact m;exact h.cls x y g k f (.inr ⟨d,.inr ⟨i,by omega⟩⟩) l
theorem ZH {J:Nat->Nat->Bool} {n s r a:Nat} {out:List Int} (c:s<n) (b:a<n) (h:Tl J n s r a 0 out):∀k,k<=n->Tl J n s r a k (vG J r a out k)
 |0,_=>h
 |k+1,hk=>by
  have:=UX c b (show k<n by omega) (ZH c b h k (by omega))
  unfold vG at this⊢
  rw[zi,jU];exact this
theorem jaU {J:Nat->Nat->Bool} {n s r a:Nat} {out:List Int} (_:0<n) (h:Tl J n s r a n out):Tl J n s r (a+1) 0 out:=by
 refine⟨h.len,h.val,fun e=>by omega,h.zero,h.rch,h.lev,fun x y i c d b g=>h.cls x y i c d ?_ g⟩;rcases b with b|⟨b,f|⟨f,j⟩⟩;exact .inl b;by_cases e:x=a;exact .inr ⟨b,.inr ⟨e,c⟩⟩;exact .inr ⟨b,.inl (by omega)⟩;omega
theorem ZI {J:Nat->Nat->Bool} {n s r:Nat} {out:List Int} (a:s<n) (h:Tl J n s r 0 0 out):∀k,k<=n->Tl J n s r k 0 (qZ J n r out k)
 |0,_=>h
 |k+1,hk=>by
  have:=jaU (by omega) (ZH a (show k<n by omega) (ZI a h k (by omega)) n (jk _))
  unfold qZ at this⊢
  rw[zi,jU];exact this
theorem jaV {J:Nat->Nat->Bool} {n s r:Nat} {out:List Int} (h:Tl J n s r n 0 out):Tl J n s (r+1) 0 0 out:=by
 refine⟨h.len,fun x a=> ?_,fun _ x a=> ?_,h.zero,h.rch,h.lev,fun x y a i d b g=>h.cls x y a i d ?_ g⟩;rcases h.val x a with e|⟨c,e2⟩;exact .inl e;exact .inr ⟨c,by omega⟩;rcases h.val x a with e|⟨c,e2⟩<;>omega
 rcases b with b|⟨b,f|⟨f,j⟩⟩;by_cases e:nth out x=(r:Int);exact .inr ⟨e,.inl a⟩;exact .inl (by omega);omega;omega
theorem ZJ {J:Nat->Nat->Bool} {n s:Nat} (c:s<n):∀k,Tl J n s k 0 0 (w6 J n s k)
 |0=>by
  have hi:∀x,x<n->nth (w6 J n s 0) x=if s=x then 0 else-1:=fun x a=>Cb c a
  refine⟨oO n s,fun x a=> ?_,fun _ x a=> ?_,by rw[hi s c,jh rfl];omega,fun x a b=> ?_,fun x a b=> ?_,fun x y a g b f d=> ?_⟩
  rw[hi x a];split<;>simp
  rw[hi x a];split<;>simp
  rw[hi x a] at b
  split at b
  rename_i e;subst e;exact .base
  omega
  rw[hi x a] at b;split at b<;>omega
  omega
 |k+1=>by
  have:=jaV (ZI c (ZJ (J:=J) c k) n (jk _))
  unfold w6 at this⊢
  rw[zi,jU];exact this
theorem UY {J:Nat->Nat->Bool} {n s r a b:Nat} {out:List Int} (h:Tl J n s r a b out):∀(k:Nat) x,x<n->nth out x=(k:Int)->∀j,j<=k->∃y,y<n/\nth out y=(j:Int)
 |0,x,c,e,j,d=>⟨x,c,by rw[e];omega⟩
 |k+1,x,c,e,j,d=>by
  by_cases f:j=k+1
  exact⟨x,c,by rw[e];omega⟩
  obtain⟨y,g,e2⟩:=h.lev x c (by omega)
  exact UY h k y g (by rw[e2];omega) j (by omega)
theorem jcG {J:Nat->Nat->Bool} {n s x:Nat} (o:s<n) (u:x<n):nth (w6 J n s n) x<0↔¬Rch J n s x:=by
 have h:=ZJ (J:=J) o n;have i:∀y,y<n->nth (w6 J n s n) y<(n:Int):=by
  intro y p;have c:=h.top ⟨rfl,rfl⟩ y p;rcases Int.lt_or_le (nth (w6 J n s n) y) (n:Int) with l|l;exact l;exfalso;have e:nth (w6 J n s n) y=(n:Int):=(by omega);have d:=UY h n y p e;have:=L.nodup_len ((List.range (n+1)).map (fun(j:Nat)=>(j:Int))) (w6 J n s n) (List.Pairwise.map _ (fun a b f=>by intro e2;exact f (by omega)) List.nodup_range) (fun z v=>by
   obtain⟨j,g,rfl⟩:=jV.1 v;obtain⟨w,t,q⟩:=d j (by have:=jA.1 g;omega);rw[<-q];exact L.kB (by rw[h.len];exact t))
  rw[h.len] at this;simp at this;omega
 constructor;intro A k;have:=k.closed (S:=fun y=>0<=nth (w6 J n s n) y) o h.zero (fun a b m c r g=>h.cls a b m r c (.inl (i a m)) g);have this:0<=nth (w6 J n s n) x:=this;omega;intro k;rcases Int.lt_or_le (nth (w6 J n s n) x) 0 with c|c;exact c;exact absurd (h.rch x u c) k
def Jh (out:List Int):Nat:=out.countP (fun z=>decide (z<0))
theorem GY:∀{out:List Int} {b:Nat} {v:Int},b<out.length->nth out b<0->0<=v->Jh (out.set b v)+1=Jh out
 |[],b,v,h,_,_=>by simp at h
 |z::r,0,v,_,a,h2=>by
  have a:z<0:=a
  unfold Jh
  rw[List.set_cons_zero,kj,kj,jd (by simpa using h2),jh (by simpa using a)]
 |z::r,b+1,v,h,a,h2=>by
  have:=GY (out:=r) (b:=b) (v:=v) (by simpa using h) a h2
  unfold Jh at this⊢
  rw[List.set_cons_succ,kj,kj]
  omega
structure jdT (J:Nat->Nat->Bool) (n s:Nat) (ex:Nat->Nat->Prop) (x:List Int×List Int):Prop where
 len:x.1.length=n
 low:∀y,y<n->-1<=nth x.1 y/\nth x.1 y<=(n:Int)*2
 zero:0<=nth x.1 s
 rch:∀y,y<n->0<=nth x.1 y->Rch J n s y
 que:∀q,q∈x.2->0<=q/\q<(n:Int)/\0<=nth x.1 q.toNat
 cls:∀y z,y<n->z<n->0<=nth x.1 y->(y:Int)∉x.2\/ex y z->J y z=true->0<=nth x.1 z
def MB (n:Nat) (x:List Int×List Int):Prop:=∀y,y<n->nth x.1 y+(Jh x.1:Int)<=(n:Int)-1
theorem FN (J:Nat->Nat->Bool) (q:Nat) (x:List Int×List Int) (k:Nat):sM J q x (k+1)=sL J q (sM J q x k) k:=by
 unfold sM;rw[zi,jU];rfl
structure InI (J:Nat->Nat->Bool) (n s q k:Nat) (x0 x:List Int×List Int):Prop where
 i:jdT J n s (fun y z=>y=q/\z<k) x
 le:MB n x
 mu:Jh x.1+x.2.length=Jh x0.1+x0.2.length
 pre:∃l,x.2=x0.2++l
 keep:∀y,y<n->0<=nth x0.1 y->nth x.1 y=nth x0.1 y
theorem jaW {J:Nat->Nat->Bool} {n s q k:Nat} {x0 x:List Int×List Int} (M:s<n) (p:q<n) (w:0<=nth x0.1 q) (hk:k<n) (h:InI J n s q k x0 x):InI J n s q (k+1) x0 (sL J q x k):=by
 have G:nth x.1 q=nth x0.1 q:=h.keep q p w;unfold sL
 split
 rename_i t;obtain⟨c1,c2⟩:=t;have m:k<x.1.length:=(by rw[h.i.len];exact hk);have b:∀j,nth (x.1.set k (nth x.1 q+1)) j=if k=j then nth x.1 q+1 else nth x.1 j:=fun j=>L.ai m
 have E:=GY (v:=nth x.1 q+1) m c1 (by omega);have F:=h.le q p;have u:k≠q:=fun e=>by subst e;omega
 obtain⟨l,C⟩:=h.pre;refine⟨⟨by simpa using h.i.len,fun y d=> ?_,?_,fun y d c=> ?_,fun z f=> ?_,fun y z d f c a g=> ?_⟩,fun y d=> ?_,?_,⟨l++[(k:Int)],by simp only[C,jM]⟩,fun y d c=> ?_⟩;simp only;rw[b];split;have:=h.i.low q p;omega;exact h.i.low y d;simp only;rw[b];split;omega;exact h.i.zero;simp only at c⊢;rw[b] at c
 split at c
 rename_i e;subst e;exact .step (h.i.rch q p (by omega)) hk c2;exact h.i.rch y d c;simp only at f⊢;rcases js.1 f with f|f;obtain⟨H,I,K⟩:=h.i.que z f;refine⟨H,I,?_⟩;rw[b];split;omega;exact K;simp at f;subst f;refine⟨by omega,by omega,?_⟩;rw[jw,b,jh rfl];omega;simp only at c a⊢;rw[b] at c⊢
 split
 omega;rename_i B;by_cases e:k=y;subst e;rcases a with a|⟨a,_⟩;exact absurd (je _ (by simp)) a;exact absurd a u;rw[jd e] at c;refine h.i.cls y z d f c ?_ g;rcases a with a|⟨o,A⟩;exact .inl (fun D=>a (jg _ D));exact .inr ⟨o,by omega⟩;simp only;rw[b];split;omega;have:=h.le y d;omega;have:=h.mu;simp only[jL,j7,zo];omega;have:=h.keep y d c;simp only;rw[b,jd (fun e=>by subst e;omega)];exact this;rename_i t;refine⟨⟨h.i.len,h.i.low,h.i.zero,h.i.rch,h.i.que,fun y z d f c a g=> ?_⟩,h.le,h.mu,h.pre,h.keep⟩;rcases a with a|⟨o,A⟩;exact h.i.cls y z d f c (.inl a) g;by_cases e:z=k;subst e;subst o;rcases Int.lt_or_le (nth x.1 z) 0 with r|r;exact absurd ⟨r,g⟩ t;exact r;exact h.i.cls y z d f c (.inr ⟨o,by omega⟩) g
theorem UZ {J:Nat->Nat->Bool} {n s q:Nat} {x:List Int×List Int} (e:s<n) (d:q<n) (b:0<=nth x.1 q) (hi:jdT J n s (fun _ _=>False) x) (a:MB n x):∀k,k<=n->InI J n s q k x (sM J q x k)
 |0,_=>⟨⟨hi.len,hi.low,hi.zero,hi.rch,hi.que,fun y z i j f c g=>hi.cls y z i j f (by rcases c with h|⟨_,h⟩;exact .inl h;omega) g⟩,a,rfl,⟨[],by simp[sM]⟩,fun _ _ _=>rfl⟩
 |k+1,hk=>by rw[FN];exact jaW e d b (by omega) (UZ e d b hi a k (by omega))
structure jca (J:Nat->Nat->Bool) (n s:Nat) (x:List Int×List Int):Prop where
 i:jdT J n s (fun _ _=>False) x
 le:MB n x
theorem X4 {J:Nat->Nat->Bool} {n s:Nat} {x:List Int×List Int} (k:s<n) (h:jca J n s x):jca J n s (gz J n x)/\(x.2≠[]->Jh (gz J n x).1+(gz J n x).2.length+1=Jh x.1+x.2.length):=by
 obtain⟨st,o⟩:=x;cases o with
 |nil=>exact⟨h,fun h=>absurd rfl h⟩
 |cons q r=>
  obtain⟨p,t,m⟩:=h.i.que q (by simp);have hi:=UZ k (q:=q.toNat) (by omega) m h.i h.le n (jk _);obtain⟨l,d⟩:=hi.pre;have e2:(gz J n (st,q::r))=((sM J q.toNat (st,q::r) n).1,r++l):=by
   show((sM J q.toNat (st,q::r) n).1,(sM J q.toNat (st,q::r) n).2.drop 1)=_;rw[d];rfl
  rw[e2];have b:=hi.mu;rw[d] at b;refine⟨⟨⟨hi.i.len,hi.i.low,hi.i.zero,hi.i.rch,fun z c=>hi.i.que z (by rw[d];simp only at c⊢;exact jp _ c),fun y z j c f a g=> ?_⟩,hi.le⟩,fun _=> ?_⟩;rcases a with a|a;by_cases e:y=q.toNat;exact hi.i.cls y z j c f (.inr ⟨e,c⟩) g;refine hi.i.cls y z j c f (.inl ?_) g;rw[d];intro b;rcases jj.1 b with e2|b;omega;exact a b;exact a.elim;simp only[j6,j7] at b⊢;omega
theorem PJ {J:Nat->Nat->Bool} {n s:Nat} (f:s<n):jca J n s (gL J n s 0)/\Jh (gL J n s 0).1+(gL J n s 0).2.length=n:=by
 have hi:∀x,x<n->nth (yi n s) x=if s=x then 0 else-1:=fun x i=>Cb f i
 have h:Jh (yi n s)+1=n:=by
  have:=GY (out:=List.replicate n (-1:Int)) (b:=s) (v:=0) (by simpa using f) (by rw[L.AP f];decide) (by decide);unfold yi;rw[this];unfold Jh;rw[List.countP_replicate];simp
 refine⟨⟨⟨oO n s,fun y d=> ?_,?_,fun y d c=> ?_,fun q g=> ?_,fun y z d k c a j=> ?_⟩,fun y d=> ?_⟩,?_⟩;show-1<=nth (yi n s) y/\_;rw[show nth (gL J n s 0).1 y=_ from hi y d,hi y d];split<;>omega
 show 0<=nth (yi n s) s;rw[hi s f,jh rfl];omega;have c:0<=nth (yi n s) y:=c;rw[hi y d] at c
 split at c
 rename_i e;subst e;exact .base;omega;have g:q∈[(s:Int)]:=g;simp at g;subst g;refine⟨by omega,by omega,?_⟩;show 0<=nth (yi n s) (s:Int).toNat;rw[jw,hi s f,jh rfl];omega;have c:0<=nth (yi n s) y:=c;rw[hi y d] at c
 split at c
 rename_i e;subst e;rcases a with a|a;exact absurd (show(s:Int)∈[(s:Int)] by simp) a;exact a.elim;omega;show nth (yi n s) y+(Jh (yi n s):Int)<=(n:Int)-1;rw[hi y d];split<;>omega
 show Jh (yi n s)+1=n;exact h
theorem Cc {J:Nat->Nat->Bool} {n s:Nat} (b:s<n):∀k,jca J n s (gL J n s k)/\((gL J n s k).2=[]\/Jh (gL J n s k).1+(gL J n s k).2.length+k=n)
 |0=>⟨(PJ b).1,.inr (PJ b).2⟩
 |k+1=>by
  obtain⟨d,a⟩:=Cc b k
  obtain⟨f,g⟩:=X4 b d
  refine⟨f,?_⟩
  by_cases e:(gL J n s k).2=[]
  left
  show(gz J n (gL J n s k)).2=[]
  unfold gz
  split
  exact e
  rename_i c;rw[e] at c;cases c
  right
  have:=g e
  rcases a with a|a
  exact absurd a e
  show Jh (gz J n (gL J n s k)).1+(gz J n (gL J n s k)).2.length+(k+1)=n
  omega
theorem jaX {J:Nat->Nat->Bool} {n s:Nat} (a:s<n):(gL J n s (n+1)).2=[]:=by
 rcases(Cc (J:=J) a (n+1)).2 with h|h;exact h;omega
theorem X5 {J:Nat->Nat->Bool} {n s k:Nat} (h:(gL J n s k).2=[]):∀m,k<=m->gL J n s m=gL J n s k:=by
 intro m c
 induction m with
 |zero=>have:k=0:=by omega
        subst this;rfl
 |succ m b=>
  by_cases e:k=m+1;rw[e];have e2:=b (by omega);show gz J n (gL J n s m)=_;rw[e2];unfold gz
  split
  rfl;rename_i a;rw[h] at a;cases a
theorem jcH {J:Nat->Nat->Bool} {n s x:Nat} (e:s<n) (l:x<n):nth (jdi J n s) x<0↔¬Rch J n s x:=by
 have h:=(Cc (J:=J) e (n+1)).1;have j:=jaX (J:=J) e;constructor;intro m d;have:=d.closed (S:=fun y=>0<=nth (jdi J n s) y) e h.i.zero (fun a b f c g k=>h.i.cls a b f g c (.inl (by rw[j];simp)) k);have this:0<=nth (jdi J n s) x:=this;omega;intro d;rcases Int.lt_or_le (nth (jdi J n s) x) 0 with c|c;exact c;exact absurd (h.i.rch x l c) d
theorem jaY {J:Nat->Nat->Bool} {n a b:Nat} (e:∀x y,J x y=J y x) (c:a<n) (d:b<n):nth (w6 J n a n) b<0↔nth (jdi J n b) a<0:=by
 rw[jcG c d,jcH d c];exact not_congr ⟨fun h=>h.symm e c,fun h=>h.symm e d⟩
namespace U
def yz {α:Type} (p:α->Bool) (l:List α):Int:=match l.findIdx? p with|some i=>(i:Int)|none=> -1
def ko {α:Type} (F:α×Unit->Bool×Unit) (g:α):Bool:=(F (g,())).1
end U
def gfb (t:Ty) (σ:St) (s:Nat):(Ty.st [t]).Data->(Ty.st [.bool]).Data:=gfn [t] [.bool] σ s
theorem qY:∀(l:List Prop) {k:Prop},kK l->k->asks l k
 |[],_,_,hk=>hk
 |_::r,_,h,hk=>⟨h.1,qY r h.2 hk⟩
theorem ya {α:Type} [Inhabited α] {l:List α} {p:α->Bool} {i:Nat} (h:i<l.length) (a:∀b:Nat,b<i->p (nth l b)=false) (c:p (nth l i)=true):yz p l=i:=by
 have:l.findIdx? p=some i:=by
  rw[z8];refine⟨h,by rw[<-L.wW h];exact c,fun j d=> ?_⟩;have:=a j d;rw[L.wW (by omega)] at this;simp[this]
 unfold yz;rw[this]
theorem qI {α:Type} [Inhabited α] {l:List α} {p:α->Bool} {i:Nat} (h:l.length<=i) (a:∀b:Nat,b<i->p (nth l b)=false):yz p l= -1:=by
 have:l.findIdx? p=none:=by
  rw[List.findIdx?_eq_none_iff];intro x c;obtain⟨k,hk,rfl⟩:=L.mem_iff.1 c;exact a k (by omega)
 unfold yz;rw[this]
theorem fF {α:Type} (p:α->Bool) (l:List α):decide (0<=yz p l)=l.any p:=by
 rw[j0];unfold yz;simp only[jm]
 split
 rename_i i e;rw[z8] at e;obtain⟨h,a,_⟩:=e;exact⟨fun _=>j9.2 ⟨_,List.getElem_mem h,a⟩,fun _=>by omega⟩;rename_i e;rw[List.findIdx?_eq_none_iff] at e;refine⟨fun h=>by omega,fun h=> ?_⟩;obtain⟨x,b,a⟩:=j9.1 h;have:=e x b;exact absurd (a.symm.trans this) (by simp)
theorem rL {α:Type} (F:α×Unit->Bool×Unit) (l:List α):(!l.any (ko fun(x:α×Unit)=>(!ko F x.fst,())))=l.all (ko F):=by
 induction l with
 |nil=>rfl
 |cons a r b=>
  simp only[List.any_cons,List.all_cons,Bool.not_or,b];have:(!ko (fun(x:α×Unit)=>(!ko F x.fst,())) a)=ko F a:=by
   show(!(!ko F a))=_;rw[Bool.not_not]
  rw[this]
open Go.Proofs
namespace U
def sN (s n:Int):Bool:=decide (yL (s/2^n.toNat) 1=1)
def jcc (b:Bool):Int:=if b=true then 1 else 0
def Lh (c:CrD) (f g:Int->Bool) (p:PeD):Bool:=((((((decide (((lv p).length:Int)=la c)&&(lv p).all f)&&kl (fd p) 0 255)&&kl (cl p) 0 255)&&decide (((qo p).length:Int)<=10))&&(qo p).all g)&&kl (fe p) 0 1000)
end U
def MC:we:=⟨[.val .int,.val .int,.val .int],[.bool],false,fun _=>[],fun d=>(kl d.1 d.2.1 d.2.2.1,())⟩
def MD:Prop:=∀(d:Int×Int×Int×Unit),(decide (d.2.1<=d.1)&&decide (d.1<=d.2.2.1),())=(kl d.1 d.2.1 d.2.2.1,())
def lC:we:=⟨[.val (.uint .u64),.val .int],[.bool],false,fun d=>[0<=d.2.1,d.2.1<=64],fun d=>(sN d.1 d.2.1,())⟩
def Ji:Prop:=∀(d:Int×Int×Unit),0<=d.2.1->d.2.1<=64->0<=d.2.1/\d.2.1<=64/\(decide (yL (d.1/(2:Int)^d.2.1.toNat) (1:Int)=1),())=(sN d.1 d.2.1,())
def yH:we:=⟨[.val (.uint .u64)],[.int],false,fun d=>[BT.w4 d.1],fun d=>(BT.size d.1,())⟩
def GZ:Ann:=fun r=>match r with
 |1=>some fun σ=>{X:=Int×Int,sl:=fun x=>[(0,.dat (.uint .u64) x.1),(2,.dat .int x.2)],ob:=fun _=>[],inv:=fun x=>BT.w4 x.1/\x.2+BT.size x.1=BT.size (gd (.uint .u64) σ 0),mu:=fun x=>x.1.toNat}
 |_=>none
def G0:Prop:=∀(d:Int×Unit),BT.w4 d.1->(∃(x:Int×Int),((d.1=x.1/\0=x.2/\True)/\True)/\BT.w4 x.1/\x.2+BT.size x.1=BT.size d.1)/\∀(x:Int×Int),BT.w4 x.1/\x.2+BT.size x.1=BT.size d.1->(decide (x.1≠0)=true->kH (x.2+1)/\0<=x.1-1/\x.1-1<=18446744073709551615/\∃(a:Int×Int),((yL x.1 (x.1-1)=a.1/\x.2+1=a.2/\True)/\True)/\(BT.w4 a.1/\a.2+BT.size a.1=BT.size d.1)/\a.1.toNat<x.1.toNat)/\(decide (x.1≠0)=false->(x.2,())=(BT.size d.1,()))
def Q5:we:=⟨[.val .bool],[.int],false,fun _=>[],fun d=>(jcc d.1,())⟩
def Q6:Prop:=∀(d:Bool×Unit),(d.1=true->((1:Int),())=(jcc d.1,()))/\(d.1=false->((0:Int),())=(jcc d.1,()))
def oP:we:=⟨[.val (.slice .int),.fn [.int] [.bool]],[.int],false,fun d=>[∀g∈d.1,kK (d.2.1.pre (g,()))],fun d=>(yz (ko (α:=Int) d.2.1.F) d.1,())⟩
def oQ:Ann:=fun r=>match r with
 |2=>some fun σ=>{X:=Nat,sl:=fun i=>[(8,.dat .int (i:Int))],ob:=fun _=>[],inv:=fun i=>i<=(gd (.slice .int) σ 0).length/\∀b:Nat,b<i->ko (gfb .int σ 1) (nth (gd (.slice .int) σ 0) b)=false,mu:=fun i=>(gd (.slice .int) σ 0).length-i}
 |_=>none
def oR:Prop:=∀(d:List Int×FnD [Ty.int] [Ty.bool]×Unit),(∀(g:Int),g∈d.1->kK (d.2.1.1 (g,())))->d.1.length<4611686018427387904->(∃(x:Nat),((0=(x:Int)/\True)/\True)/\x<=d.1.length/\∀(b:Nat),b<x->ko d.2.1.2 (nth d.1 b)=false)/\∀(x:Nat),(x<=d.1.length/\∀(b:Nat),b<x->ko d.2.1.2 (nth d.1 b)=false)->(decide ((x:Int)<d.1.length)=true->0<=(x:Int)/\(x:Int)<d.1.length/\asks (d.2.1.1 (nth d.1 (x:Int).toNat,())) (((d.2.1.2 (nth d.1 (x:Int).toNat,())).1=true->((x:Int),())=(yz (ko d.2.1.2) d.1,()))/\((d.2.1.2 (nth d.1 (x:Int).toNat,())).1=false->kH ((x:Int)+1)/\∃(a:Nat),(((x:Int)+1=(a:Int)/\True)/\True)/\(a<=d.1.length/\∀(b:Nat),b<a->ko d.2.1.2 (nth d.1 b)=false)/\d.1.length-a<d.1.length-x)))/\(decide ((x:Int)<d.1.length)=false->((-1:Int),())=(yz (ko d.2.1.2) d.1,()))
def iz:we:=⟨[.val (.slice .int),.fn [.int] [.bool]],[.bool],false,fun d=>[∀g∈d.1,kK (d.2.1.pre (g,()))],fun d=>(d.1.any (ko (α:=Int) d.2.1.F),())⟩
def iA:Prop:=∀(d:List Int×FnD [Ty.int] [Ty.bool]×Unit),(∀(g:Int),g∈d.1->kK (d.2.1.1 (g,())))->(∀(g:Int),g∈d.1->kK (d.2.1.1 (g,())))/\(decide (0<=yz (ko d.2.1.2) d.1),())=(d.1.any (ko d.2.1.2),())
def oS:we:=⟨[.val (.slice tLw),.fn [tLw] [.bool]],[.int],false,fun d=>[∀g∈d.1,kK (d.2.1.pre (g,()))],fun d=>(yz (ko (α:=LwD) d.2.1.F) d.1,())⟩
def oT:Ann:=fun r=>match r with
 |2=>some fun σ=>{X:=Nat,sl:=fun i=>[(8,.dat .int (i:Int))],ob:=fun _=>[],inv:=fun i=>i<=(gd (.slice tLw) σ 0).length/\∀b:Nat,b<i->ko (gfb tLw σ 1) (nth (gd (.slice tLw) σ 0) b)=false,mu:=fun i=>(gd (.slice tLw) σ 0).length-i}
 |_=>none
def oU:Prop:=∀(d:List LwD×FnD [tLw] [Ty.bool]×Unit),(∀(g:LwD),g∈d.1->kK (d.2.1.1 (g,())))->d.1.length<4611686018427387904->(∃(x:Nat),((0=(x:Int)/\True)/\True)/\x<=d.1.length/\∀(b:Nat),b<x->ko d.2.1.2 (nth d.1 b)=false)/\∀(x:Nat),(x<=d.1.length/\∀(b:Nat),b<x->ko d.2.1.2 (nth d.1 b)=false)->(decide ((x:Int)<d.1.length)=true->0<=(x:Int)/\(x:Int)<d.1.length/\asks (d.2.1.1 (nth d.1 (x:Int).toNat,())) (((d.2.1.2 (nth d.1 (x:Int).toNat,())).1=true->((x:Int),())=(yz (ko d.2.1.2) d.1,()))/\((d.2.1.2 (nth d.1 (x:Int).toNat,())).1=false->kH ((x:Int)+1)/\∃(a:Nat),(((x:Int)+1=(a:Int)/\True)/\True)/\(a<=d.1.length/\∀(b:Nat),b<a->ko d.2.1.2 (nth d.1 b)=false)/\d.1.length-a<d.1.length-x)))/\(decide ((x:Int)<d.1.length)=false->((-1:Int),())=(yz (ko d.2.1.2) d.1,()))
def iB:we:=⟨[.val (.slice tLw),.fn [tLw] [.bool]],[.bool],false,fun d=>[∀g∈d.1,kK (d.2.1.pre (g,()))],fun d=>(d.1.any (ko (α:=LwD) d.2.1.F),())⟩
def iC:Prop:=∀(d:List LwD×FnD [tLw] [Ty.bool]×Unit),(∀(g:LwD),g∈d.1->kK (d.2.1.1 (g,())))->(∀(g:LwD),g∈d.1->kK (d.2.1.1 (g,())))/\(decide (0<=yz (ko d.2.1.2) d.1),())=(d.1.any (ko d.2.1.2),())
def iD:we:=⟨[.val (.slice tPe),.fn [tPe] [.bool]],[.int],false,fun d=>[∀g∈d.1,kK (d.2.1.pre (g,()))],fun d=>(yz (ko (α:=PeD) d.2.1.F) d.1,())⟩
def iF:Ann:=fun r=>match r with
 |2=>some fun σ=>{X:=Nat,sl:=fun i=>[(8,.dat .int (i:Int))],ob:=fun _=>[],inv:=fun i=>i<=(gd (.slice tPe) σ 0).length/\∀b:Nat,b<i->ko (gfb tPe σ 1) (nth (gd (.slice tPe) σ 0) b)=false,mu:=fun i=>(gd (.slice tPe) σ 0).length-i}
 |_=>none
def iG:Prop:=∀(d:List PeD×FnD [tPe] [Ty.bool]×Unit),(∀(g:PeD),g∈d.1->kK (d.2.1.1 (g,())))->d.1.length<4611686018427387904->(∃(x:Nat),((0=(x:Int)/\True)/\True)/\x<=d.1.length/\∀(b:Nat),b<x->ko d.2.1.2 (nth d.1 b)=false)/\∀(x:Nat),(x<=d.1.length/\∀(b:Nat),b<x->ko d.2.1.2 (nth d.1 b)=false)->(decide ((x:Int)<d.1.length)=true->0<=(x:Int)/\(x:Int)<d.1.length/\asks (d.2.1.1 (nth d.1 (x:Int).toNat,())) (((d.2.1.2 (nth d.1 (x:Int).toNat,())).1=true->((x:Int),())=(yz (ko d.2.1.2) d.1,()))/\((d.2.1.2 (nth d.1 (x:Int).toNat,())).1=false->kH ((x:Int)+1)/\∃(a:Nat),(((x:Int)+1=(a:Int)/\True)/\True)/\(a<=d.1.length/\∀(b:Nat),b<a->ko d.2.1.2 (nth d.1 b)=false)/\d.1.length-a<d.1.length-x)))/\(decide ((x:Int)<d.1.length)=false->((-1:Int),())=(yz (ko d.2.1.2) d.1,()))
def cX:we:=⟨[.val (.slice tPe),.fn [tPe] [.bool]],[.bool],false,fun d=>[∀g∈d.1,kK (d.2.1.pre (g,()))],fun d=>(d.1.any (ko (α:=PeD) d.2.1.F),())⟩
def cY:Prop:=∀(d:List PeD×FnD [tPe] [Ty.bool]×Unit),(∀(g:PeD),g∈d.1->kK (d.2.1.1 (g,())))->(∀(g:PeD),g∈d.1->kK (d.2.1.1 (g,())))/\(decide (0<=yz (ko d.2.1.2) d.1),())=(d.1.any (ko d.2.1.2),())
def xg:we:=⟨[.val .int,.rfn [.int] [.bool]],[.bool],false,fun d=>[kK (d.2.1.pre (d.1,()))],fun d=>(!(ko (α:=Int) d.2.1.F d.1),())⟩
def xh:Prop:=∀(d:Int×FnD [Ty.int] [Ty.bool]×Unit),kK (d.2.1.1 (d.1,()))->asks (d.2.1.1 (d.1,())) ((!(d.2.1.2 (d.1,())).1,())=(!ko d.2.1.2 d.1,()))
def D0:we:=⟨[.val (.slice .int),.fn [.int] [.bool]],[.bool],false,fun d=>[∀g∈d.1,kK (d.2.1.pre (g,()))],fun d=>(d.1.all (ko (α:=Int) d.2.1.F),())⟩
def D1:Prop:=∀(d:List Int×FnD [Ty.int] [Ty.bool]×Unit),(∀(g:Int),g∈d.1->kK (d.2.1.1 (g,())))->(∀(g:Int),g∈d.1->kK [kK (d.2.1.1 (g,()))])/\(!d.1.any (ko fun(a:Int×Unit)=>(!ko d.2.1.2 a.1,())),())=(d.1.all (ko d.2.1.2),())
def xi:we:=⟨[.val tLw,.rfn [tLw] [.bool]],[.bool],false,fun d=>[kK (d.2.1.pre (d.1,()))],fun d=>(!(ko (α:=LwD) d.2.1.F d.1),())⟩
def xj:Prop:=∀(d:LwD×FnD [tLw] [Ty.bool]×Unit),kK (d.2.1.1 (d.1,()))->asks (d.2.1.1 (d.1,())) ((!(d.2.1.2 (d.1,())).1,())=(!ko d.2.1.2 d.1,()))
def D2:we:=⟨[.val (.slice tLw),.fn [tLw] [.bool]],[.bool],false,fun d=>[∀g∈d.1,kK (d.2.1.pre (g,()))],fun d=>(d.1.all (ko (α:=LwD) d.2.1.F),())⟩
def D3:Prop:=∀(d:List LwD×FnD [tLw] [Ty.bool]×Unit),(∀(g:LwD),g∈d.1->kK (d.2.1.1 (g,())))->(∀(g:LwD),g∈d.1->kK [kK (d.2.1.1 (g,()))])/\(!d.1.any (ko fun(a:LwD×Unit)=>(!ko d.2.1.2 a.1,())),())=(d.1.all (ko d.2.1.2),())
def oV:we:=⟨[.val tPe,.rfn [tPe] [.bool]],[.bool],false,fun d=>[kK (d.2.1.pre (d.1,()))],fun d=>(!(ko (α:=PeD) d.2.1.F d.1),())⟩
def oW:Prop:=∀(d:PeD×FnD [tPe] [Ty.bool]×Unit),kK (d.2.1.1 (d.1,()))->asks (d.2.1.1 (d.1,())) ((!(d.2.1.2 (d.1,())).1,())=(!ko d.2.1.2 d.1,()))
def tw:we:=⟨[.val (.slice tPe),.fn [tPe] [.bool]],[.bool],false,fun d=>[∀g∈d.1,kK (d.2.1.pre (g,()))],fun d=>(d.1.all (ko (α:=PeD) d.2.1.F),())⟩
def tz:Prop:=∀(d:List PeD×FnD [tPe] [Ty.bool]×Unit),(∀(g:PeD),g∈d.1->kK (d.2.1.1 (g,())))->(∀(g:PeD),g∈d.1->kK [kK (d.2.1.1 (g,()))])/\(!d.1.any (ko fun(a:PeD×Unit)=>(!ko d.2.1.2 a.1,())),())=(d.1.all (ko d.2.1.2),())
def Jj:we:=⟨[.val .int],[.bool],false,fun _=>[],fun d=>(kl d.1 0 5,())⟩
def Jk:Prop:=∀(d:Int×Unit),(kl d.1 (0:Int) (5:Int),())=(kl d.1 (0:Int) (5:Int),())
def Jl:we:=⟨[.val .int],[.bool],false,fun _=>[],fun d=>(kl d.1 0 99,())⟩
def Jm:Prop:=∀(d:Int×Unit),(kl d.1 (0:Int) (99:Int),())=(kl d.1 (0:Int) (99:Int),())
def Jn:we:=⟨[.val tPe,.ref tCr,.rfn [.int] [.bool],.rfn [.int] [.bool]],[.bool],false,fun d=>[∀g∈U.lv d.1,kK (d.2.2.1.pre (g,())),∀g∈qo d.1,kK (d.2.2.2.1.pre (g,()))],fun d=>(Lh d.2.1 (ko d.2.2.1.F) (ko d.2.2.2.1.F) d.1,())⟩
def Jo:Prop:=∀(d:PeD×CrD×FnD [Ty.int] [Ty.bool]×FnD [Ty.int] [Ty.bool]×Unit),(∀(g:Int),g∈U.lv d.1->kK (d.2.2.1.1 (g,())))->(∀(g:Int),g∈qo d.1->kK (d.2.2.2.1.1 (g,())))->d.1.1.length<4611686018427387904->(decide ((d.1.1.length:Int)=d.2.1.1)=true->∀(g:Int),g∈d.1.1->kK (d.2.2.1.1 (g,())))/\(((decide ((d.1.1.length:Int)=d.2.1.1)&&d.1.1.all (ko d.2.2.1.2)&&kl d.1.2.1 (0:Int) (255:Int)&&kl d.1.2.2.1 (0:Int) (255:Int))=true->d.1.2.2.2.1.length<4611686018427387904)->((decide ((d.1.1.length:Int)=d.2.1.1)&&d.1.1.all (ko d.2.2.1.2)&&kl d.1.2.1 (0:Int) (255:Int)&&kl d.1.2.2.1 (0:Int) (255:Int)&&decide ((d.1.2.2.2.1.length:Int)<=10))=true->∀(g:Int),g∈d.1.2.2.2.1->kK (d.2.2.2.1.1 (g,())))/\(decide ((d.1.1.length:Int)=d.2.1.1)&&d.1.1.all (ko d.2.2.1.2)&&kl d.1.2.1 (0:Int) (255:Int)&&kl d.1.2.2.1 (0:Int) (255:Int)&&decide ((d.1.2.2.2.1.length:Int)<=10)&&d.1.2.2.2.1.all (ko d.2.2.2.1.2)&&kl d.1.q4.2.1 (0:Int) (1000:Int),())=(Lh d.2.1 (ko d.2.2.1.2) (ko d.2.2.2.1.2) d.1,()))
def Jp:we:=⟨[.val tLw],[.bool],false,fun _=>[],fun d=>(eD d.1,())⟩
def Jq:Prop:=∀(d:LwD×Unit),(kl d.1.1 (1:Int) (5:Int)&&kl d.1.2.1 (1:Int) (8:Int),())=(eD d.1,())
def Jr:we:=⟨[.val .int,.ref tCr],[.bool],false,fun d=>[kH (U.la d.2.1-1)],fun d=>(kl d.1 0 (U.la d.2.1-1),())⟩
def Js:Prop:=∀(d:Int×CrD×Unit),kH (U.la d.2.1-1)->kH (d.2.1.1-1)/\(kl d.1 (0:Int) (d.2.1.1-1),())=(kl d.1 (0:Int) (U.la d.2.1-1),())
def Q7:we:=⟨[.val tCr,.val tJb],[.int],false,fun _=>[],fun d=>(qH d.1 d.2.1,())⟩
abbrev jiq (d:CrD×JbD×Unit):=(!kl d.2.1.1 (0:Int) (U.la d.1-1)|| !kl d.2.1.2.1 (0:Int) (U.la d.1-1)||decide (d.2.1.1=d.2.1.2.1)|| !kl d.2.1.2.2.1 (0:Int) (99:Int)|| !kl d.2.1.2.2.2.1 (0:Int) (7:Int)|| !kl d.2.1.q4.1 (0:Int) (3:Int)|| !kl d.2.1.q4.2.1 (1:Int) (8:Int))
abbrev jgC (d:CrD×JbD×Unit):=(8<(d.1.2.1.length:Int))
abbrev jir:=(ko fun(a:LwD×Unit)=>(eD a.1,()))
def Q8:Prop:=∀(d:CrD×JbD×Unit),((!!kl d.1.1 (2:Int) (5:Int))=true->d.1.2.1.length<4611686018427387904)->((!(!kl d.1.1 (2:Int) (5:Int)||decide (jgC d)))=true->∀(g:PeD),g∈d.1.2.1->kK [∀(c:Int),c∈U.lv g->kK [],∀(c:Int),c∈qo g->kK []])/\(((!(!kl d.1.1 (2:Int) (5:Int)||decide (jgC d)|| !d.1.2.1.all (ko fun(b:PeD×Unit)=>(Lh d.1 (ko fun(b:Int×Unit)=>(kl b.1 (0:Int) (5:Int),())) (ko fun(b:Int×Unit)=>(kl b.1 (0:Int) (99:Int),())) b.1,()))))=true->d.1.2.2.1.length<4611686018427387904)->((!(!kl d.1.1 (2:Int) (5:Int)||decide (jgC d)|| !d.1.2.1.all (ko fun(a:PeD×Unit)=>(Lh d.1 (ko fun(a:Int×Unit)=>(kl a.1 (0:Int) (5:Int),())) (ko fun(a:Int×Unit)=>(kl a.1 (0:Int) (99:Int),())) a.1,()))||decide ((d.1.2.2.1.length:Int)≠4)))=true->∀(g:LwD),g∈d.1.2.2.1->kK [])/\((!kl d.1.1 (2:Int) (5:Int)||decide (jgC d)|| !d.1.2.1.all (ko fun(a:PeD×Unit)=>(Lh d.1 (ko fun(a:Int×Unit)=>(kl a.1 (0:Int) (5:Int),())) (ko fun(a:Int×Unit)=>(kl a.1 (0:Int) (99:Int),())) a.1,()))||decide ((d.1.2.2.1.length:Int)≠4)|| !d.1.2.2.1.all jir)=true->((30:Int),())=(qH d.1 d.2.1,()))/\((!kl d.1.1 (2:Int) (5:Int)||decide (jgC d)|| !d.1.2.1.all (ko fun(a:PeD×Unit)=>(Lh d.1 (ko fun(a:Int×Unit)=>(kl a.1 (0:Int) (5:Int),())) (ko fun(a:Int×Unit)=>(kl a.1 (0:Int) (99:Int),())) a.1,()))||decide ((d.1.2.2.1.length:Int)≠4)|| !d.1.2.2.1.all jir)=false->kH (U.la d.1-1)/\((!!kl d.2.1.1 (0:Int) (U.la d.1-1))=true->kH (U.la d.1-1))/\((jiq d)=true->((31:Int),())=(qH d.1 d.2.1,()))/\((jiq d)=false->((0:Int),())=(qH d.1 d.2.1,()))))
theorem Q9:MD:=by
 intro d;rfl
theorem yV:wn PR 158 MC:=kY Q9 Tryz.func158 kcN koN
theorem ME:Ji:=by
 intro d a b;exact⟨a,b,rfl⟩
theorem Jt:wn PR 208 lC:=kY ME Tryz.func208 kcN koN
theorem Ju:G0:=by
 rintro⟨s,⟨⟩⟩ e;refine⟨⟨(s,0),⟨⟨rfl,rfl,tZ⟩,tZ⟩,e,by simp⟩,?_⟩;rintro⟨x,n⟩ ⟨a,b⟩;have a:BT.w4 x:=a;have g:=BT.size_le s;have f:=BT.size_le x;refine⟨fun h=> ?_,fun h=> ?_⟩;have h:x≠0:=ja h;obtain⟨d,i,j⟩:=BT.pred a h;have c:=a;unfold BT.w4 at c;simp only at b⊢;exact⟨iZ6,by omega,by omega,(yL x (x-1),n+1),⟨⟨rfl,rfl,tZ⟩,tZ⟩,⟨d,(by omega:n+1+BT.size (yL x (x-1))=BT.size s)⟩,(by unfold BT.w4 at d;omega:(yL x (x-1)).toNat<x.toNat)⟩;have h:x=0:=(by simpa using h);subst h;simp only[BT.size_zero] at b;simp only at b⊢;rw[show n=BT.size s by omega]
theorem G1:wn PR 160 yH:=qG GZ Ju Tryz.func160 kcN koN
theorem U0:Q6:=by
 rintro⟨b,⟨⟩⟩;exact⟨fun h=>by simp only at h;subst h;rfl,fun h=>by simp only at h;subst h;rfl⟩
theorem Ra:wn PR 152 Q5:=kY U0 Tryz.func152 kcN koN
theorem rM:oR:=by
 rintro⟨l,f,⟨⟩⟩ a g;refine⟨⟨0,⟨⟨rfl,tZ⟩,tZ⟩,ju _,fun b c=>by omega⟩,fun i hi=>⟨fun h=> ?_,fun h=> ?_⟩⟩;have h:i<l.length:=(by simpa using h);simp only[jw] at*;refine⟨by omega,by omega,qY _ (a _ (L.kB h)) ⟨fun c=> ?_,fun c=>⟨iZ6,i+1,⟨⟨by simp,tZ⟩,tZ⟩,⟨by omega,fun b d=> ?_⟩,by omega⟩⟩⟩;rw[ya (p:=ko (α:=Int) f.F) h hi.2 c];by_cases e:b=i;subst e;exact c;exact hi.2 b (by omega);have h:l.length<=i:=(by simpa using h);rw[qI (p:=ko (α:=Int) f.F) h hi.2]
theorem oX:wn PR 162 oP:=qG oQ rM Tryz.func162 kcN koN
theorem lD:iA:=by
 rintro⟨l,f,⟨⟩⟩ a;refine⟨a,?_⟩;exact jG (·,()) (fF (ko (α:=Int) f.F) l)
theorem yd:wn PR 115 iz:=kY lD Tryz.func115 (kcC oX kcN) koN
theorem rN:oU:=by
 rintro⟨l,f,⟨⟩⟩ a g;refine⟨⟨0,⟨⟨rfl,tZ⟩,tZ⟩,ju _,fun b c=>by omega⟩,fun i hi=>⟨fun h=> ?_,fun h=> ?_⟩⟩;have h:i<l.length:=(by simpa using h);simp only[jw] at*;refine⟨by omega,by omega,qY _ (a _ (L.kB h)) ⟨fun c=> ?_,fun c=>⟨iZ6,i+1,⟨⟨by simp,tZ⟩,tZ⟩,⟨by omega,fun b d=> ?_⟩,by omega⟩⟩⟩;rw[ya (p:=ko (α:=LwD) f.F) h hi.2 c];by_cases e:b=i;subst e;exact c;exact hi.2 b (by omega);have h:l.length<=i:=(by simpa using h);rw[qI (p:=ko (α:=LwD) f.F) h hi.2]
theorem oY:wn PR 231 oS:=qG oT rN Tryz.func231 kcN koN
theorem lE:iC:=by
 rintro⟨l,f,⟨⟩⟩ a;refine⟨a,?_⟩;exact jG (·,()) (fF (ko (α:=LwD) f.F) l)
theorem iH:wn PR 215 iB:=kY lE Tryz.func215 (kcC oY kcN) koN
theorem lF:iG:=by
 rintro⟨l,f,⟨⟩⟩ a g;refine⟨⟨0,⟨⟨rfl,tZ⟩,tZ⟩,ju _,fun b c=>by omega⟩,fun i hi=>⟨fun h=> ?_,fun h=> ?_⟩⟩;have h:i<l.length:=(by simpa using h);simp only[jw] at*;refine⟨by omega,by omega,qY _ (a _ (L.kB h)) ⟨fun c=> ?_,fun c=>⟨iZ6,i+1,⟨⟨by simp,tZ⟩,tZ⟩,⟨by omega,fun b d=> ?_⟩,by omega⟩⟩⟩;rw[ya (p:=ko (α:=PeD) f.F) h hi.2 c];by_cases e:b=i;subst e;exact c;exact hi.2 b (by omega);have h:l.length<=i:=(by simpa using h);rw[qI (p:=ko (α:=PeD) f.F) h hi.2]
theorem iI:wn PR 230 iD:=qG iF lF Tryz.func230 kcN koN
theorem dN:cY:=by
 rintro⟨l,f,⟨⟩⟩ a;refine⟨a,?_⟩;exact jG (·,()) (fF (ko (α:=PeD) f.F) l)
theorem cZ:wn PR 213 cX:=kY dN Tryz.func213 (kcC iI kcN) koN
theorem Cd:xh:=by
 intro d h;exact qY _ h rfl
theorem xl:wn PR 212 xg:=kY Cd Tryz.func212 kcN koN
theorem G2:D1:=by
 intro d h;exact⟨fun g a=>⟨h g a,tZ⟩,jG (·,()) (rL d.snd.fst.2 d.fst)⟩
theorem D4:wn PR 174 D0:=kY G2 Tryz.func174 (kcC yd (kcC xl kcN)) koN
theorem Ce:xj:=by
 intro d h;exact qY _ h rfl
theorem xm:wn PR 216 xi:=kY Ce Tryz.func216 kcN koN
theorem G3:D3:=by
 intro d h;exact⟨fun g a=>⟨h g a,tZ⟩,jG (·,()) (rL d.snd.fst.2 d.fst)⟩
theorem D5:wn PR 178 D2:=kY G3 Tryz.func178 (kcC iH (kcC xm kcN)) koN
theorem rO:oW:=by
 intro d h;exact qY _ h rfl
theorem oZ:wn PR 214 oV:=kY rO Tryz.func214 kcN koN
theorem xn:tz:=by
 intro d h;exact⟨fun g a=>⟨h g a,tZ⟩,jG (·,()) (rL d.snd.fst.2 d.fst)⟩
theorem tA:wn PR 177 tw:=kY xn Tryz.func177 (kcC cZ (kcC oZ kcN)) koN
theorem MF:Jk:=fun _=>rfl
theorem Jv:wn PR 171 Jj:=kY MF Tryz.func171 (kcC yV kcN) koN
theorem MG:Jm:=fun _=>rfl
theorem Jw:wn PR 172 Jl:=kY MG Tryz.func172 (kcC yV kcN) koN
theorem MH:Jo:=by
 unfold Jo Prod.q4;rintro⟨p,c,f,g,⟨⟩⟩ a b _;exact⟨fun _=>a,fun _=>⟨fun _=>b,rfl⟩⟩
theorem Jx:wn PR 173 Jn:=kY MH Tryz.func173 (kcC yV (kcC D4 kcN)) koN
theorem MI:Jq:=fun _=>rfl
theorem Jy:wn PR 175 Jp:=kY MI Tryz.func175 (kcC yV kcN) koN
theorem MJ:Js:=fun _ h=>⟨h,rfl⟩
theorem Jz:wn PR 176 Jr:=kY MJ Tryz.func176 (kcC yV kcN) koN
theorem jaZ (c:CrD) (p:PeD):Lh c (fun x=>kl x 0 5) (fun x=>kl x 0 99) p=eC (U.la c) p:=by
 rw[j0];simp only[Lh,eC,kl,ji,jm];constructor;rintro⟨⟨⟨⟨⟨⟨e,f⟩,a⟩,b⟩,k⟩,i⟩,d⟩;exact⟨⟨e,a.1,a.2,b.1,b.2,by omega,d.1,d.2⟩,f,i⟩;rintro⟨⟨e,a,g,b,h,k,d,j⟩,f,i⟩;exact⟨⟨⟨⟨⟨⟨e,f⟩,a,g⟩,b,h⟩,by omega⟩,i⟩,d,j⟩
theorem ja0 (c:CrD):(((((!kl c.1 2 5||decide (8<((c.2.1.length:Nat):Int)))|| !c.2.1.all (eC (U.la c)))||decide (((c.2.2.1.length:Nat):Int)≠4))|| !c.2.2.1.all eD))= !kG c:=by
 unfold kG;show _= !(decide (2<=c.1/\c.1<=5/\c.2.1.length<=8/\c.2.2.1.length=4)&&(c.2.1.all (eC (U.la c))&&c.2.2.1.all eD));cases c.2.1.all (eC (U.la c))<;>cases c.2.2.1.all eD<;>simp only[kl,Bool.not_true,Bool.not_false,Bool.or_true,Bool.or_false,Bool.and_true,Bool.and_false,Bool.true_or]
 rw[j0];simp only[zr,jO,ke,jm,jF];omega
theorem jcI (c:CrD) (j:JbD):((((((!kl j.1 0 (U.la c-1)|| !kl j.2.1 0 (U.la c-1))||decide (j.1=j.2.1))|| !kl j.2.2.1 0 99)|| !kl j.2.2.2.1 0 7)|| !kl j.2.2.2.2.1 0 3)|| !kl j.2.2.2.2.2.1 1 8)= !ww c j:=by
 have key:(ww c j=false)↔¬(0<=j.1/\j.1<=U.la c-1/\0<=j.2.1/\j.2.1<=U.la c-1/\j.1≠j.2.1/\0<=j.2.2.1/\j.2.2.1<=99/\0<=j.2.2.2.1/\j.2.2.2.1<=7/\0<=j.2.2.2.2.1/\j.2.2.2.2.1<=3/\1<=j.2.2.2.2.2.1/\j.2.2.2.2.2.1<=8):=by
  unfold ww;exact jF
 rw[j0,jO,key];simp only[kl,zr,jO,ke,jm,jF];omega
theorem U1:Q8:=by
 unfold Q8 jir jgC jiq Prod.q4;rintro⟨c,j,⟨⟩⟩;have f:∀p,ko (fun(x:PeD×Unit)=>(Lh c (ko fun(x:Int×Unit)=>(kl x.fst 0 5,())) (ko fun(x:Int×Unit)=>(kl x.fst 0 99,())) x.fst,())) p=eC (U.la c) p:=fun p=>jaZ c p
 have e2:(ko fun(x:LwD×Unit)=>(eD x.fst,()))=eD:=rfl;have d:=ja0 c;have e:=jcI c j;intro _;refine⟨fun _ g _=>⟨fun _ _=>tZ,fun _ _=>tZ,tZ⟩,fun _=> ?_⟩;simp only at d e⊢;rw[funext f,e2,d,e];refine⟨fun _ _ _=>tZ,fun h=> ?_,fun h=> ?_⟩;have h:kG c=false:=(by simpa using h);unfold qH;rw[jh h];have h:kG c=true:=(by simpa using h);have i:2<=U.la c/\U.la c<=5:=by
  unfold kG at h;simp only[ji,jm] at h;exact⟨h.1.1,h.1.2.1⟩
 have b:kH (U.la c-1):=iZ6;refine⟨b,fun _=>b,fun a=> ?_,fun a=> ?_⟩;have a:ww c j=false:=(by simpa using a);unfold qH;rw[jd (by rw[h];simp),jh a];have a:ww c j=true:=(by simpa using a);unfold qH;rw[jd (by rw[h];simp),jd (by rw[a];simp)]
theorem FO:wn PR 137 Q7:=kY U1 Tryz.func137 (kcC yV (kcC tA (kcC D5 (kcC Jv (kcC Jw (kcC Jx (kcC Jy (kcC Jz kcN)))))))) koN
abbrev tTk:Ty:= .st [tCr,tJb,tLw]
abbrev TkD:Type:=CrD×JbD×LwD×Unit
namespace U
def tk (o:Option TkD):TkD:=kV (Ty.dflt tTk) o
def tc (t:TkD):CrD:=t.1
def tj (t:TkD):JbD:=t.2.1
def tl (t:TkD):LwD:=t.2.2.1
def F7 (c:CrD) (j:JbD):Option TkD:=if qH c j=0 then some (c,j,cv c j,()) else none
def bY (t:TkD):Prop:=kG (tc t)=true/\ww (tc t) (tj t)=true/\tl t=cv (tc t) (tj t)
def Ta (a b c:Bool):Int:=jcc a+2*jcc b+4*jcc c
def vA (t:TkD) (p:PeD):Int:=Ta (bX p (Xj (tj t))) (!wy (fd p) (OM (tj t))) (!wy (cl p) (l8 (tj t)))
def sO (t:TkD) (p:PeD):List (Int×Int):=[(0,jcc (!bX p (Xj (tj t)))),(1,iy (fd p/2^(OM (tj t)).toNat) 1),(2,iy (cl p/2^(l8 (tj t)).toNat) 1)]
def aI (all left:List (Int×Int)) (out:Int):Prop:=BT.w4 out/\left.Nodup/\(∀e∈left,e∈all)/\∀p:Nat,BT.has out p=true↔∃e∈all,e∉left/\e.2=0/\e.1.toNat=p
def yu (t:TkD) (s:Int) (n:Nat):List (Int×PeD×Unit):=((List.range n).filter (fun(i:Nat)=>sN s (i:Int))).map (fun(i:Nat)=>((i:Int),nth (kz (tc t)) i,()))
def u7 (t:TkD) (s:Int):List (Int×PeD×Unit):=yu t s (kz (tc t)).length
def jn (t:TkD) (a b:Int) (x:Int×PeD×Unit):Bool:=decide (Tn (tl t)<=min (nth (lv x.2.1) a.toNat) (nth (lv x.2.1) b.toNat))
def mc (t:TkD) (s a b:Int):Bool:=(u7 t s).any (jn t a b)
def gA (t:TkD) (a b:Int) (q:List (Int×PeD×Unit)):Bool:=match q.getLast? with|some x=>jn t a b x|none=>false
end U
def Cf:we:=⟨[.val (.slice .int),.val .int],[.int],false,fun _=>[],fun d=>(yz (fun x=>decide (x=d.2.1)) d.1,())⟩
def Cg:Ann:=fun r=>match r with
 |2=>some fun σ=>{X:=Nat,sl:=fun i=>[(8,.dat .int (i:Int))],ob:=fun _=>[],inv:=fun i=>i<=(gd (.slice .int) σ 0).length/\∀b:Nat,b<i->decide (nth (gd (.slice .int) σ 0) b=gd .int σ 1)=false,mu:=fun i=>(gd (.slice .int) σ 0).length-i}
 |_=>none
def Ch:Prop:=∀(d:List Int×Int×Unit),d.1.length<4611686018427387904->(∃(x:Nat),((0=(x:Int)/\True)/\True)/\x<=d.1.length/\∀(b:Nat),b<x->decide (nth d.1 b=d.2.1)=false)/\∀(x:Nat),(x<=d.1.length/\∀(b:Nat),b<x->decide (nth d.1 b=d.2.1)=false)->(decide ((x:Int)<d.1.length)=true->0<=(x:Int)/\(x:Int)<d.1.length/\(decide (d.2.1=nth d.1 (x:Int).toNat)=true->((x:Int),())=(yz (fun(c:Int)=>decide (c=d.2.1)) d.1,()))/\(decide (d.2.1=nth d.1 (x:Int).toNat)=false->kH ((x:Int)+1)/\∃(a:Nat),(((x:Int)+1=(a:Int)/\True)/\True)/\(a<=d.1.length/\∀(b:Nat),b<a->decide (nth d.1 b=d.2.1)=false)/\d.1.length-a<d.1.length-x))/\(decide ((x:Int)<d.1.length)=false->((-1:Int),())=(yz (fun(c:Int)=>decide (c=d.2.1)) d.1,()))
def rP:we:=⟨[.val (.slice .int),.val .int],[.bool],false,fun _=>[],fun d=>(d.1.any (fun x=>decide (x=d.2.1)),())⟩
def rQ:Prop:=∀(d:List Int×Int×Unit),(decide (0<=yz (fun(a:Int)=>decide (a=d.2.1)) d.1),())=(d.1.any fun(b:Int)=>decide (b=d.2.1),())
def U2:we:=⟨[.val tCr,.val tJb],[.ptr tTk,.int],false,fun _=>[],fun d=>(F7 d.1 d.2.1,qH d.1 d.2.1,())⟩
def U3:Prop:=∀(d:CrD×JbD×Unit),(decide (qH d.1 d.2.1≠0)=true->(none,qH d.1 d.2.1,())=(F7 d.1 d.2.1,qH d.1 d.2.1,()))/\(decide (qH d.1 d.2.1≠0)=false->0<=d.2.1.q4.1/\d.2.1.q4.1<(d.1.2.2.1.length:Int)/\(some (d.1,d.2.1,nth d.1.2.2.1 d.2.1.q4.1.toNat,()),(0:Int),())=(F7 d.1 d.2.1,qH d.1 d.2.1,()))
def LM (d:PD [.ref (.ptr tTk),.ref (.uint .u64)]) (xs:List (Ty.st [.int,tPe]).Data):Prop:=xs=u7 (U.tk d.1) d.2.1
def Rb (d:PD [.ref (.ptr tTk),.ref (.uint .u64)]):AE (YS [.int,tPe]):=fun r=>match r with
 |1=>some fun _ _=>{X:=Nat,sl:=fun i=>[(12,.dat .int (i:Int))],ob:=fun _=>[],ys:=fun i=>(yu (U.tk d.1) d.2.1 i,true),inv:=fun i=>i<=(kz (U.tc (U.tk d.1))).length,mu:=fun i=>(kz (U.tc (U.tk d.1))).length-i}
 |_=>none
abbrev jgD (d:Option (CrD×JbD×LwD×Unit)×Int×Unit):=(kV (((0:Int),[],[],()),((0:Int),(0:Int),(0:Int),(0:Int),(0:Int),(0:Int),()),((0:Int),(0:Int),false,()),()) d.1)
abbrev jfb (d:Option (CrD×JbD×LwD×Unit)×Int×Unit):=(kz (U.tc (U.tk d.1)))
abbrev jgE (x:Nat)(d:Option (CrD×JbD×LwD×Unit)×Int×Unit):=((x:Int),nth (jgD d).1.2.1 (x:Int).toNat,())
abbrev jhO (x:Nat)(a:Nat):=(((x:Int)+1=(a:Int)/\True)/\True)
def bL:Prop:=∀(d:Option (CrD×JbD×LwD×Unit)×Int×Unit) (l:Nat),d.1.isSome=true->(jfb d).length<=60->d.1.isSome=true/\((jgD d).1.2.1.length<4611686018427387904->(∃(x:Nat),((0=(x:Int)/\True)/\True)/\([],true)=(yu (U.tk d.1) d.2.1 x,true)/\x<=(jfb d).length)/\∀(x:Nat),x<=(jfb d).length->(decide ((x:Int)<(jgD d).1.2.1.length)=true->0<=(x:Int)/\(x:Int)<(jgD d).1.2.1.length/\0<=(x:Int)/\(x:Int)<=64/\(sN d.2.1 (x:Int)=true->l=l/\(∃(rest:List (Int×PeD×Unit)),yu (U.tk d.1) d.2.1 x++[(jgE x d)]++rest=u7 (U.tk d.1) d.2.1)/\(((sN d.2.1 (x:Int)&& !true)=true->true=true->yu (U.tk d.1) d.2.1 x++[(jgE x d)]=u7 (U.tk d.1) d.2.1)/\((sN d.2.1 (x:Int)&& !true)=false->kH ((x:Int)+1)/\∃(a:Nat),(jhO x a)/\(yu (U.tk d.1) d.2.1 x++[(jgE x d)],true)=(yu (U.tk d.1) d.2.1 a,true)/\a<=(jfb d).length/\(jfb d).length-a<(jfb d).length-x))/\((sN d.2.1 (x:Int)&& !false)=true->false=true->yu (U.tk d.1) d.2.1 x++[(jgE x d)]=u7 (U.tk d.1) d.2.1)/\((sN d.2.1 (x:Int)&& !false)=false->kH ((x:Int)+1)/\∃(a:Nat),(jhO x a)/\(yu (U.tk d.1) d.2.1 x++[(jgE x d)],false)=(yu (U.tk d.1) d.2.1 a,true)/\a<=(jfb d).length/\(jfb d).length-a<(jfb d).length-x))/\(sN d.2.1 (x:Int)=false->((sN d.2.1 (x:Int)&& !false)=true->true=true->yu (U.tk d.1) d.2.1 x=u7 (U.tk d.1) d.2.1)/\((sN d.2.1 (x:Int)&& !false)=false->kH ((x:Int)+1)/\∃(a:Nat),(jhO x a)/\(yu (U.tk d.1) d.2.1 x,true)=(yu (U.tk d.1) d.2.1 a,true)/\a<=(jfb d).length/\(jfb d).length-a<(jfb d).length-x)))/\(decide ((x:Int)<(jgD d).1.2.1.length)=false->true=true->yu (U.tk d.1) d.2.1 x=u7 (U.tk d.1) d.2.1))
theorem iJ:(XV (ctx 28 [(208,lC)] []) (wz Tryz.f207) [.int,tPe] [.ref (.ptr tTk),.ref (.uint .u64)] LM (fun d=>[d.1.isSome=true,(kz (U.tc (U.tk d.1))).length<=60]) (fun d _=>Rb d) (fun d l=>hkY [.int,tPe] l [24] (fun q=>∃rest,LM d (q++rest)) (fun _=>none)))=bL:=by kernel_rfl
def wh:oJ:=⟨[.val (.ptr tTk),.val (.uint .u64)],fun _=>[],207,[.ptr tTk,.uint .u64],fun d=>(d.1,d.2.1,())⟩
def dO:Prop:=∀(d:Option (CrD×JbD×LwD×Unit)×Int×Unit),d=d
theorem mW:(UM (ctx 6 [] []) (fun _=>none) Tryz.f159 (wz Tryz.f159) wh)=dO:=by kernel_rfl
def PK (sv:SV):Option (Prop×(List (Ty.st [.int,tPe]).Data->Prop)):=match sv with
 | .clo 207 [.ep b t,.ep c s]=>(match w5 b (.ptr tTk) t,w5 c (.uint .u64) s with
  |some a,some d=>some ((a.isSome=true/\(kz (U.tc (U.tk a))).length<=60),fun xs=>xs=u7 (U.tk a) d)
  |_,_=>none)
 |_=>none
def U4:I7 [.int,tPe]:={ps:=[.ref (.ptr tTk),.ref .int,.ref .int,.own (.box 4 [.dat .bool]) true],slots:=[4,6,7,8],dst:=34,pre:=fun _=>[],G:=fun d q=>((d.2.2.2.1.1||gA (U.tk d.1) d.2.1 d.2.2.1 q,()),()),stop:=fun d q=>gA (U.tk d.1) d.2.1 d.2.2.1 q,seq:=PK}
def Ci:Nat->Option ((ts:List Ty)×I7 ts):=fun r=>match r with
 |3=>some ⟨[.int,tPe],U4⟩
 |_=>none
def ig:we:=⟨[.val (.ptr tTk),.val (.uint .u64),.val .int,.val .int],[.bool],false,
 fun d=>[d.1.isSome=true,bY (U.tk d.1),0<=d.2.2.1,d.2.2.1<U.la (U.tc (U.tk d.1)),0<=d.2.2.2.1,d.2.2.2.1<U.la (U.tc (U.tk d.1))],fun d=>(mc (U.tk d.1) d.2.1 d.2.2.1 d.2.2.2.1,())⟩
abbrev jis (d:Option (CrD×JbD×LwD×Unit)×Int×Int×Int×Unit)(x:Int×PeD×Unit):=((kV (((0:Int),[],[],()),((0:Int),(0:Int),(0:Int),(0:Int),(0:Int),(0:Int),()),((0:Int),(0:Int),false,()),()) d.1).2.2.1.1<=min (nth x.2.1.1 d.2.2.1.toNat) (nth x.2.1.1 d.2.2.2.1.toNat))
abbrev jhP (d:Option (CrD×JbD×LwD×Unit)×Int×Int×Int×Unit):=(fun(a:List (Int×PeD×Unit))=>gA (U.tk d.1) d.2.2.1 d.2.2.2.1 a)
def ii:Prop:=∀(d:Option (CrD×JbD×LwD×Unit)×Int×Int×Int×Unit),d.1.isSome=true->bY (U.tk d.1)->0<=d.2.2.1->d.2.2.1<U.la (U.tc (U.tk d.1))->0<=d.2.2.2.1->d.2.2.2.1<U.la (U.tc (U.tk d.1))->(d.1.isSome=true/\(kz (U.tc (U.tk d.1))).length<=60)/\True/\(d.1,d.2.2.1,d.2.2.2.1,(false||gA (U.tk d.1) d.2.2.1 d.2.2.2.1 [],()),())=(d.1,d.2.2.1,d.2.2.2.1,(false,()),())/\(∀(q:List (Int×PeD×Unit)) (x:Int×PeD×Unit) (rest:List (Int×PeD×Unit)),q++x::rest=u7 (U.tk d.1) d.2.1->yc (jhP d) q->0<=d.2.2.1/\d.2.2.1<(x.2.1.1.length:Int)/\0<=d.2.2.2.1/\d.2.2.2.1<(x.2.1.1.length:Int)/\d.1.isSome=true/\(decide (jis d x)=true->gA (U.tk d.1) d.2.2.1 d.2.2.2.1 (q++[x])=true/\((true,()),())=((false||gA (U.tk d.1) d.2.2.1 d.2.2.2.1 (q++[x]),()),()))/\(decide (jis d x)=false->gA (U.tk d.1) d.2.2.1 d.2.2.2.1 (q++[x])=false/\((false||gA (U.tk d.1) d.2.2.1 d.2.2.2.1 q,()),())=((false||gA (U.tk d.1) d.2.2.1 d.2.2.2.1 (q++[x]),()),())))/\(∀(xs:List (Int×PeD×Unit)),xs=u7 (U.tk d.1) d.2.1->yc (jhP d) xs->(false,())=(mc (U.tk d.1) d.2.1 d.2.2.1 d.2.2.2.1,()))/\∀(q:List (Int×PeD×Unit)) (x:Int×PeD×Unit) (rest:List (Int×PeD×Unit)),q++x::rest=u7 (U.tk d.1) d.2.1->yc (jhP d) q->gA (U.tk d.1) d.2.2.1 d.2.2.2.1 (q++[x])=true->(false||gA (U.tk d.1) d.2.2.1 d.2.2.2.1 (q++[x]),())=(mc (U.tk d.1) d.2.1 d.2.2.1 d.2.2.2.1,())
theorem o4:(PH (Lx 33 [] [] [(159,wh)] []) ig (fun _ _=>none) (hkC (Lx 33 [] [] [(159,wh)] []) (fun _=>none) Ci [] []) Tryz.f210 (wz Tryz.f210))=ii:=by kernel_rfl
theorem D6:Ch:=by
 rintro⟨l,x,⟨⟩⟩ d;refine⟨⟨0,⟨⟨rfl,tZ⟩,tZ⟩,ju _,fun b a=>by omega⟩,fun i hi=>⟨fun h=> ?_,fun h=> ?_⟩⟩;have h:i<l.length:=(by simpa using h);simp only[jw] at*;refine⟨by omega,by omega,fun a=> ?_,fun a=>⟨iZ6,i+1,⟨⟨by simp,tZ⟩,tZ⟩,⟨by omega,fun b c=> ?_⟩,by omega⟩⟩;rw[ya (p:=fun y=>decide (y=x)) h hi.2 (by have:=ja a;rw[<-this];exact jH rfl)];by_cases e:b=i;subst e;exact zl (fun e=>jc a e.symm);exact hi.2 b (by omega);have h:l.length<=i:=(by simpa using h);rw[qI (p:=fun y=>decide (y=x)) h hi.2]
theorem Cj:wn PR 111 Cf:=qG Cg D6 Tryz.func111 kcN koN
theorem tB:rQ:=by
 rintro⟨l,x,⟨⟩⟩;exact jG (·,()) (fF (fun y=>decide (y=x)) l)
theorem cH:wn PR 76 rP:=kY tB Tryz.func76 (kcC Cj kcN) koN
theorem o6 {c:CrD} {j:JbD} (h:qH c j=0):kG c=true/\ww c j=true:=by
 unfold qH at h
 split at h
 omega
 split at h
 omega;rename_i a b;exact⟨by simpa using a,by simpa using b⟩
theorem wo {c:CrD} (h:kG c=true):2<=U.la c/\U.la c<=5/\(kz c).length<=8/\(vZ c).length=4/\(∀p∈kz c,eC (U.la c) p=true)/\∀l∈vZ c,eD l=true:=by
 unfold kG at h;simp only[ji,jm,jT] at h;exact⟨h.1.1,h.1.2.1,h.1.2.2.1,h.1.2.2.2,h.2.1,h.2.2⟩
theorem lG {c:CrD} {j:JbD} (h:ww c j=true):(0<=Ly j/\Ly j<U.la c)/\(0<=F6 j/\F6 j<U.la c)/\Ly j≠F6 j/\(0<=OM j/\OM j<=7)/\(0<=l8 j/\l8 j<=3)/\(1<=Zg j/\Zg j<=8):=by
 unfold ww at h;have h:=ja h;obtain⟨d,m,e,n,f,_,_,g,i,k,l,a,b⟩:=h;exact⟨⟨d,by omega⟩,⟨e,by omega⟩,f,⟨g,i⟩,⟨k,l⟩,a,b⟩
theorem U5 {c:CrD} {j:JbD} (h:qH c j=0):F7 c j=some (c,j,cv c j,())/\bY (c,j,cv c j,()):=by
 obtain⟨a,b⟩:=o6 h;exact⟨by unfold F7;rw[jh h],a,b,rfl⟩
theorem X6:U3:=by
 unfold U3 Prod.q4;rintro⟨c,j,⟨⟩⟩;refine⟨fun h=> ?_,fun h=> ?_⟩;have h:qH c j≠0:=ja h;simp only;unfold F7;rw[jd h];have h:qH c j=0:=(by simpa using h);obtain⟨b,d⟩:=o6 h;obtain⟨_,_,_,a,_⟩:=wo b;obtain⟨_,_,_,_,hk,_⟩:=lG d;have hk:0<=j.2.2.2.2.1/\j.2.2.2.2.1<=3:=hk;have a:c.2.2.1.length=4:=a;refine⟨hk.1,by simp only;omega,?_⟩;simp only;rw[(U5 h).1,h];rfl
theorem JA:wn PR 105 U2:=kY X6 Tryz.func105 (kcC FO kcN) koN
theorem tC (t:TkD) (s:Int) (n:Nat):yu t s (n+1)=yu t s n++(if sN s (n:Int)=true then[((n:Int),nth (kz (U.tc t)) n,())] else[]):=by
 unfold yu;rw[L.ve,zz]
 split<;>simp
theorem U6 (t:TkD) (s:Int) {n m:Nat} (h:n<=m):∃rest,yu t s n++rest=yu t s m:=by
 induction m with
 |zero=>
  have:n=0:=(by omega);subst this;exact⟨[],by simp⟩
 |succ m b=>
  by_cases e:n=m+1;subst e;exact⟨[],by simp⟩;obtain⟨r,a⟩:=b (by omega);rw[tC,<-a];exact⟨r++_,by rw[jM]⟩
theorem rR:bL:=by
 unfold bL jhO jgE jfb jgD;rintro⟨(_|t),s,⟨⟩⟩ l i e;cases i;have e:(kz (U.tc t)).length<=60:=e;refine⟨rfl,fun _=>⟨⟨0,⟨⟨rfl,tZ⟩,tZ⟩,rfl,ju _⟩,fun x g=> ?_⟩⟩;have g:x<=(kz (U.tc t)).length:=g;have c:U.tk (some t)=t:=rfl;refine⟨fun h=> ?_,fun h=> ?_⟩;have h:x<(kz (U.tc t)).length:=by
  have:=ja h;have this:(x:Int)<(kz (U.tc t)).length:=this;omega
 have j:(x:Int)<(kz (U.tc t)).length:=(by omega);refine⟨by omega,j,by omega,by omega,fun b=> ?_,fun b=> ?_⟩;have d:yu t s (x+1)=yu t s x++[((x:Int),nth (kz (U.tc t)) x,())]:=(by rw[tC,jh b]);obtain⟨r,f⟩:=U6 t s (show x+1<=(kz (U.tc t)).length by omega);refine⟨rfl,⟨r,by rw[d] at f;exact f⟩,⟨fun a=>absurd a (by rw[Bool.not_true,Bool.and_false];simp),fun _=>⟨iZ6,x+1,⟨⟨by omega,tZ⟩,tZ⟩,?_,(show x+1<=(kz (U.tc t)).length by omega),(show(kz (U.tc t)).length-(x+1)<(kz (U.tc t)).length-x by omega)⟩⟩,
  fun _ a=>(by cases a),fun a=> ?_⟩
 rw[c,d];rfl;rw[Bool.not_false,Bool.and_true] at a;exact absurd b (by simp only at a⊢;rw[a];simp);have d:yu t s (x+1)=yu t s x:=by
  rw[tC,jd (by simp only at b⊢;rw[b];simp),j8]
 refine⟨fun a=> ?_,fun _=>⟨iZ6,x+1,⟨⟨by omega,tZ⟩,tZ⟩,?_,(show x+1<=(kz (U.tc t)).length by omega),(show(kz (U.tc t)).length-(x+1)<(kz (U.tc t)).length-x by omega)⟩⟩;rw[Bool.not_false,Bool.and_true] at a;exact absurd a (by simp only at b⊢;rw[b];simp);rw[c,d];have h:(kz (U.tc t)).length<=x:=by
  have:=jc h;have this:¬(x:Int)<(kz (U.tc t)).length:=this;omega
 intro _;rw[show x=(kz (U.tc t)).length by omega];rfl
theorem MK {H:Imm} {lb:Array Value} {d:PD [.ref (.ptr tTk),.ref (.uint .u64)]} (g:pvs PR H [.ref (.ptr tTk),.ref (.uint .u64)] lb.toList d) (a:d.1.isSome=true) (b:(kz (U.tc (U.tk d.1))).length<=60):XT PR H [.int,tPe] (LM d) (.func (.func 207) #[] lb):=
 ZG (C:=ctx 28 [(208,lC)] []) (nT ⟨fun _=>Jt,tZ⟩ trivial) mixed Tryz.func207 (by kernel_rfl) (by kernel_rfl) (by kernel_rfl) (by kernel_rfl) (by decide) (iJ.mpr rR) (fun d l B0 R h c e f=>jcC c f) g ⟨a,b,tZ⟩
theorem xo:dO:=by intro d;rfl
theorem dP:Jb PR 159 wh:=jcF (mW.mpr xo) Tryz.func159 (by kernel_rfl) (by kernel_rfl) (by kernel_rfl) (by kernel_rfl) trivial trivial
theorem ja1:∀(f:Nat) (p:Nat×oL),kS ([]:List (Nat×Nat×oL)) f=some p->ROK PR f p.2:=fun _ _ h=>by cases h
theorem JB {sv:SV} {h:Prop} {L:List (Ty.st [.int,tPe]).Data->Prop} {v:Value} {ρ:Env} (a:PK sv=some (h,L)) (b:h) (g:SV.den PR ρ sv v):XT PR ρ.H [.int,tPe] L v:=by
 unfold PK at a
 split at a
 case h_2=>cases a
 rename_i n t o s
 split at a
 case h_2=>cases a
 rename_i u q m f;simp only[jy,Prod.mk.injEq] at a;obtain⟨rfl,rfl⟩:=a;obtain⟨e,rfl⟩:=kC m;subst e;obtain⟨e2,rfl⟩:=kC f;subst e2;simp only[SV.den,SV.denL] at g;obtain⟨lb,rfl,x,r,l,i,y,p,c,j,k⟩:=g;exact MK (d:=(t,s,())) (by rw[l,c,k];exact⟨i,j,rfl⟩) b.1 b.2
theorem rS (t:TkD) (a b:Int) (q:List (Int×PeD×Unit)) (x:Int×PeD×Unit):gA t a b (q++[x])=U.jn t a b x:=by
 unfold gA;rw[List.getLast?_append];simp
theorem ML {t:TkD} {a b:Int} {q:List (Int×PeD×Unit)} (h:yc (fun q=>gA t a b q) q):q.any (U.jn t a b)=false:=by
 rw[ze];intro x c;obtain⟨u,v,rfl⟩:=List.append_of_mem c;have:=h u x v rfl;simp only[rS] at this;rw[this];simp
theorem Rc {t:TkD} {s:Int} {x:Int×PeD×Unit} (h:x∈u7 t s):x.2.1∈kz (U.tc t):=by
 unfold u7 yu at h;obtain⟨i,hi,rfl⟩:=jV.1 h;have:=jA.1 (jR.1 hi).1;exact L.kB this
theorem ja2 {n:Int} {p:PeD} (h:eC n p=true):((U.lv p).length:Int)=n:=by
 unfold eC at h;simp only[ji,jm] at h;exact h.1.1
theorem Cm:ii:=by
 unfold ii jhP jis;rintro⟨(_|t),s,a,b,⟨⟩⟩ r l v f w g;cases r;obtain⟨c1,c2,A⟩:=l;have c1:kG (U.tc t)=true:=c1;obtain⟨B,C,D,E,p,F⟩:=wo c1;have k:(kz (U.tc t)).length<=60:=(by omega);have c:U.tk (some t)=t:=rfl;refine⟨⟨rfl,k⟩,tZ,rfl,fun q x rest i e=> ?_,fun xs j e=> ?_,fun q x rest i e d=> ?_⟩;have z:x∈u7 t s:=(by rw[c] at i;rw[<-i];simp);have o:=ja2 (p _ (Rc z));have o:((x.2.1.1.length:Nat):Int)=U.la (U.tc t):=o;have f:a<U.la (U.tc t):=f;have g:b<U.la (U.tc t):=g;have m:gA t a b q=false:=by
  cases n:q.getLast? with
  |none=>unfold gA;rw[n]
  |some y=>
   obtain⟨u,rfl⟩:=List.getLast?_eq_some_iff.1 n;have:=e u y [] rfl;exact this
 refine⟨v,by simp only;omega,w,by simp only;omega,rfl,fun h=> ?_,fun h=> ?_⟩;have h:U.jn t a b x=true:=h;have:gA t a b (q++[x])=true:=(by rw[rS];exact h);rw[c];simp only;exact⟨this,by rw[this];rfl⟩;have h:U.jn t a b x=false:=h;have:gA t a b (q++[x])=false:=(by rw[rS];exact h);rw[c];simp only;exact⟨this,by rw[this,m]⟩;rw[c] at j e;subst j;have:=ML e;simp only;rw[c];unfold mc;rw[this];rw[c] at i d⊢;simp only at d⊢;rw[d];unfold mc;rw[<-i];rw[rS] at d;simp[d]
theorem JC:(Lx 33 [] [] [(159,wh)] []).ok PR:=MA trivial trivial ⟨dP,tZ⟩ trivial
theorem xp:wn PR 210 ig:=
 UR (body:=wz Tryz.f210) (C:=Lx 33 [] [] [(159,wh)] []) (hk:=hkC (Lx 33 [] [] [(159,wh)] []) (fun _=>none) Ci [] []) JC mixed Tryz.func210 (by kernel_rfl) (by kernel_rfl) (by kernel_rfl) (by decide)
  (fun B=>FL JC mixed (fun k ts rs sv d L v ρ hk c a b=>by
   unfold Ci at hk
   split at hk
   case h_2=>cases hk
   simp only[jy] at hk
   cases hk
   exact JB c a b) ja1 B) (o4.mpr Cm)
namespace U
def gI (x:Int) (N n:Nat):List Int:=List.replicate n x++List.replicate (N-n) 0
def Lz (t:TkD) (c:Int) (a b:Nat):Bool:=mc t c (a:Int) (b:Int)
def fY (t:TkD) (a:Int):List Int:=jdi (Lz t a) (la (tc t)).toNat (F6 (tj t)).toNat
def wA (t:TkD) (a:Int) (k:Nat):List Int×List Int:=gL (Lz t a) (la (tc t)).toNat (F6 (tj t)).toNat k
def yT (t:TkD) (a:Int) (x:List Int×List Int) (i:Nat):List Int×List Int:=sM (Lz t a) (nth x.2 0).toNat x i
def jcd (t:TkD) (a:Int) (x:List Int×List Int) (lo:Nat):Prop:=jca (Lz t a) (la (tc t)).toNat (F6 (tj t)).toNat x/\x.2≠[]/\x.2.length<=10/\lo<=10
end U
def glo (σ:St) (s:Nat):Nat:=match σ.get s with
 | .osl _ _ lo _=>lo
 |_=>0
def G4:we:=⟨[.val (.uint .u64),.val (.uint .u64)],[.uint .u64,.uint .u64],false,fun d=>[0<=d.1,d.1<=1000,0<=d.2.1,d.2.1<=1000],fun d=>((0:Int),d.1*d.2.1,())⟩
abbrev jfL (d:Int×Int×Unit):=(d.1/(2:Int)^Int.toNat 32*yL d.2.1 (4294967295:Int)+yL d.1 (4294967295:Int)*yL d.2.1 (4294967295:Int)/(2:Int)^Int.toNat 32)
abbrev jfc (d:Int×Int×Unit):=(d.2.1/(2:Int)^Int.toNat 32)
abbrev jhQ (d:Int×Int×Unit):=(yL (jfL d) (4294967295:Int)+yL d.1 (4294967295:Int)*(jfc d))
def G5:Prop:=∀(d:Int×Int×Unit),0<=d.1->d.1<=1000->0<=d.2.1->d.2.1<=1000->(0:Int)<=32/\(32:Int)<=64/\(0:Int)<=32/\(32:Int)<=64/\0<=yL d.1 (4294967295:Int)*yL d.2.1 (4294967295:Int)/\yL d.1 (4294967295:Int)*yL d.2.1 (4294967295:Int)<=18446744073709551615/\0<=d.1/(2:Int)^Int.toNat 32*yL d.2.1 (4294967295:Int)/\d.1/(2:Int)^Int.toNat 32*yL d.2.1 (4294967295:Int)<=18446744073709551615/\(0:Int)<=32/\(32:Int)<=64/\0<=d.1/(2:Int)^Int.toNat 32*yL d.2.1 (4294967295:Int)+yL d.1 (4294967295:Int)*yL d.2.1 (4294967295:Int)/(2:Int)^Int.toNat 32/\d.1/(2:Int)^Int.toNat 32*yL d.2.1 (4294967295:Int)+yL d.1 (4294967295:Int)*yL d.2.1 (4294967295:Int)/(2:Int)^Int.toNat 32<=18446744073709551615/\(0:Int)<=32/\(32:Int)<=64/\0<=yL d.1 (4294967295:Int)*(jfc d)/\yL d.1 (4294967295:Int)*(jfc d)<=18446744073709551615/\0<=yL (jfL d) (4294967295:Int)+yL d.1 (4294967295:Int)*(jfc d)/\yL (jfL d) (4294967295:Int)+yL d.1 (4294967295:Int)*(jfc d)<=18446744073709551615/\0<=d.1/(2:Int)^Int.toNat 32*(jfc d)/\d.1/(2:Int)^Int.toNat 32*(jfc d)<=18446744073709551615/\0<=d.1/(2:Int)^Int.toNat 32*(jfc d)+(jfL d)/(2:Int)^Int.toNat 32/\d.1/(2:Int)^Int.toNat 32*(jfc d)+(jfL d)/(2:Int)^Int.toNat 32<=18446744073709551615/\(0:Int)<=32/\(32:Int)<=64/\0<=d.1/(2:Int)^Int.toNat 32*(jfc d)+(jfL d)/(2:Int)^Int.toNat 32+(jhQ d)/(2:Int)^Int.toNat 32/\d.1/(2:Int)^Int.toNat 32*(jfc d)+(jfL d)/(2:Int)^Int.toNat 32+(jhQ d)/(2:Int)^Int.toNat 32<=18446744073709551615/\0<=d.1*d.2.1/\d.1*d.2.1<=18446744073709551615/\(d.1/(2:Int)^Int.toNat 32*(jfc d)+(jfL d)/(2:Int)^Int.toNat 32+(jhQ d)/(2:Int)^Int.toNat 32,d.1*d.2.1,())=((0:Int),d.1*d.2.1,())
def MM:we:=⟨[.val (.uint .u64),.val (.uint .u64)],[.uint .u64,.uint .u64],false,fun d=>[0<=d.1,d.1<=1000,0<=d.2.1,d.2.1<=1000],fun d=>((0:Int),d.1*d.2.1,())⟩
def MN:Prop:=∀(d:Int×Int×Unit),0<=d.1->d.1<=1000->0<=d.2.1->d.2.1<=1000->(false=true->False)/\(qF->0<=d.1/\d.1<=1000/\0<=d.2.1/\d.2.1<=1000/\((0:Int),d.1*d.2.1,())=((0:Int),d.1*d.2.1,()))
def xq:qk:=⟨[.val (.slice .int),.val .int],[.cl (.row 3 .int .no)],fun d=>[d.1.length=1,0<=d.2.1,d.2.1<=1000],fun d=>((List.replicate d.2.1.toNat (nth d.1 0),()),())⟩
def xr:Ann:=fun r=>match r with
 |8=>some fun σ=>{X:=Nat,sl:=fun n=>[(8,.dat .int (n:Int))],ob:=fun n=>[(7,some (.row 3 .int false .no (gI (nth (gd (.slice .int) σ 0) 0) (gd .int σ 1).toNat n)))],inv:=fun n=>n<=(gd .int σ 1).toNat/\(1<=n\/(gd .int σ 1).toNat=0),mu:=fun n=>(gd .int σ 1).toNat-n}
 |_=>none
abbrev jfj (d:List Int×Int×Unit):=(d.1.length:Int)
abbrev jgF (d:List Int×Int×Unit):=(List.replicate ((jfj d)*d.2.1).toNat (0:Int))
abbrev jgG (d:List Int×Int×Unit)(x:Nat):=(gI (nth d.1 0) d.2.1.toNat x)
abbrev jf4 (d:List Int×Int×Unit)(x:Nat):=(↑(jgG d x).length:Int)
abbrev jhR (x:Nat)(d:List Int×Int×Unit):=(List.take ((x:Int).toNat-Int.toNat 0) (List.drop (Int.toNat 0) (jgG d x)))
abbrev jhg (d:List Int×Int×Unit)(x:Nat):=((jf4 d x).toNat-(x:Int).toNat)
abbrev jit (d:List Int×Int×Unit):=(decide ((0:Int)<0)||decide (9223372036854775807<(jfj d)*d.2.1))
def xt:Prop:=∀(d:List Int×Int×Unit),d.1.length=1->0<=d.2.1->d.2.1<=1000->(decide (d.2.1<0)=true->False)/\(decide (d.2.1<0)=false->d.1.length<4611686018427387904->0<=(jfj d)/\(jfj d)<=18446744073709551615/\0<=d.2.1/\d.2.1<=18446744073709551615/\0<=(jfj d)/\(jfj d)<=1000/\0<=d.2.1/\d.2.1<=1000/\((jit d)=true->False)/\((jit d)=false->kH ((jfj d)*d.2.1)/\0<=(jfj d)*d.2.1/\(jfj d)*d.2.1=(jfj d)*d.2.1/\((jfj d)*d.2.1).toNat*8<=140737488355328/\0+(jgF d).length<=(jgF d).length/\(∃(x:Nat),(((↑(List.take (jgF d).length d.1).length:Int)=(x:Int)/\True)/\Tj (jgF d) 0 (jgF d).length d.1=gI (nth d.1 0) d.2.1.toNat x/\True)/\x<=d.2.1.toNat/\(1<=x\/d.2.1.toNat=0))/\∀(x:Nat),x<=d.2.1.toNat/\(1<=x\/d.2.1.toNat=0)->(jgG d x).length<4611686018427387904->(decide ((x:Int)<(jf4 d x))=true->0<=(x:Int)/\(x:Int)<=(jf4 d x)/\(jf4 d x)<=(jf4 d x)/\(0:Int)<=0/\0<=(x:Int)/\(x:Int)<=(jf4 d x)/\(x:Int).toNat+(jhg d x)<=(jgG d x).length/\kH ((x:Int)+(List.take (jhg d x) (jhR x d)).length)/\∃(a:Nat),(((x:Int)+(List.take (jhg d x) (jhR x d)).length=(a:Int)/\True)/\Tj (jgG d x) (x:Int).toNat (jhg d x) (jhR x d)=gI (nth d.1 0) d.2.1.toNat a/\True)/\(a<=d.2.1.toNat/\(1<=a\/d.2.1.toNat=0))/\d.2.1.toNat-a<d.2.1.toNat-x)/\(decide ((x:Int)<(jf4 d x))=false->(gI (nth d.1 0) d.2.1.toNat x,())=(List.replicate d.2.1.toNat (nth d.1 0),())/\()=())))
def yI:we:=⟨[.val (.ptr tTk),.val (.uint .u64)],[.slice .int],false,fun d=>[d.1.isSome=true,bY (U.tk d.1)],fun d=>(fY (U.tk d.1) d.2.1,())⟩
def G6:Ann:=fun r=>match r with
 |4=>some fun σ=>{X:=Nat×List Int,sl:=fun x=>[(6,.osl 6 .int x.2.length (wA (U.tk (gd (.ptr tTk) σ 0)) (gd (.uint .u64) σ 1) x.1).2.length)],ob:=fun x=>[(5,some (.row 3 .int false .no (wA (U.tk (gd (.ptr tTk) σ 0)) (gd (.uint .u64) σ 1) x.1).1)),(6,some (.row 3 .int false .no (x.2++(wA (U.tk (gd (.ptr tTk) σ 0)) (gd (.uint .u64) σ 1) x.1).2)))],inv:=fun x=>x.2.length<=x.1/\x.1<=(U.la (U.tc (U.tk (gd (.ptr tTk) σ 0)))).toNat,mu:=fun x=>(U.la (U.tc (U.tk (gd (.ptr tTk) σ 0)))).toNat+1-x.1}
 |7=>some fun σ=>{X:=Nat×List Int,sl:=fun x=>[(28,.any),(35,.dat .int (x.1:Int)),(6,.osl 6 .int x.2.length (yT (U.tk (gd (.ptr tTk) σ 0)) (gd (.uint .u64) σ 1) (gr .int σ 5,(gr .int σ 6).drop (glo σ 6)) x.1).2.length)],ob:=fun x=>[(5,some (.row 3 .int false .no (yT (U.tk (gd (.ptr tTk) σ 0)) (gd (.uint .u64) σ 1) (gr .int σ 5,(gr .int σ 6).drop (glo σ 6)) x.1).1)),(6,some (.row 3 .int false .no (x.2++(yT (U.tk (gd (.ptr tTk) σ 0)) (gd (.uint .u64) σ 1) (gr .int σ 5,(gr .int σ 6).drop (glo σ 6)) x.1).2)))],inv:=fun x=>x.1<=(gr .int σ 5).length/\x.2.length<=glo σ 6/\jcd (U.tk (gd (.ptr tTk) σ 0)) (gd (.uint .u64) σ 1) (gr .int σ 5,(gr .int σ 6).drop (glo σ 6)) (glo σ 6),mu:=fun x=>(gr .int σ 5).length-x.1}
 |2000011=>some fun _=>{X:=Unit,sl:=fun _=>[],ob:=fun _=>[],inv:=fun _=>True,mu:=fun _=>0}
 |_=>none
abbrev jfC (d:Option (CrD×JbD×LwD×Unit)×Int×Unit):=(kV (((0:Int),[],[],()),((0:Int),(0:Int),(0:Int),(0:Int),(0:Int),(0:Int),()),((0:Int),(0:Int),false,()),()) d.1)
abbrev jeS (d:Option (CrD×JbD×LwD×Unit)×Int×Unit)(x:Nat×List Int):=(wA (U.tk d.1) d.2.1 x.1)
abbrev jgh (d:Option (CrD×JbD×LwD×Unit)×Int×Unit)(x:Nat×List Int):=((jeS d x).1,List.drop x.2.length (x.2++(jeS d x).2))
abbrev jeJ (d:Option (CrD×JbD×LwD×Unit)×Int×Unit)(x:Nat×List Int)(a:Nat×List Int):=(yT (U.tk d.1) d.2.1 (jgh d x) a.1)
abbrev jfq (d:Option (CrD×JbD×LwD×Unit)×Int×Unit)(x:Nat×List Int)(a:Nat×List Int):=(nth (jeJ d x a).1 (a.1:Int).toNat<0)
abbrev jfM (a:Nat×List Int):=(a.2.length+Int.toNat 0)
abbrev jgi (d:Option (CrD×JbD×LwD×Unit)×Int×Unit)(x:Nat×List Int)(a:Nat×List Int):=(yT (U.tk d.1) d.2.1 (jgh d x) a.1)
def G7:Prop:=∀(d:Option (CrD×JbD×LwD×Unit)×Int×Unit),d.1.isSome=true->bY (U.tk d.1)->d.1.isSome=true/\[(-1:Int)].length=1/\(0:Int)<=(jfC d).1.1/\(jfC d).1.1<=1000/\d.1.isSome=true/\(0:Int)<=(jfC d).2.1.2.1/\(jfC d).2.1.2.1<(↑(List.replicate (jfC d).1.1.toNat (nth [(-1:Int)] 0)).length:Int)/\d.1.isSome=true/\(∃(x:Nat×List Int),(((x.2.length=0/\(jeS d x).2.length=[(jfC d).2.1.2.1].length)/\True)/\(List.replicate (jfC d).1.1.toNat (nth [(-1:Int)] 0)).set (jfC d).2.1.2.1.toNat 0=(jeS d x).1/\[(jfC d).2.1.2.1]=x.2++(jeS d x).2/\True)/\x.2.length<=x.1/\x.1<=(U.la (U.tc (U.tk d.1))).toNat)/\∀(x:Nat×List Int),x.2.length<=x.1/\x.1<=(U.la (U.tc (U.tk d.1))).toNat->(jeS d x).2.length<4611686018427387904->(decide ((0:Int)<(jeS d x).2.length)=true->(jeS d x).1.length<4611686018427387904->(∃(a:Nat×List Int),((0=(a.1:Int)/\(x.2.length=a.2.length/\(jeS d x).2.length=(jeJ d x a).2.length)/\True)/\(jeS d x).1=(jeJ d x a).1/\x.2++(jeS d x).2=a.2++(jeJ d x a).2/\True)/\a.1<=(jeS d x).1.length/\a.2.length<=x.2.length/\jcd (U.tk d.1) d.2.1 (jgh d x) x.2.length)/\∀(a:Nat×List Int),a.1<=(jeS d x).1.length/\a.2.length<=x.2.length/\jcd (U.tk d.1) d.2.1 (jgh d x) x.2.length->(decide ((a.1:Int)<(jeS d x).1.length)=true->0<=(a.1:Int)/\(a.1:Int)<(jeJ d x a).1.length/\(decide (jfq d x a)=true->(0:Int)<=0)/\(decide (jfq d x a)=true->(0:Int)<(jeJ d x a).2.length)/\(decide (jfq d x a)=true->d.1.isSome=true)/\(decide (jfq d x a)=true->bY (U.tk d.1))/\(decide (jfq d x a)=true->0<=nth (a.2++(jeJ d x a).2) (jfM a))/\(decide (jfq d x a)=true->nth (a.2++(jeJ d x a).2) (jfM a)<U.la (U.tc (U.tk d.1)))/\(decide (jfq d x a)=true->0<=(a.1:Int))/\(decide (jfq d x a)=true->(a.1:Int)<U.la (U.tc (U.tk d.1)))/\((decide (jfq d x a)&&mc (U.tk d.1) d.2.1 (nth (a.2++(jeJ d x a).2) (jfM a)) (a.1:Int))=true->(0:Int)<=0/\(0:Int)<(jeJ d x a).2.length/\0<=nth (a.2++(jeJ d x a).2) (jfM a)/\nth (a.2++(jeJ d x a).2) (jfM a)<(↑(jeJ d x a).1.length:Int)/\kH (nth (jeJ d x a).1 (nth (a.2++(jeJ d x a).2) (jfM a)).toNat+1)/\0<=(a.1:Int)/\(a.1:Int)<(jeJ d x a).1.length/\a.2.length+(jeJ d x a).2.length=(a.2++(jeJ d x a).2).length/\0<(jeJ d x a).2.length/\a.2.length+(jeJ d x a).2.length+[(a.1:Int)].length<4611686018427387904/\((jeJ d x a).2.length+[(a.1:Int)].length)*8<=140737488355328/\∀(pre:List Int),pre.length<=a.2.length->kH ((a.1:Int)+1)/\∃(b:Nat×List Int),(((a.1:Int)+1=(b.1:Int)/\(pre.length=b.2.length/\(jeJ d x a).2.length+[(a.1:Int)].length=(jgi d x b).2.length)/\True)/\pre++List.drop a.2.length (a.2++(jeJ d x a).2)++[(a.1:Int)]=b.2++(jgi d x b).2/\(jeJ d x a).1.set (a.1:Int).toNat (nth (jeJ d x a).1 (nth (a.2++(jeJ d x a).2) (jfM a)).toNat+1)=(jgi d x b).1/\True)/\(b.1<=(jeS d x).1.length/\b.2.length<=x.2.length/\jcd (U.tk d.1) d.2.1 (jgh d x) x.2.length)/\(jeS d x).1.length-b.1<(jeS d x).1.length-a.1)/\((decide (jfq d x a)&&mc (U.tk d.1) d.2.1 (nth (a.2++(jeJ d x a).2) (jfM a)) (a.1:Int))=false->kH ((a.1:Int)+1)/\∃(b:Nat×List Int),(((a.2.length=b.2.length/\(jeJ d x a).2.length=(jgi d x b).2.length)/\(a.1:Int)+1=(b.1:Int)/\True)/\a.2++(jeJ d x a).2=b.2++(jgi d x b).2/\(jeJ d x a).1=(jgi d x b).1/\True)/\(b.1<=(jeS d x).1.length/\b.2.length<=x.2.length/\jcd (U.tk d.1) d.2.1 (jgh d x) x.2.length)/\(jeS d x).1.length-b.1<(jeS d x).1.length-a.1))/\(decide ((a.1:Int)<(jeS d x).1.length)=false->(0:Int)<=1/\(1:Int)<=(jeJ d x a).2.length/\(↑(jeJ d x a).2.length:Int)<=(jeJ d x a).2.length/\∃(b:Nat×List Int),(((a.2.length+Int.toNat 1=b.2.length/\(↑(jeJ d x a).2.length:Int).toNat-Int.toNat 1=(wA (U.tk d.1) d.2.1 b.1).2.length)/\True)/\(jeJ d x a).1=(wA (U.tk d.1) d.2.1 b.1).1/\a.2++(jeJ d x a).2=b.2++(wA (U.tk d.1) d.2.1 b.1).2/\True)/\(b.2.length<=b.1/\b.1<=(U.la (U.tc (U.tk d.1))).toNat)/\(U.la (U.tc (U.tk d.1))).toNat+1-b.1<(U.la (U.tc (U.tk d.1))).toNat+1-x.1))/\(decide ((0:Int)<(jeS d x).2.length)=false->((jeS d x).1,())=(fY (U.tk d.1) d.2.1,()))
theorem G8 {x:Int} (a:0<=x) (b:x<=4294967295):yL x 4294967295=x:=by
 obtain⟨n,rfl⟩:∃n:Nat,x=(n:Int):=⟨x.toNat,by omega⟩;rw[show(4294967295:Int)=((4294967295:Nat):Int) from rfl,BT.uand_nat (by omega) (by omega),show(4294967295:Nat)=2^32-1 from rfl,Nat.and_two_pow_sub_one_eq_mod,Nat.mod_eq_of_lt (by omega)]
theorem JD:G5:=by
 unfold G5 jhQ jfc jfL;rintro⟨x,y,⟨⟩⟩ b c a d;simp only at b c a d;have f:=G8 b (by omega);have g:=G8 a (by omega);have e:=G8 (x:=0) (by omega) (by omega);have h:x/2^Int.toNat 32=0:=Int.ediv_eq_zero_of_lt b (by show x<2^32;omega);have i:y/2^Int.toNat 32=0:=Int.ediv_eq_zero_of_lt a (by show y<2^32;omega);have k:0<=x*y:=Int.mul_nonneg b a;have l:x*y<=1000*1000:=Int.mul_le_mul c d a (by omega);have c1:x*y/2^Int.toNat 32=0:=Int.ediv_eq_zero_of_lt k (by show x*y<2^32;omega);have j:(0:Int)/2^Int.toNat 32=0:=Int.zero_ediv _;simp only[f,g,h,i,Int.zero_mul,Int.mul_zero,Int.add_zero,c1,e,j]
 and_intros<;>first|omega|rfl|trivial
theorem G9:wn PR 237 G4:=kY JD Tryz.func237 kcN koN
theorem Re:MN:=by
 rintro⟨x,y,⟨⟩⟩ a b c d;exact⟨fun h=>(by cases h),fun _=>⟨a,b,c,d,rfl⟩⟩
theorem MO:wn PR 229 MM:=kY Re Tryz.func229 (kcC G9 kcN) koN
theorem Ha {x:Int} {N n:Nat} (h:n<=N):(gI x N n).length=N:=by
 unfold gI;simp;omega
theorem JE {x:Int} {N n:Nat} (_:n<=N):(gI x N n).take n=List.replicate n x:=by
 unfold gI;rw[List.take_append_of_le_length (by simp),zv (by simp)]
theorem U7 {x:Int} {N n:Nat} (h:n<=N):Tj (gI x N n) n (N-n) (List.replicate n x)=gI x N (n+min (N-n) n):=by
 unfold Tj;rw[JE h,List.take_replicate,zu];unfold gI;rw[List.drop_append,zu,List.drop_of_length_le (by simp),jZ,List.drop_replicate,<-List.replicate_append_replicate];congr 2;omega
theorem Cn:xt:=by
 unfold xt jit jhg jhR jf4 jgG jgF jfj;rintro⟨l,n,⟨⟩⟩ b g e;simp only at b g e;obtain⟨N,rfl⟩:∃N:Nat,n=(N:Int):=⟨n.toNat,by omega⟩;obtain⟨y,rfl⟩:∃y,l=[y]:=by
  cases l with
  |nil=>simp at b
  |cons y r=>cases r with
   |nil=>exact⟨y,rfl⟩
   |cons z r=>simp at b
 have c:(([y].length:Nat):Int)*(N:Int)=(N:Int):=(by simp);have f:nth [y] 0=y:=rfl
 dsimp only
 refine⟨fun h=> ?_,fun _ _=>⟨by simp,by simp,by omega,by omega,by simp,by simp,by omega,e,fun h=> ?_,fun _=> ?_⟩⟩;have:=ja h;omega;rw[c] at h;have h:(9223372036854775807:Int)<(N:Int):=(by simpa using h);omega;rw[c,f];simp only[jw,zu];refine⟨iZ6,by omega,tZ,by omega,by omega,⟨min 1 N,⟨⟨?_,tZ⟩,?_,tZ⟩,by omega,by omega⟩,fun x a i=>⟨fun h=> ?_,fun h=> ?_⟩⟩;rw[jY];simp only[j7,zo];omega;rcases zO N with d|d;subst d;rfl;obtain⟨M,rfl⟩:∃M,N=M+1:=⟨N-1,by omega⟩;have:min 1 (M+1)=1:=(by omega);rw[this];simp[Tj,gI,List.replicate_succ];have h:=ja h;rw[Ha a.1] at h;simp only[Ha a.1,Int.toNat_zero,List.drop_zero,Nat.sub_zero,JE a.1,List.take_replicate,zu];refine⟨by omega,by omega,by omega,by omega,by omega,by omega,by omega,iZ6,x+min (N-x) x,⟨⟨by omega,tZ⟩,U7 a.1,tZ⟩,⟨by omega,by omega⟩,by omega⟩;have h:=jc h;rw[Ha a.1] at h;have h:x=N:=(by have:=a.1;omega);subst h;refine⟨?_,tZ⟩;unfold gI;rw[Nat.sub_self];simp
theorem xu:yR PR 209 xq:=rK xr Cn Tryz.func209 (kcC MO kcN) koN
theorem ja3 {a b:List Int}:nth (a++b) (a.length+Int.toNat 0)=nth b 0:=by
 unfold nth;simp only[zf,Int.toNat_zero,zK];rw[jx (jk _),Nat.sub_self]
theorem JF {t:TkD} {s:Int} (a:bY t):2<=U.la (U.tc t)/\U.la (U.tc t)<=5/\0<=F6 (U.tj t)/\F6 (U.tj t)<U.la (U.tc t):=by
 obtain⟨c1,c2,_⟩:=a;obtain⟨b,c,_⟩:=wo c1;obtain⟨_,⟨d,e⟩,_⟩:=lG c2;exact⟨b,c,d,e⟩
theorem JG:G7:=by
 unfold G7 jgi jfM jfq jeJ jgh jeS jfC;rintro⟨(_|t),s,⟨⟩⟩ h0 m;cases h0;have m:bY t:=m;obtain⟨l1,l2,j1,j2⟩:=JF (s:=s) m;have w:U.tk (some t)=t:=rfl;obtain⟨n,A⟩:∃n,n=(U.la (U.tc t)).toNat:=⟨_,rfl⟩;obtain⟨v,hv⟩:∃v,v=(F6 (U.tj t)).toNat:=⟨_,rfl⟩;have Z:v<n:=(by omega);have X:∀k,jca (Lz t s) n v (wA t s k)/\((wA t s k).2=[]\/Jh (wA t s k).1+(wA t s k).2.length+k=n):=by
  intro k;rw[A,hv] at*;exact Cc Z k
 refine⟨rfl,rfl,(by omega:0<=U.la (U.tc t)),(by omega:U.la (U.tc t)<=1000),rfl,j1,?_,rfl,⟨(0,[]),⟨⟨⟨rfl,rfl⟩,tZ⟩,rfl,?_,tZ⟩,jk _,ju _⟩,fun x hx S=>⟨fun j T=> ?_,fun h=> ?_⟩⟩;show F6 (U.tj t)<(((List.replicate (U.la (U.tc t)).toNat (nth [(-1:Int)] 0)).length:Nat):Int);rw[zu];omega;show[F6 (U.tj t)]=[]++[(((F6 (U.tj t)).toNat:Nat):Int)];rw[jZ,Int.toNat_of_nonneg j1];obtain⟨k,pre⟩:=x;obtain⟨W,H⟩:=hx;simp only[w,List.drop_left] at W H j T S⊢;rw[<-A] at H⊢;obtain⟨B,o⟩:=X k;have j:0<(wA t s k).2.length:=(by have:=ja j;omega);have d:(wA t s k).2≠[]:=fun e=>by rw[e] at j;simp at j
 have F:=B.i.len;rcases o with o|o;exact absurd o d;have p:wA t s (k+1)=gz (Lz t s) n (wA t s k):=(by rw[A];rfl);generalize V:wA t s k=x0 at*;obtain⟨g,r0,a⟩:∃q r,x0.2=q::r:=by
  cases I:x0.2 with
  |nil=>exact absurd I d
  |cons q r=>exact⟨q,r,rfl⟩
 obtain⟨L,g2,g3⟩:=B.i.que g (by rw[a];simp);have y:nth x0.2 0=g:=(by rw[a];rfl);have hla:((n:Nat):Int)=U.la (U.tc t):=(by omega);have f:jcd t s (x0.1,x0.2) pre.length:=by
  unfold jcd;rw[<-A,<-hv];exact⟨B,d,by simp only;omega,by omega⟩
 refine⟨⟨(0,pre),⟨⟨rfl,⟨rfl,rfl⟩,tZ⟩,rfl,rfl,tZ⟩,ju _,jk _,f⟩,?_⟩;rintro⟨i,p5⟩ ⟨hi,Q,_⟩;simp only at hi Q;have C:InI (Lz t s) n v g.toNat i x0 (yT t s (x0.1,x0.2) i):=by
  have:=UZ (J:=Lz t s) Z (q:=g.toNat) (by omega) g3 B.i B.le i (by omega);unfold yT;simp only[y];exact this
 have c:yT t s (x0.1,x0.2) (i+1)=sL (Lz t s) g.toNat (yT t s (x0.1,x0.2) i) i:=by
  unfold yT;simp only[y];exact FN _ _ _ _
 have D:i=n->wA t s (k+1)=((yT t s (x0.1,x0.2) i).1,(yT t s (x0.1,x0.2) i).2.drop 1):=by
  intro e;subst e;rw[p];have:gz (Lz t s) i x0=((sM (Lz t s) g.toNat x0 i).1,(sM (Lz t s) g.toNat x0 i).2.drop 1):=by
   clear p c C f F d B X V;obtain⟨st,qu⟩:=x0;simp only at a;subst a;rfl
  rw[this];unfold yT;simp only[y]
 generalize hFI:yT t s (x0.1,x0.2) i=u at*;obtain⟨l,P⟩:=C.pre;have hQ:nth u.2 0=g:=(by rw[P,a];rfl);have G:0<u.2.length:=(by rw[P,a];simp);have hmu:=C.mu;have hFl:=C.i.len;have E:∀i:Nat,Lz t s g.toNat i=mc t s g (i:Int):=by
  intro i;unfold Lz;rw[Int.toNat_of_nonneg L]
 simp only[ja3,hQ];simp only[jw];refine⟨fun h=> ?_,fun h=> ?_⟩;have h:i<n:=(by have:=ja h;omega);refine⟨by omega,by omega,fun _=>by omega,fun _=>by omega,fun _=>rfl,fun _=>m,fun _=>L,fun _=>by omega,fun _=>by omega,fun _=>by omega,fun z=> ?_,fun z=> ?_⟩;rw[ji] at z;have h3:=ja z.1;have Y:=C.i.low g.toNat (by omega);have b:yT t s (x0.1,x0.2) (i+1)=(u.1.set i (nth u.1 g.toNat+1),u.2++[(i:Int)]):=by
  rw[c];unfold sL;rw[jh ⟨h3,by rw[E];exact z.2⟩]
 refine⟨by omega,by omega,L,by omega,iZ6,by omega,by omega,by simp,G,by simp only[j7,zo];omega,by simp only[j7,zo];omega,fun K R=>⟨iZ6,(i+1,K),⟨⟨by simp,⟨rfl,?_⟩,tZ⟩,?_,?_,tZ⟩,⟨by simp only;omega,by simp only;omega,f⟩,by simp only;omega⟩⟩;rw[b];simp;rw[b,jM];rw[b];have b:yT t s (x0.1,x0.2) (i+1)=u:=by
  rw[c];unfold sL;rw[jd (fun N=>by
   rw[E] at N;rw[N.2,jH N.1] at z;cases z)]
 refine⟨iZ6,(i+1,p5),⟨⟨⟨rfl,?_⟩,by simp,tZ⟩,?_,?_,tZ⟩,⟨by simp only;omega,by simp only;omega,f⟩,by simp only;omega⟩;rw[b];rw[b];rw[b];have h:i=n:=(by have:=jc h;omega);have O:=D h;have M:u.2=g::(r0++l):=(by rw[P,a];rfl);refine⟨by omega,by omega,by omega,(k+1,p5++[g]),⟨⟨⟨?_,?_⟩,tZ⟩,?_,?_,tZ⟩,⟨by simp only[jL,j7,zo];omega,by simp only;omega⟩,by simp only;omega⟩;simp only[jL,j7,zo];rfl;rw[O];simp only[zD];rfl;rw[O];rw[O,M];simp;simp only[w] at h⊢;have h:(wA t s x.1).2=[]:=by
  have:=jc h;exact zj (by omega)
 have hk:x.1<=n:=(by have:=hx.2;rw[w,<-A] at this;exact this);have h1:gL (Lz t s) (U.la (U.tc t)).toNat (F6 (U.tj t)).toNat ((U.la (U.tc t)).toNat+1)=wA t s x.1:=X5 (k:=x.1) h _ (by rw[<-A];omega);show((wA t s x.1).1,())=((gL (Lz t s) (U.la (U.tc t)).toNat (F6 (U.tj t)).toNat ((U.la (U.tc t)).toNat+1)).1,());rw[h1]
theorem Hb:wn PR 161 yI:=qG G6 JG Tryz.func161 (kcC xp kcN) (koC xu koN)
namespace U
def cw (t:TkD) (o:Int) (q:List (Int×PeD×Unit)):Int:=q.foldl (fun o x=>uor o (vA t x.2.1)) o
def eG (q:List (Int×PeD×Unit)):Bool:=q.any (fun x=>jbV x.2.1)
def EU (b:Bool) (o k:Int):Int:=if b=true then uor o k else o
def qW (t:TkD) (s:Int):Int:=EU (decide (nth (fY t s) (Ly (tj t)).toNat<0)) (EU (jdD (tl t)&& !eG (u7 t s)) (EU (decide (BT.size s≠max (Zg (tj t)) (jbW (tl t)))) (cw t 0 (u7 t s)) 8) 16) 32
def Ie (c:CrD) (n:Int):Bool:=kl n 0 (2^(kz c).length-1)
def aJ (c:CrD) (j:JbD) (n:Int):Int:=if qH c j≠0 then qH c j else if Ie c n=true then 0 else 1
def jce (c:CrD) (j:JbD) (n:Int):Int:=if aJ c j n=0 then qW (c,j,cv c j,()) n else 0
def bZ (c:CrD) (j:JbD) (n:Nat):List Int:=((List.range n).filter (fun i=>decide (vA (c,j,cv c j,()) (nth (kz c) i)=0))).map (fun(i:Nat)=>(i:Int))
def cO (c:CrD) (j:JbD):List Int:=if qH c j=0 then bZ c j (kz c).length else[]
end U
def vw:we:=⟨[.val (.ptr tTk),.val tPe],[.uint .u64],false,fun d=>[d.1.isSome=true,bY (U.tk d.1)],fun d=>(vA (U.tk d.1) d.2.1,())⟩
def U8:I7 [.int,tPe]:={ps:=[.ref (.ptr tTk),.own (.box 159 [.dat (.uint .u64)]) true,.own (.box 4 [.dat .bool]) true],slots:=[2,4,5],dst:=65,pre:=fun d=>[d.1.isSome=true,bY (U.tk d.1)],G:=fun d q=>((cw (U.tk d.1) d.2.1.1 q,()),(d.2.2.1.1||eG q,()),()),seq:=PK}
def Co:Nat->Option ((ts:List Ty)×I7 ts):=fun r=>match r with
 |4=>some ⟨[.int,tPe],U8⟩
 |_=>none
def ij:we:=⟨[.val (.ptr tTk),.val (.uint .u64)],[.uint .u64],false,fun d=>[d.1.isSome=true,bY (U.tk d.1),BT.w4 d.2.1],fun d=>(qW (U.tk d.1) d.2.1,())⟩
abbrev jeY (d:Option (CrD×JbD×LwD×Unit)×Int×Unit):=(kV (((0:Int),[],[],()),((0:Int),(0:Int),(0:Int),(0:Int),(0:Int),(0:Int),()),((0:Int),(0:Int),false,()),()) d.1)
abbrev jfN (d:Option (CrD×JbD×LwD×Unit)×Int×Unit):=(nth (fY (U.tk d.1) d.2.1) (jeY d).2.1.1.toNat<0)
abbrev jfD (d:Option (CrD×JbD×LwD×Unit)×Int×Unit):=(qW (U.tk d.1) d.2.1,())
abbrev jhS:=(fun(a:List (Int×PeD×Unit))=>false)
abbrev jhh (d:Option (CrD×JbD×LwD×Unit)×Int×Unit):=(↑(fY (U.tk d.1) d.2.1).length:Int)
def ik:Prop:=∀(d:Option (CrD×JbD×LwD×Unit)×Int×Unit),d.1.isSome=true->bY (U.tk d.1)->BT.w4 d.2.1->(d.1.isSome=true/\(kz (U.tc (U.tk d.1))).length<=60)/\(d.1.isSome=true/\bY (U.tk d.1)/\True)/\(d.1,(cw (U.tk d.1) (0:Int) [],()),(false||eG [],()),())=(d.1,((0:Int),()),(false,()),())/\(∀(q:List (Int×PeD×Unit)) (x:Int×PeD×Unit) (rest:List (Int×PeD×Unit)),q++x::rest=u7 (U.tk d.1) d.2.1->yc jhS q->d.1.isSome=true/\bY (U.tk d.1)/\qF/\((uor (cw (U.tk d.1) (0:Int) q) (vA (U.tk d.1) x.2.1),()),(false||eG q||x.2.1.q4.1,()),())=((cw (U.tk d.1) (0:Int) (q++[x]),()),(false||eG (q++[x]),()),()))/\(∀(xs:List (Int×PeD×Unit)),xs=u7 (U.tk d.1) d.2.1->yc jhS xs->BT.w4 d.2.1/\d.1.isSome=true/\d.1.isSome=true/\(decide (BT.size d.2.1≠max (jeY d).2.1.q4.2.1 (jeY d).2.2.1.2.1)=true->d.1.isSome=true/\(((jeY d).2.2.1.2.2.1&& !(false||eG xs))=true->d.1.isSome=true/\bY (U.tk d.1)/\d.1.isSome=true/\(0:Int)<=(jeY d).2.1.1/\(jeY d).2.1.1<(jhh d)/\(decide (jfN d)=true->(uor (uor (uor (cw (U.tk d.1) (0:Int) xs) (8:Int)) (16:Int)) (32:Int),())=(jfD d))/\(decide (jfN d)=false->(uor (uor (cw (U.tk d.1) (0:Int) xs) (8:Int)) (16:Int),())=(jfD d)))/\(((jeY d).2.2.1.2.2.1&& !(false||eG xs))=false->d.1.isSome=true/\bY (U.tk d.1)/\d.1.isSome=true/\(0:Int)<=(jeY d).2.1.1/\(jeY d).2.1.1<(jhh d)/\(decide (jfN d)=true->(uor (uor (cw (U.tk d.1) (0:Int) xs) (8:Int)) (32:Int),())=(jfD d))/\(decide (jfN d)=false->(uor (cw (U.tk d.1) (0:Int) xs) (8:Int),())=(jfD d))))/\(decide (BT.size d.2.1≠max (jeY d).2.1.q4.2.1 (jeY d).2.2.1.2.1)=false->d.1.isSome=true/\(((jeY d).2.2.1.2.2.1&& !(false||eG xs))=true->d.1.isSome=true/\bY (U.tk d.1)/\d.1.isSome=true/\(0:Int)<=(jeY d).2.1.1/\(jeY d).2.1.1<(jhh d)/\(decide (jfN d)=true->(uor (uor (cw (U.tk d.1) (0:Int) xs) (16:Int)) (32:Int),())=(jfD d))/\(decide (jfN d)=false->(uor (cw (U.tk d.1) (0:Int) xs) (16:Int),())=(jfD d)))/\(((jeY d).2.2.1.2.2.1&& !(false||eG xs))=false->d.1.isSome=true/\bY (U.tk d.1)/\d.1.isSome=true/\(0:Int)<=(jeY d).2.1.1/\(jeY d).2.1.1<(jhh d)/\(decide (jfN d)=true->(uor (cw (U.tk d.1) (0:Int) xs) (32:Int),())=(jfD d))/\(decide (jfN d)=false->(cw (U.tk d.1) (0:Int) xs,())=(jfD d)))))/\∀(q:List (Int×PeD×Unit)) (x:Int×PeD×Unit) (rest:List (Int×PeD×Unit)),q++x::rest=u7 (U.tk d.1) d.2.1->yc jhS q->false=true->(cw (U.tk d.1) (0:Int) (q++[x]),())=(jfD d)
theorem o7:(PH (Lx 64 [(106,vw),(160,yH),(161,yI)] [] [(159,wh)] []) ij (fun _ _=>none) (hkC (Lx 64 [(106,vw),(160,yH),(161,yI)] [] [(159,wh)] []) (fun _=>none) Co [] []) Tryz.f113 (wz Tryz.f113))=ik:=by kernel_rfl
def U9:we:=⟨[.val tCr,.val tJb,.val .int],[.ptr tTk,.int],false,fun _=>[],fun d=>(F7 d.1 d.2.1,aJ d.1 d.2.1 d.2.2.1,())⟩
abbrev jgj (d:CrD×JbD×Int×Unit):=(qH d.1 d.2.1=0)
abbrev jiu (d:CrD×JbD×Int×Unit):=(decide (jgj d)&& !kl d.2.2.1 (0:Int) ((1:Int)*2^(d.1.2.1.length:Int).toNat-1))
def Va:Prop:=∀(d:CrD×JbD×Int×Unit),(decide (jgj d)=true->d.1.2.1.length<4611686018427387904)->(decide (jgj d)=true->0<=(d.1.2.1.length:Int))/\(decide (jgj d)=true->(d.1.2.1.length:Int)<=64)/\(decide (jgj d)=true->kH ((1:Int)*2^(d.1.2.1.length:Int).toNat))/\(decide (jgj d)=true->kH ((1:Int)*2^(d.1.2.1.length:Int).toNat-1))/\((jiu d)=true->(F7 d.1 d.2.1,(1:Int),())=(F7 d.1 d.2.1,aJ d.1 d.2.1 d.2.2.1,()))/\((jiu d)=false->(F7 d.1 d.2.1,qH d.1 d.2.1,())=(F7 d.1 d.2.1,aJ d.1 d.2.1 d.2.2.1,()))
def MP:we:=⟨[.val tCr,.val tJb,.val .int],[.int,.int],false,fun _=>[],fun d=>(jce d.1 d.2.1 d.2.2.1,aJ d.1 d.2.1 d.2.2.1,())⟩
def MQ:Prop:=∀(d:CrD×JbD×Int×Unit),(decide (aJ d.1 d.2.1 d.2.2.1≠0)=true->((0:Int),aJ d.1 d.2.1 d.2.2.1,())=(jce d.1 d.2.1 d.2.2.1,aJ d.1 d.2.1 d.2.2.1,()))/\(decide (aJ d.1 d.2.1 d.2.2.1≠0)=false->0<=d.2.2.1/\d.2.2.1<=18446744073709551615/\(F7 d.1 d.2.1).isSome=true/\bY (U.tk (F7 d.1 d.2.1))/\BT.w4 d.2.2.1/\kH (qW (U.tk (F7 d.1 d.2.1)) d.2.2.1)/\(qW (U.tk (F7 d.1 d.2.1)) d.2.2.1,(0:Int),())=(jce d.1 d.2.1 d.2.2.1,aJ d.1 d.2.1 d.2.2.1,()))
def X7:we:=⟨[.val tCr,.val tJb],[.slice .int,.int],false,fun _=>[],fun d=>(cO d.1 d.2.1,qH d.1 d.2.1,())⟩
def X8:Ann:=fun r=>match r with
 |6=>some fun σ=>{X:=Nat,sl:=fun i=>[(23,.dat .int (i:Int)),(8,.own 8 .int)],ob:=fun i=>[(8,some (.row 3 .int false .yes (bZ (gd tCr σ 0) (gd tJb σ 1) i)))],inv:=fun i=>i<=(kz (gd tCr σ 0)).length,mu:=fun i=>(kz (gd tCr σ 0)).length-i}
 |_=>none
def X9:Prop:=∀(d:CrD×JbD×Unit),(decide (qH d.1 d.2.1≠0)=true->([],qH d.1 d.2.1,())=(cO d.1 d.2.1,qH d.1 d.2.1,()))/\(decide (qH d.1 d.2.1≠0)=false->d.1.2.1.length<4611686018427387904->(∃(x:Nat),((0=(x:Int)/\True/\True)/\bZ d.1 d.2.1 x=[]/\True)/\x<=(kz d.1).length)/\∀(x:Nat),x<=(kz d.1).length->(decide ((x:Int)<d.1.2.1.length)=true->0<=(x:Int)/\(x:Int)<d.1.2.1.length/\(F7 d.1 d.2.1).isSome=true/\bY (U.tk (F7 d.1 d.2.1))/\(decide (vA (U.tk (F7 d.1 d.2.1)) (nth d.1.2.1 (x:Int).toNat)=0)=true->((bZ d.1 d.2.1 x).length+[(x:Int)].length)*8<=140737488355328/\kH ((x:Int)+1)/\∃(a:Nat),(((x:Int)+1=(a:Int)/\True/\True)/\bZ d.1 d.2.1 x++[(x:Int)]=bZ d.1 d.2.1 a/\True)/\a<=(kz d.1).length/\(kz d.1).length-a<(kz d.1).length-x)/\(decide (vA (U.tk (F7 d.1 d.2.1)) (nth d.1.2.1 (x:Int).toNat)=0)=false->kH ((x:Int)+1)/\∃(a:Nat),((True/\(x:Int)+1=(a:Int)/\True)/\bZ d.1 d.2.1 x=bZ d.1 d.2.1 a/\True)/\a<=(kz d.1).length/\(kz d.1).length-a<(kz d.1).length-x))/\(decide ((x:Int)<d.1.2.1.length)=false->(bZ d.1 d.2.1 x,(0:Int),())=(cO d.1 d.2.1,qH d.1 d.2.1,())))
theorem Vb (a b c:Bool):0<=Ta a b c/\Ta a b c<=7:=by
 unfold Ta jcc;cases a<;>cases b<;>cases c<;>simp
theorem Cq (t:TkD) (p:PeD):0<=vA t p/\vA t p<=7:=Vb _ _ _
theorem JH {s:Int} (h:0<=s/\s<=1000):BT.w4 s:=by unfold BT.w4;omega
theorem Vc {a b:Int} (c:0<=a/\a<64) (d:0<=b/\b<64):0<=uor a b/\uor a b<64:=by
 obtain⟨n,rfl⟩:∃n:Nat,a=(n:Int):=⟨a.toNat,by omega⟩;obtain⟨m,rfl⟩:∃m:Nat,b=(m:Int):=⟨b.toNat,by omega⟩;rw[BT.uor_nat (by omega) (by omega)];have:n|||m<2^6:=Nat.or_lt_two_pow (by omega) (by omega);omega
theorem MR (t:TkD):∀(q:List (Int×PeD×Unit)) (o:Int),(0<=o/\o<64)->0<=cw t o q/\cw t o q<64
 |[],o,h=>h
 |x::q,o,h=>by
  have:=Cq t x.2.1
  exact MR t q _ (Vc h ⟨by omega,by omega⟩)
theorem Cr {b:Bool} {o k:Int} (h:0<=o/\o<64) (hk:0<=k/\k<64):0<=EU b o k/\EU b o k<64:=by
 unfold EU
 split
 exact Vc h hk;exact h
theorem Rf (t:TkD) (s:Int):0<=qW t s/\qW t s<64:=by
 unfold qW;exact Cr (Cr (Cr (MR t _ _ (by omega)) (by omega)) (by omega)) (by omega)
theorem Vd (t:TkD) (o:Int) (q:List (Int×PeD×Unit)) (x:Int×PeD×Unit):cw t o (q++[x])=uor (cw t o q) (vA t x.2.1):=by
 unfold cw;rw[jU];rfl
theorem Ya {t:TkD} {s:Int} (a:bY t):((fY t s).length:Int)=U.la (U.tc t):=by
 obtain⟨f,g,c,d⟩:=JF (s:=s) a;have b:(F6 (U.tj t)).toNat<(U.la (U.tc t)).toNat:=(by omega);have:=(Cc (J:=Lz t s) b ((U.la (U.tc t)).toNat+1)).1.i.len;have e:(fY t s).length=(U.la (U.tc t)).toNat:=this;omega
theorem Cs:ik:=by
 unfold ik jhh jhS jfD jfN jeY Prod.q4;rintro⟨(_|t),s,⟨⟩⟩ n a c;cases n;have a:bY t:=a;have c:BT.w4 s:=c;obtain⟨c1,c2,_⟩:=id a;obtain⟨_,_,p,_⟩:=wo c1;obtain⟨⟨m,r⟩,_⟩:=lG c2;have o:=Ya (s:=s) a;have f:U.tk (some t)=t:=rfl;have b:0<=Ly (U.tj t)/\Ly (U.tj t)<(((fY t s).length:Nat):Int):=⟨m,by omega⟩;refine⟨⟨rfl,(by omega:(kz (U.tc t)).length<=60)⟩,⟨rfl,a,tZ⟩,rfl,fun q x rest u _=>⟨rfl,a,rfl,?_⟩,fun xs g _=>⟨c,rfl,rfl,?_⟩,fun q x rest _ _ h=>by cases h⟩;simp only[f,Vd];unfold eG;simp only[List.any_append,List.any_cons,List.any_nil,Bool.or_false,Bool.false_or];rfl;simp only[f] at g⊢;subst g;have key:∀(j k l:Bool),decide (BT.size s≠max (Zg (U.tj t)) (jbW (U.tl t)))=j->(jdD (U.tl t)&& !eG (u7 t s))=k->decide (nth (fY t s) (Ly (U.tj t)).toNat<0)=l->
  EU l (EU k (EU j (cw t 0 (u7 t s)) 8) 16) 32=qW t s:=by
  intro j k l i e d;unfold qW;rw[i,e,d]
 refine⟨fun i=>⟨rfl,fun e=>⟨rfl,a,rfl,b.1,b.2,fun d=> ?_,fun d=> ?_⟩,fun e=>⟨rfl,a,rfl,b.1,b.2,fun d=> ?_,fun d=> ?_⟩⟩,fun i=>⟨rfl,fun e=>⟨rfl,a,rfl,b.1,b.2,fun d=> ?_,fun d=> ?_⟩,fun e=>⟨rfl,a,rfl,b.1,b.2,fun d=> ?_,fun d=> ?_⟩⟩⟩<;>
  (rw[Bool.false_or] at e;have:=key _ _ _ i e d;rw[<-this];rfl)
theorem Hc {c:CrD} (h:kG c=true):(0:Int)<2^(kz c).length/\(2:Int)^(kz c).length<=256:=by
 obtain⟨_,_,a,_⟩:=wo h;rw[BT.AN];have b:2^(kz c).length<=2^8:=Nat.pow_le_pow_right (by decide) a;have d:0<2^(kz c).length:=Nat.pow_pos (by decide);omega
theorem Yb:Va:=by
 unfold Va jiu jgj;rintro⟨c,j,n,⟨⟩⟩ _;have e:∀l:Nat,(1:Int)*2^((l:Int)).toNat=2^l:=fun l=>by rw[Int.one_mul,jw]
 simp only[e];refine⟨fun _=>by omega,fun h=> ?_,fun h=> ?_,fun h=> ?_,fun h=> ?_,fun h=> ?_⟩;have:=(wo (o6 (ja h)).1).2.2.1;have this:c.2.1.length<=8:=this;omega;have:=Hc (o6 (ja h)).1;have this:(0:Int)<2^c.2.1.length/\(2:Int)^c.2.1.length<=256:=this;exact iZ6;have:=Hc (o6 (ja h)).1;have this:(0:Int)<2^c.2.1.length/\(2:Int)^c.2.1.length<=256:=this;exact iZ6;rw[ji] at h;have a:=ja h.1;have b:Ie c n=false:=by
  have d:kl n 0 (2^c.2.1.length-1)=false:=(by simpa using h.2);exact d
 unfold aJ;rw[jd (by omega),jd (by rw[b];simp)];unfold aJ;by_cases a:qH c j=0;rw[jH a,Bool.true_and] at h;have b:Ie c n=true:=by
  have d:kl n 0 (2^c.2.1.length-1)=true:=(by simpa using h);exact d
 rw[jd (by omega),jh b,a];rw[jh a]
theorem Ve:wn PR 112 U9:=kY Yb Tryz.func112 (kcC JA (kcC yV kcN)) koN
theorem Rg {c:CrD} {j:JbD} {n:Int} (h:aJ c j n=0):qH c j=0/\0<=n/\n<2^(kz c).length:=by
 unfold aJ at h
 split at h
 rename_i b;omega;rename_i b
 split at h
 rename_i a;unfold Ie kl at a;simp only[ji,jm] at a;exact⟨by omega,a.1,by omega⟩;omega
theorem Rh:MQ:=by
 rintro⟨c,j,n,⟨⟩⟩;refine⟨fun h=> ?_,fun h=> ?_⟩;have h:aJ c j n≠0:=ja h;simp only;unfold jce;rw[jd h];have h:aJ c j n=0:=(by simpa using h);obtain⟨d,e,f⟩:=Rg h;obtain⟨b,e2⟩:=U5 d;have i:=Hc (o6 d).1;have a:U.tk (F7 c j)=(c,j,cv c j,()):=(by rw[b];rfl);have g:=Rf (c,j,cv c j,()) n;simp only[a];refine⟨e,by omega,by rw[b];rfl,e2,JH ⟨e,by omega⟩,iZ6,?_⟩;unfold jce;rw[jh h,h]
theorem FP (c:CrD) (j:JbD) (n:Nat):bZ c j (n+1)=bZ c j n++(if vA (c,j,cv c j,()) (nth (kz c) n)=0 then[(n:Int)] else[]):=by
 unfold bZ;rw[L.ve,zz];by_cases h:vA (c,j,cv c j,()) (nth (kz c) n)=0;rw[jh (jH h),jh h];rfl;rw[jd (by simpa using h),jd h];rfl
theorem Vf (c:CrD) (j:JbD) (n:Nat):(bZ c j n).length<=n:=by
 unfold bZ;rw[zp];exact jE (zG _ _) (by simp)
theorem ja4:X9:=by
 rintro⟨c,j,⟨⟩⟩;refine⟨fun h=> ?_,fun h _=>⟨⟨0,⟨⟨rfl,tZ,tZ⟩,rfl,tZ⟩,ju _⟩,fun x f=>⟨fun a=> ?_,fun a=> ?_⟩⟩⟩;have h:qH c j≠0:=ja h;simp only;unfold cO;rw[jd h];have h:qH c j=0:=(by simpa using h);obtain⟨e,e2⟩:=U5 h;have d:U.tk (F7 c j)=(c,j,cv c j,()):=(by rw[e];rfl);have a:x<(kz c).length:=by
  have a:=ja a;have a:(x:Int)<(kz c).length:=a;omega
 have g:(x:Int)<(kz c).length:=(by omega);have i:=(wo (o6 h).1).2.2.1;have k:=Vf c j x;simp only[d,jw];refine⟨by omega,g,by rw[e];rfl,e2,fun b=>⟨by simp only[j7,zo];omega,iZ6,x+1,⟨⟨by simp,tZ,tZ⟩,?_,tZ⟩,a,by omega⟩,fun b=>⟨iZ6,x+1,⟨⟨tZ,by simp,tZ⟩,?_,tZ⟩,a,by omega⟩⟩;have b:vA (c,j,cv c j,()) (nth (kz c) x)=0:=ja b;rw[FP,jh b];have b:¬vA (c,j,cv c j,()) (nth (kz c) x)=0:=jc b;rw[FP,jd b,j8];have h:qH c j=0:=(by simpa using h);have a:(kz c).length<=x:=by
  have a:=jc a;have a:¬(x:Int)<(kz c).length:=a;omega
 have f:x<=(kz c).length:=f;simp only;unfold cO;rw[jh h,h,show x=(kz c).length by omega]
def Ct:Ann:=fun r=>match r with
 |2=>some fun σ=>{X:=List (Int×Int)×Int,sl:=fun x=>[(4,.dat (.uint .u64) x.2)],ob:=fun x=>[(37,some (.iter .int .int x.1 none))],inv:=fun x=>aI (sO (U.tk (gd (.ptr tTk) σ 0)) (gd tPe σ 1)) x.1 x.2,mu:=fun x=>x.1.length}
 |_=>none
abbrev jf5 (d:Option (CrD×JbD×LwD×Unit)×PeD×Unit):=(kV (((0:Int),[],[],()),((0:Int),(0:Int),(0:Int),(0:Int),(0:Int),(0:Int),()),((0:Int),(0:Int),false,()),()) d.1)
def Cu:Prop:=∀(d:Option (CrD×JbD×LwD×Unit)×PeD×Unit),d.1.isSome=true->bY (U.tk d.1)->d.1.isSome=true/\d.1.isSome=true/\(0:Int)<=(jf5 d).2.1.2.2.2.1/\(jf5 d).2.1.2.2.2.1<=64/\d.1.isSome=true/\(0:Int)<=(jf5 d).2.1.q4.1/\(jf5 d).2.1.q4.1<=64/\[(0:Int),(1:Int),(2:Int)].Nodup/\∀(l:List (Int×Int)),l.Perm [((0:Int),jcc !d.2.1.2.2.2.1.any fun(e:Int)=>decide (e=(jf5 d).2.1.2.2.1)),((1:Int),iy (d.2.1.2.1/(2:Int)^(jf5 d).2.1.2.2.2.1.toNat) (1:Int)),((2:Int),iy (d.2.1.2.2.1/(2:Int)^(jf5 d).2.1.q4.1.toNat) (1:Int))]->(((∃(x:List (Int×Int)×Int),((0=x.2/\True)/\l=x.1/\True)/\aI (sO (U.tk d.1) d.2.1) x.1 x.2)/\∀(x:List (Int×Int)×Int),aI (sO (U.tk d.1) d.2.1) x.1 x.2->(x.1=[]->(false=true->False)/\(qF->(x.2,())=(vA (U.tk d.1) d.2.1,())))/\∀(pre:List (Int×Int)) (a:Int×Int) (b:List (Int×Int)),x.1=pre++a::b->(true=true->(decide (a.2=0)=true->0<=a.1/\a.1<=64/\(0:Int)<=1*2^a.1.toNat/\(1:Int)*2^a.1.toNat<=18446744073709551615/\∃(c:List (Int×Int)×Int),((uor x.2 ((1:Int)*2^a.1.toNat)=c.2/\True)/\pre++b=c.1/\True)/\aI (sO (U.tk d.1) d.2.1) c.1 c.2/\c.1.length<x.1.length)/\(decide (a.2=0)=false->∃(c:List (Int×Int)×Int),((x.2=c.2/\True)/\pre++b=c.1/\True)/\aI (sO (U.tk d.1) d.2.1) c.1 c.2/\c.1.length<x.1.length))/\(true=false->(x.2,())=(vA (U.tk d.1) d.2.1,())))/\True)/\True
theorem Yc (z:Int):iy z 1=0\/iy z 1=1:=by
 unfold iy;rw[BitVec.toNat_and];have a:(BitVec.ofInt 64 1).toNat=1:=rfl;rw[a,Nat.and_one_is_mod];rcases Nat.mod_two_eq_zero_or_one (BitVec.ofInt 64 z).toNat with h|h;rw[h];exact .inl rfl;rw[h];exact .inr rfl
theorem PL (s n:Int):(iy (s/2^n.toNat) 1=0)↔(!wy s n)=true:=by
 unfold wy;rcases Yc (s/2^n.toNat) with h|h<;>rw[h]<;>simp
theorem Yd (a b c:Bool) (p:Nat):BT.has (Ta a b c) p=true↔(a=true/\p=0)\/(b=true/\p=1)\/(c=true/\p=2):=by
 match p with
 |0=>cases a<;>cases b<;>cases c<;>decide
 |1=>cases a<;>cases b<;>cases c<;>decide
 |2=>cases a<;>cases b<;>cases c<;>decide
 |p+3=>
  have h:=Vb a b c;have:BT.has (Ta a b c) (p+3)=false:=by
   cases d:BT.has (Ta a b c) (p+3) with
   |false=>rfl
   |true=>have:=BT.has_lt (k:=3) h.1 (by omega) d;omega
  rw[this];simp
theorem Ye (t:TkD) (p:PeD) (k:Nat):(∃e∈sO t p,e.2=0/\e.1.toNat=k)↔BT.has (vA t p) k=true:=by
 unfold vA;rw[Yd];have c:jcc (!bX p (Xj (U.tj t)))=0↔bX p (Xj (U.tj t))=true:=by
  unfold jcc;cases bX p (Xj (U.tj t))<;>simp
 have e2:=PL (U.fd p) (OM (U.tj t));have d:=PL (U.cl p) (l8 (U.tj t));unfold sO;simp only[jj,List.not_mem_nil,or_false];rw[<-c,<-e2,<-d];constructor;rintro⟨e,(rfl|rfl|rfl),a,b⟩;exact .inl ⟨a,b.symm⟩;exact .inr (.inl ⟨a,b.symm⟩);exact .inr (.inr ⟨a,b.symm⟩);rintro(⟨a,b⟩|⟨a,b⟩|⟨a,b⟩);exact⟨_,.inl rfl,a,b.symm⟩;exact⟨_,.inr (.inl rfl),a,b.symm⟩;exact⟨_,.inr (.inr rfl),a,b.symm⟩
theorem Yf {t:TkD} {p:PeD} {e:Int×Int} (h:e∈sO t p):0<=e.1/\e.1<=2:=by
 unfold sO at h;simp only[jj,List.not_mem_nil,or_false] at h;rcases h with rfl|rfl|rfl<;>simp
theorem Ri (t:TkD) (p:PeD):(sO t p).Nodup:=by
 unfold sO;simp
theorem MS {t:TkD} {p:PeD} {l:List (Int×Int)} (h:l.Perm (sO t p)):aI (sO t p) l 0:=by
 refine⟨BT.DH,h.symm.nodup (Ri t p),fun e c=>h.mem_iff.1 c,fun k=> ?_⟩;rw[BT.sS];constructor;intro h;cases h;rintro⟨e,a,b,_⟩;exact absurd (h.mem_iff.2 a) b
theorem Rj {t:TkD} {p:PeD} {s:Int} (h:aI (sO t p) [] s):s=vA t p:=by
 obtain⟨a,_,_,c⟩:=h;refine BT.ext a (JH (by have:=Cq t p;omega)) (fun k=> ?_);rw[j0,c,<-Ye];constructor;rintro⟨e,a,_,b⟩;exact⟨e,a,b⟩;rintro⟨e,a,b⟩;exact⟨e,a,by simp,b⟩
theorem FQ {all pre a:List (Int×Int)} {e:Int×Int} {s j:Int} (h:aI all (pre++e::a) s) (p:BT.w4 j) (hk:∀k,BT.has j k=true↔BT.has s k=true\/(e.2=0/\e.1.toNat=k)):aI all (pre++a) j:=by
 obtain⟨q,m,l,n⟩:=h;have i:(e::(pre++a)).Nodup:=List.perm_middle.nodup m;have b:∀x,x∈pre++e::a↔x=e\/x∈pre++a:=fun x=>by rw[List.perm_middle.mem_iff,jj]
 rw[zt] at i;refine⟨p,i.2,fun x c=>l x ((b x).2 (.inr c)),fun k=> ?_⟩;rw[hk,n];constructor;rintro(⟨x,d,f,g⟩|⟨d,f⟩);exact⟨x,d,fun c=>f ((b x).2 (.inr c)),g⟩;exact⟨e,l e ((b e).2 (.inl rfl)),i.1,d,f⟩;rintro⟨x,d,f,g⟩;by_cases c:x=e;subst c;exact .inr g;exact .inl ⟨x,d,fun o=>by rcases(b x).1 o with h|h;exact c h;exact f h,g⟩
theorem D7:Cu:=by
 unfold Cu jf5 Prod.q4;rintro⟨(_|t),p,⟨⟩⟩ s d;cases s;have d:bY t:=d;have r:U.tk (some t)=t:=rfl;obtain⟨c1,c2,_⟩:=id d;obtain⟨_,_,_,⟨m,o⟩,⟨n,q⟩,_⟩:=lG c2;have m:0<=t.2.1.2.2.2.1:=m;have o:t.2.1.2.2.2.1<=7:=o;have n:0<=t.2.1.2.2.2.2.1:=n;have q:t.2.1.2.2.2.2.1<=3:=q;refine⟨rfl,rfl,m,by simp only[kV];omega,rfl,n,by simp only[kV];omega,by decide,fun l w=>⟨⟨⟨⟨(l,0),⟨⟨rfl,tZ⟩,rfl,tZ⟩,MS w⟩,fun x b=>⟨fun h=>⟨fun h=>(by cases h),fun _=> ?_⟩,fun pre e a h=>⟨fun _=> ?_,fun h=>(by cases h)⟩⟩⟩,tZ⟩,tZ⟩⟩;rw[h] at b;rw[Rj b];rw[h] at b;have u:e∈sO t p:=b.2.2.1 e (by simp);have hk:=Yf u;obtain⟨k,g,v⟩:∃k:Nat,e.1=(k:Int)/\k<=2:=⟨e.1.toNat,by omega,by omega⟩;have y:(1:Int)*2^k=2^k:=Int.one_mul _;have c:(pre++a).length<x.1.length:=(by rw[h];simp);have i:BT.w4 ((2:Int)^k):=BT.fZ (by omega);refine⟨fun f=> ?_,fun f=> ?_⟩;have f:e.2=0:=ja f;rw[g,jw,y];refine⟨by omega,by omega,by unfold BT.w4 at i;omega,by unfold BT.w4 at i;omega,(pre++a,uor x.2 (2^k)),⟨⟨rfl,tZ⟩,rfl,tZ⟩,FQ b (BT.uor_set b.1 i) (fun j=> ?_),c⟩;rw[BT.has_uor b.1 i,BT.AO,zr,jm,g,jw];simp[f];have f:¬e.2=0:=jc f;exact⟨(pre++a,x.2),⟨⟨rfl,tZ⟩,rfl,tZ⟩,FQ b b.1 (fun j=>by simp[f]),c⟩
theorem lH:wn PR 106 vw:=qG Ct D7 Tryz.func106 (kcC cH (kcC Ra kcN)) koN
theorem JI:(Lx 64 [(106,vw),(160,yH),(161,yI)] [] [(159,wh)] []).ok PR:=MA ⟨fun _=>lH,fun _=>G1,fun _=>Hb,tZ⟩ trivial ⟨dP,tZ⟩ trivial
theorem xv:wn PR 113 ij:=
 UR (body:=wz Tryz.f113) (C:=Lx 64 [(106,vw),(160,yH),(161,yI)] [] [(159,wh)] []) (hk:=hkC (Lx 64 [(106,vw),(160,yH),(161,yI)] [] [(159,wh)] []) (fun _=>none) Co [] []) JI mixed Tryz.func113 (by kernel_rfl) (by kernel_rfl) (by kernel_rfl) (by decide)
  (fun B=>FL JI mixed (fun k ts rs sv d L v ρ hk c a b=>by
   unfold Co at hk
   split at hk
   case h_2=>cases hk
   simp only[jy] at hk
   cases hk
   exact JB c a b) ja1 B) (o7.mpr Cs)
theorem MT:wn PR 77 MP:=kY Rh Tryz.func77 (kcC Ve (kcC xv kcN)) koN
theorem Yg:wn PR 74 X7:=qG X8 ja4 Tryz.func74 (kcC JA (kcC lH kcN)) koN
namespace U
def ck (a b:Int):Int:=if a<b then-1 else if b<a then 1 else 0
def yj (l:List Int):Int:=match l.find? (fun n=>decide (n≠0)) with|some n=>n|none=>0
end U
structure fG {α:Type} (c:α->α->Int):Prop where
 anti:∀a b,c b a= -(c a b)
 trans:∀a b d,c a b<=0->c b d<=0->c a d<=0
section
variable {α:Type} {c c1 c2:α->α->Int}
theorem fG.refl (h:fG c) (a:α):c a a=0:=by have:=h.anti a a;omega
theorem fG.lt_le (h:fG c) {a b d:α} (g:c a b<0) (f:c b d<=0):c a d<0:=by
 have i:=h.trans a b d (by omega) f;have j:=h.anti a d;have k:=h.anti a b;by_cases e:c a d=0;have:=h.trans b d a f (by omega);omega;omega
theorem fG.le_lt (h:fG c) {a b d:α} (f:c a b<=0) (g:c b d<0):c a d<0:=by
 have i:=h.trans a b d f (by omega);have j:=h.anti a d;have k:=h.anti b d;by_cases e:c a d=0;have:=h.trans d a b (by omega) f;omega;omega
theorem fG.eq_eq (h:fG c) {a b d:α} (e:c a b=0) (f:c b d=0):c a d=0:=by
 have g:=h.trans a b d (by omega) (by omega);have i:=h.anti a d;have j:=h.anti a b;have k:=h.anti b d;have:=h.trans d b a (by omega) (by omega);omega
def Tm (c1 c2:α->α->Int) (a b:α):Int:=if c1 a b≠0 then c1 a b else c2 a b
theorem o8 (c:fG c1) (g:fG c2):fG (Tm c1 c2) where
 anti a b:=by
  have i:=c.anti a b;have h:=g.anti a b;unfold Tm;by_cases e:c1 a b=0;rw[jd (by omega),jd (by omega)];exact h;rw[jh (by omega),jh e];exact i
 trans a b d:=by
  unfold Tm;by_cases e:c1 a b=0;rw[jd (by omega)];by_cases f:c1 b d=0;rw[jd (by omega),jd (by have:=c.eq_eq e f;omega)];exact g.trans a b d;rw[jh f];intro _ k;have:=c.le_lt (a:=a) (b:=b) (d:=d) (by omega) (by omega);rw[jh (by omega)];omega;rw[jh e];intro k;by_cases f:c1 b d=0;rw[jd (by omega)];intro _;have:=c.lt_le (a:=a) (b:=b) (d:=d) (by omega) (by omega);rw[jh (by omega)];omega;rw[jh f];intro h;have:=c.lt_le (a:=a) (b:=b) (d:=d) (by omega) (by omega);rw[jh (by omega)];omega
theorem nU {β:Type} (h:fG c) (f:β->α):fG (fun a b=>c (f a) (f b)):=⟨fun a b=>h.anti (f a) (f b),fun a b d=>h.trans (f a) (f b) (f d)⟩
end
theorem lI:fG ck:=by
 constructor;intro a b;unfold ck;split<;>split<;>(try split)<;>(try split)<;>omega
 intro a b d;unfold ck;split<;>split<;>(try split)<;>(try split)<;>(try split)<;>(try split)<;>omega
theorem Vg {a b:Int}:ck a b<0↔a<b:=by
 unfold ck
 split
 simp;omega
 split<;>simp<;>omega
theorem ae {a b:Int}:ck a b=0↔a=b:=by
 unfold ck
 split
 simp;omega
 split
 simp;omega;simp;omega
theorem wG (x:Int) (l:List Int):yj (x::l)=if x≠0 then x else yj l:=by
 unfold yj;by_cases e:x=0;simp[List.find?,e];simp[List.find?,e]
theorem qP (x:Int):yj [x]=x:=by
 rw[wG]
 split
 rfl;rename_i h;have:x=0:=(by omega);rw[this];rfl
theorem AG {t:Ty} {c:t.Data->t.Data->Int} (d:fG c) {l:List t.Data} (h:∀x y,x∈l->y∈l->c x y=0->x=y):q9 (ku t fun x=>(c x.1 x.2.1,())) l where
 irrefl x _:=by
  unfold ku;have:=d.refl x;simp only[this];rfl
 trans x y z _ _ _ b a:=by
  unfold ku at*;have b:=ja b;have a:=ja a;exact jH (d.lt_le b (by have a:c y z<0:=a;show c y z<=0;omega))
 total x y hx hy b a:=by
  unfold ku at*;have b:¬c x y<0:=jc b;have a:¬c y x<0:=jc a;have:=d.anti x y;exact h x y hx hy (by omega)
end Go.X
namespace Go.X
open U
namespace M
theorem mput_cons {kt:Ty} {β:Type} (k:kt.Data) (v:β) (e:kt.Data×β) (r:List (kt.Data×β)):eQ kt k v (e::r)=if @decide (k=e.1) (kt.decEq k e.1)=true then(k,v)::r else e::eQ kt k v r:=rfl
theorem mfind_cons {kt:Ty} {β:Type} (k:kt.Data) (e:kt.Data×β) (r:List (kt.Data×β)):kO kt k (e::r)=if @decide (k=e.1) (kt.decEq k e.1)=true then some e.2 else kO kt k r:=rfl
theorem mfind_none {kt:Ty} {β:Type} {k:kt.Data}:∀{l:List (kt.Data×β)},k∉l.map (·.1)->kO kt k l=none
 |[],_=>rfl
 |e::r,h=>by
  simp only[zx,jj,not_or] at h
  rw[mfind_cons,jd (fun a=>h.1 (@ja _ (kt.decEq k e.1) a))]
  exact mfind_none h.2
theorem dec_self {kt:Ty} (k:kt.Data): @decide (k=k) (kt.decEq k k)=true:= @jH _ (kt.decEq k k) rfl
theorem mput_fst {kt:Ty} {β:Type} (k:kt.Data) (v:β):∀m:List (kt.Data×β),(eQ kt k v m).map (·.1)=m.map (·.1)\/(k∉m.map (·.1)/\(eQ kt k v m).map (·.1)=m.map (·.1)++[k])
 |[]=> .inr ⟨by simp,rfl⟩
 |e::r=>by
  rw[mput_cons]
  by_cases h: @decide (k=e.1) (kt.decEq k e.1)=true
  rw[jh h]
  have h:k=e.1:= @ja _ (kt.decEq k e.1) h
  left
  simp[h]
  rw[jd h]
  have h:¬k=e.1:=fun a=>h (@jH _ (kt.decEq k e.1) a)
  rcases mput_fst k v r with d|⟨b,c⟩
  left;simp only[zx,d]
  right
  refine⟨?_,by simp only[zx,c,j6]⟩
  rw[zx,jj]
  rintro(a|a)
  exact h a
  exact b a
theorem pF {kt:Ty} {β:Type} (k:kt.Data) (v:β):∀l:List (kt.Data×β),kO kt k (eQ kt k v l)=some v
 |[]=>by
  rw[show eQ kt k v []=[(k,v)] from rfl,mfind_cons,jh (dec_self k)]
 |e::r=>by
  rw[mput_cons]
  by_cases h: @decide (k=e.1) (kt.decEq k e.1)=true
  rw[jh h,mfind_cons,jh (dec_self k)]
  rw[jd h,mfind_cons,jd h]
  exact pF k v r
theorem dm {kt:Ty} {β:Type} {k k':kt.Data} (a:k'≠k) (v:β):∀l:List (kt.Data×β),kO kt k' (eQ kt k v l)=kO kt k' l
 |[]=>by
  rw[show eQ kt k v []=[(k,v)] from rfl,mfind_cons,jd (fun e=>a (@ja _ (kt.decEq k' k) e))]
 |e::r=>by
  rw[mput_cons]
  by_cases h: @decide (k=e.1) (kt.decEq k e.1)=true
  rw[jh h]
  have h:k=e.1:= @ja _ (kt.decEq k e.1) h
  have c:¬@decide (k'=e.1) (kt.decEq k' e.1)=true:=fun b=>a ((@ja _ (kt.decEq k' e.1) b).trans h.symm)
  rw[mfind_cons,mfind_cons,jd c,jd (fun e=>a (@ja _ (kt.decEq k' k) e))]
  rw[jd h,mfind_cons,mfind_cons,dm a v r]
theorem mT {kt:Ty} {β:Type} {k:kt.Data} {v:β}:∀{l:List (kt.Data×β)},(l.map (·.1)).Nodup->(kO kt k l=some v↔(k,v)∈l)
 |[],_=>by simp[kO]
 |e::r,h=>by
  simp only[zx,zt] at h
  rw[mfind_cons]
  by_cases hk: @decide (k=e.1) (kt.decEq k e.1)=true
  rw[jh hk]
  have hk:k=e.1:= @ja _ (kt.decEq k e.1) hk
  subst hk
  rw[jj]
  constructor
  intro a;simp at a;exact .inl (by rw[<-a])
  rintro(a|a)
  rw[<-a]
  exact absurd (jV.2 ⟨_,a,rfl⟩) h.1
  rw[jd hk]
  have hk:¬k=e.1:=fun b=>hk (@jH _ (kt.decEq k e.1) b)
  rw[mT h.2,jj]
  constructor
  exact .inr
  rintro(a|a)
  exact absurd (by rw[<-a]) hk
  exact a
end M
end Go.X
namespace Go.Proofs
open Go.Shelf
theorem xlay {t:Type} {a:Option t} {b c:t} (h:a=some b) (e:b=c:=by kernel_rfl):a=some c:=h.trans (congrArg some e)
def Tryz.sortSh_ren:Go.Shelf.Ren:=⟨fun|6=>107|15=>93|14=>153|28=>130|29=>131|20=>187|21=>188|22=>189|23=>190|24=>191|25=>192|26=>193|27=>194|46=>220|47=>167|48=>168|49=>221|50=>222|57=>232|n=>n,fun|22=>28|24=>75|25=>163|3=>3|39=>105|0=>0|53=>180|55=>182|4=>4|46=>174|45=>173|50=>63|5=>5|9=>9|66=>207|70=>211|76=>234|77=>235|n=>n,fun|n=>n⟩
theorem Tryz.sortSh:Go.Proofs.SlLaysF0.n6 Tryz.prog Tryz.sortSh_ren:={
 mixed:=by kernel_rfl
 f6:=⟨Tryz.f107.name,by decide,xlay Tryz.func107⟩
 f14:=⟨Tryz.f153.name,by decide,xlay Tryz.func153⟩
 f15:=xlay Tryz.func93
 f20:=⟨Tryz.f187.name,by decide,xlay Tryz.func187⟩
 f21:=⟨Tryz.f188.name,by decide,xlay Tryz.func188⟩
 f22:=⟨Tryz.f189.name,by decide,xlay Tryz.func189⟩
 f23:=⟨Tryz.f190.name,by decide,xlay Tryz.func190⟩
 f24:=⟨Tryz.f191.name,by decide,xlay Tryz.func191⟩
 f25:=⟨Tryz.f192.name,by decide,xlay Tryz.func192⟩
 f26:=⟨Tryz.f193.name,by decide,xlay Tryz.func193⟩
 f27:=⟨Tryz.f194.name,by decide,xlay Tryz.func194⟩
 f28:=xlay Tryz.func130
 f29:=xlay Tryz.func131
 f46:=⟨Tryz.f220.name,by decide,xlay Tryz.func220⟩
 f47:=xlay Tryz.func167
 f48:=xlay Tryz.func168
 f49:=⟨Tryz.f221.name,by decide,xlay Tryz.func221⟩
 f50:=⟨Tryz.f222.name,by decide,xlay Tryz.func222⟩
 f57:=⟨Tryz.f232.name,by decide,xlay Tryz.func232⟩
 t0:=Tryz.underlying0
 a0:=Tryz.isAgg0
 z0:=Tryz.sizeOf0
 v0:=Tryz.zeroValue0
 t3:=Tryz.underlying3
 a3:=Tryz.isAgg3
 z3:=Tryz.sizeOf3
 v3:=Tryz.zeroValue3
 t4:=Tryz.underlying4
 a4:=Tryz.isAgg4
 z4:=Tryz.sizeOf4
 v4:=Tryz.zeroValue4
 t5:=Tryz.underlying5
 a5:=Tryz.isAgg5
 z5:=Tryz.sizeOf5
 v5:=Tryz.zeroValue5
 t9:=Tryz.underlying9
 a9:=Tryz.isAgg9
 z9:=Tryz.sizeOf9
 v9:=Tryz.zeroValue9
 t22:=Tryz.underlying28
 a22:=Tryz.isAgg28
 z22:=Tryz.sizeOf28
 v22:=Tryz.zeroValue28
 t25:=Tryz.underlying163
 a25:=Tryz.isAgg163
 z25:=Tryz.sizeOf163
 v25:=Tryz.zeroValue163
 t39:=Tryz.underlying105
 a39:=Tryz.isAgg105
 z39:=Tryz.sizeOf105
 v39:=Tryz.zeroValue105
 t45:=Tryz.underlying173
 a45:=Tryz.isAgg173
 z45:=Tryz.sizeOf173
 v45:=Tryz.zeroValue173
 t46:=Tryz.underlying174
 a46:=Tryz.isAgg174
 z46:=Tryz.sizeOf174
 v46:=Tryz.zeroValue174
 t50:=Tryz.underlying63
 a50:=Tryz.isAgg63
 z50:=Tryz.sizeOf63
 v50:=Tryz.zeroValue63
 t53:=Tryz.underlying180
 a53:=Tryz.isAgg180
 z53:=Tryz.sizeOf180
 v53:=Tryz.zeroValue180
 t55:=Tryz.underlying182
 a55:=Tryz.isAgg182
 z55:=Tryz.sizeOf182
 v55:=Tryz.zeroValue182
 t66:=Tryz.underlying207
 a66:=Tryz.isAgg207
 z66:=Tryz.sizeOf207
 v66:=Tryz.zeroValue207
 t70:=Tryz.underlying211
 a70:=Tryz.isAgg211
 z70:=Tryz.sizeOf211
 v70:=Tryz.zeroValue211
 t76:=Tryz.underlying234
 a76:=Tryz.isAgg234
 z76:=Tryz.sizeOf234
 v76:=Tryz.zeroValue234
 t77:=Tryz.underlying235
 a77:=Tryz.isAgg235
 z77:=Tryz.sizeOf235
 v77:=Tryz.zeroValue235}
def Tryz.sortI_ren:Go.Shelf.Ren:=⟨fun|189=>110|125=>93|257=>157|128=>130|129=>131|294=>198|295=>199|296=>200|297=>201|298=>202|299=>203|216=>204|300=>205|301=>206|328=>226|329=>167|330=>168|331=>227|332=>228|215=>94|343=>235|n=>n,fun|28=>31|3=>3|46=>105|0=>0|51=>180|53=>182|4=>4|183=>174|182=>173|131=>63|5=>5|9=>9|218=>207|222=>211|228=>234|229=>235|n=>n,fun|n=>n⟩
theorem Tryz.sortI:Go.Proofs.Lays.n189 Tryz.prog Tryz.sortI_ren:={
 mixed:=by kernel_rfl
 f125:=xlay Tryz.func93
 f128:=xlay Tryz.func130
 f129:=xlay Tryz.func131
 f189:=xlay Tryz.func110
 f215:=xlay Tryz.func94
 f216:=xlay Tryz.func204
 f257:=xlay Tryz.func157
 f294:=xlay Tryz.func198
 f295:=xlay Tryz.func199
 f296:=xlay Tryz.func200
 f297:=xlay Tryz.func201
 f298:=xlay Tryz.func202
 f299:=xlay Tryz.func203
 f300:=xlay Tryz.func205
 f301:=xlay Tryz.func206
 f328:=xlay Tryz.func226
 f329:=xlay Tryz.func167
 f330:=xlay Tryz.func168
 f331:=xlay Tryz.func227
 f332:=xlay Tryz.func228
 f343:=xlay Tryz.func235
 t0:=Tryz.underlying0
 a0:=Tryz.isAgg0
 z0:=Tryz.sizeOf0
 v0:=Tryz.zeroValue0
 t3:=Tryz.underlying3
 a3:=Tryz.isAgg3
 z3:=Tryz.sizeOf3
 v3:=Tryz.zeroValue3
 t4:=Tryz.underlying4
 a4:=Tryz.isAgg4
 z4:=Tryz.sizeOf4
 v4:=Tryz.zeroValue4
 t5:=Tryz.underlying5
 a5:=Tryz.isAgg5
 z5:=Tryz.sizeOf5
 v5:=Tryz.zeroValue5
 t9:=Tryz.underlying9
 a9:=Tryz.isAgg9
 z9:=Tryz.sizeOf9
 v9:=Tryz.zeroValue9
 t28:=Tryz.underlying31
 a28:=Tryz.isAgg31
 z28:=Tryz.sizeOf31
 v28:=Tryz.zeroValue31
 t46:=Tryz.underlying105
 a46:=Tryz.isAgg105
 z46:=Tryz.sizeOf105
 v46:=Tryz.zeroValue105
 t51:=Tryz.underlying180
 a51:=Tryz.isAgg180
 z51:=Tryz.sizeOf180
 v51:=Tryz.zeroValue180
 t53:=Tryz.underlying182
 a53:=Tryz.isAgg182
 z53:=Tryz.sizeOf182
 v53:=Tryz.zeroValue182
 t131:=Tryz.underlying63
 a131:=Tryz.isAgg63
 z131:=Tryz.sizeOf63
 v131:=Tryz.zeroValue63
 t182:=Tryz.underlying173
 a182:=Tryz.isAgg173
 z182:=Tryz.sizeOf173
 v182:=Tryz.zeroValue173
 t183:=Tryz.underlying174
 a183:=Tryz.isAgg174
 z183:=Tryz.sizeOf174
 v183:=Tryz.zeroValue174
 t218:=Tryz.underlying207
 a218:=Tryz.isAgg207
 z218:=Tryz.sizeOf207
 v218:=Tryz.zeroValue207
 t222:=Tryz.underlying211
 a222:=Tryz.isAgg211
 z222:=Tryz.sizeOf211
 v222:=Tryz.zeroValue211
 t228:=Tryz.underlying234
 a228:=Tryz.isAgg234
 z228:=Tryz.sizeOf234
 v228:=Tryz.zeroValue234
 t229:=Tryz.underlying235
 a229:=Tryz.isAgg235
 z229:=Tryz.sizeOf235
 v229:=Tryz.zeroValue235}
end Go.Proofs
namespace Go.X
open U
open Go.Proofs
abbrev rwS:Sh:= .cl (.row 75 tSh .unk)
namespace U
def u9 (s:SpD):Bool:=(decide (0<=lo s)&&decide (lo s<=hi s))&&decide (hi s<=300)
def DA (n:Nat) (b:BkD):Bool:=((kl (S9 b) 0 ((n:Int)-1)&&decide (0<=wP b))&&decide (wP b<cj b))&&decide (cj b<=1440)
def Li (nb a:Nat) (s:ShD):Bool:=(((kl (yy s) 0 99&&kl (DL s) 0 9999)&&kl (W3 s) 1 2)&&kl (iV s) 0 ((nb:Int)-1))&&kl (y9 s) 0 ((a:Int)-1)
def cP (a b:ShD):Int:=yj [ck (yy a) (yy b),ck (DL a) (DL b),ck (W3 a) (W3 b),ck (iV a) (iV b),ck (y9 a) (y9 b)]
def kN (a b:ShD):Int:=yj [ck (DL a) (DL b),ck (yy a) (yy b)]
def yw (a b:ShD):Bool:=decide (a=b)
def wI (l:List ShD):List ShD:=aO yw (kr (ku tSh fun x=>(cP x.1 x.2.1,())) l)
def mS (m:List (Int×Int)) (s:ShD):List (Int×Int):=eQ .int (yy s) (wa 0 (kO .int (yy s) m)+1) m
def v6 (m:List (Int×Int)) (l:List ShD) (n:Nat):List (Int×Int):=(l.take n).foldl mS m
def Qg (m:List (Int×Int)) (s:ShD):Bool:=decide (1<wa 0 (kO .int (yy s) (mS m s)))
def sP (m:List (Int×Int)) (l:List ShD) (i:Nat):Bool:=Qg (v6 m l i) (nth l i)
def mf (m:List (Int×Int)) (l:List ShD):Int:=yz (sP m l) (List.range l.length)
def W4 (m:List (Int×Int)) (l:List ShD):Nat:=match(List.range l.length).findIdx? (sP m l) with|some i=>i+1|none=>l.length
def pA (m:List (Int×Int)) (l:List ShD):List (Int×Int):=v6 m l (W4 m l)
def jdj (m:List (Int×Int)):Prop:=m=[]
def W5 (m:List (Int×Int)):Prop:=∀k,0<=wa 0 (kO .int k m)/\wa 0 (kO .int k m)<=200000
def To (l:List ShD):Bool:=decide (0<=mf [] l)
def uv (d:DyD):Int:=if kG (kD d)=false then 30 else if Ib d=false then 31 else 0
def wx (d:DyD):Int:=if uv d≠0 then uv d else if wR d=false then 50 else if To (wI (wu d))=true then 51 else 0
end U
def MU:we:=⟨[.val .int,.val .int,.val .int],[.bool],false,fun _=>[],fun d=>(kl d.1 d.2.1 d.2.2.1,())⟩
def MV:Prop:=∀(d:Int×Int×Int×Unit),(decide (d.2.1<=d.1)&&decide (d.1<=d.2.2.1),())=(kl d.1 d.2.1 d.2.2.1,())
def mX:we:=⟨[.val (.slice tSp),.fn [tSp] [.bool]],[.int],false,fun d=>[∀g∈d.1,kK (d.2.1.pre (g,()))],fun d=>(yz (ko (α:=SpD) d.2.1.F) d.1,())⟩
def mY:Ann:=fun r=>match r with
 |2=>some fun σ=>{X:=Nat,sl:=fun i=>[(8,.dat .int (i:Int))],ob:=fun _=>[],inv:=fun i=>i<=(gd (.slice tSp) σ 0).length/\∀b:Nat,b<i->ko (gfb tSp σ 1) (nth (gd (.slice tSp) σ 0) b)=false,mu:=fun i=>(gd (.slice tSp) σ 0).length-i}
 |_=>none
def mZ:Prop:=∀(d:List (Int×Int×Unit)×FnD [tSp] [Ty.bool]×Unit),(∀(g:Int×Int×Unit),g∈d.1->kK (d.2.1.1 (g,())))->d.1.length<4611686018427387904->(∃(x:Nat),((0=(x:Int)/\True)/\True)/\x<=d.1.length/\∀(b:Nat),b<x->ko d.2.1.2 (nth d.1 b)=false)/\∀(x:Nat),(x<=d.1.length/\∀(b:Nat),b<x->ko d.2.1.2 (nth d.1 b)=false)->(decide ((x:Int)<d.1.length)=true->0<=(x:Int)/\(x:Int)<d.1.length/\asks (d.2.1.1 (nth d.1 (x:Int).toNat,())) (((d.2.1.2 (nth d.1 (x:Int).toNat,())).1=true->((x:Int),())=(yz (ko d.2.1.2) d.1,()))/\((d.2.1.2 (nth d.1 (x:Int).toNat,())).1=false->kH ((x:Int)+1)/\∃(a:Nat),(((x:Int)+1=(a:Int)/\True)/\True)/\(a<=d.1.length/\∀(b:Nat),b<a->ko d.2.1.2 (nth d.1 b)=false)/\d.1.length-a<d.1.length-x)))/\(decide ((x:Int)<d.1.length)=false->((-1:Int),())=(yz (ko d.2.1.2) d.1,()))
def fH:we:=⟨[.val (.slice tSp),.fn [tSp] [.bool]],[.bool],false,fun d=>[∀g∈d.1,kK (d.2.1.pre (g,()))],fun d=>(d.1.any (ko (α:=SpD) d.2.1.F),())⟩
def fI:Prop:=∀(d:List (Int×Int×Unit)×FnD [tSp] [Ty.bool]×Unit),(∀(g:Int×Int×Unit),g∈d.1->kK (d.2.1.1 (g,())))->(∀(g:Int×Int×Unit),g∈d.1->kK (d.2.1.1 (g,())))/\(decide (0<=yz (ko d.2.1.2) d.1),())=(d.1.any (ko d.2.1.2),())
def lJ:we:=⟨[.val (.slice (.slice tSp)),.fn [(.slice tSp)] [.bool]],[.int],false,fun d=>[∀g∈d.1,kK (d.2.1.pre (g,()))],fun d=>(yz (ko (α:=(List SpD)) d.2.1.F) d.1,())⟩
def lK:Ann:=fun r=>match r with
 |2=>some fun σ=>{X:=Nat,sl:=fun i=>[(8,.dat .int (i:Int))],ob:=fun _=>[],inv:=fun i=>i<=(gd (.slice (.slice tSp)) σ 0).length/\∀b:Nat,b<i->ko (gfb (.slice tSp) σ 1) (nth (gd (.slice (.slice tSp)) σ 0) b)=false,mu:=fun i=>(gd (.slice (.slice tSp)) σ 0).length-i}
 |_=>none
def lL:Prop:=∀(d:List (List (Int×Int×Unit))×FnD [tSp.slice] [Ty.bool]×Unit),(∀(g:List (Int×Int×Unit)),g∈d.1->kK (d.2.1.1 (g,())))->d.1.length<4611686018427387904->(∃(x:Nat),((0=(x:Int)/\True)/\True)/\x<=d.1.length/\∀(b:Nat),b<x->ko d.2.1.2 (nth d.1 b)=false)/\∀(x:Nat),(x<=d.1.length/\∀(b:Nat),b<x->ko d.2.1.2 (nth d.1 b)=false)->(decide ((x:Int)<d.1.length)=true->0<=(x:Int)/\(x:Int)<d.1.length/\asks (d.2.1.1 (nth d.1 (x:Int).toNat,())) (((d.2.1.2 (nth d.1 (x:Int).toNat,())).1=true->((x:Int),())=(yz (ko d.2.1.2) d.1,()))/\((d.2.1.2 (nth d.1 (x:Int).toNat,())).1=false->kH ((x:Int)+1)/\∃(a:Nat),(((x:Int)+1=(a:Int)/\True)/\True)/\(a<=d.1.length/\∀(b:Nat),b<a->ko d.2.1.2 (nth d.1 b)=false)/\d.1.length-a<d.1.length-x)))/\(decide ((x:Int)<d.1.length)=false->((-1:Int),())=(yz (ko d.2.1.2) d.1,()))
def dQ:we:=⟨[.val (.slice (.slice tSp)),.fn [(.slice tSp)] [.bool]],[.bool],false,fun d=>[∀g∈d.1,kK (d.2.1.pre (g,()))],fun d=>(d.1.any (ko (α:=(List SpD)) d.2.1.F),())⟩
def dR:Prop:=∀(d:List (List (Int×Int×Unit))×FnD [tSp.slice] [Ty.bool]×Unit),(∀(g:List (Int×Int×Unit)),g∈d.1->kK (d.2.1.1 (g,())))->(∀(g:List (Int×Int×Unit)),g∈d.1->kK (d.2.1.1 (g,())))/\(decide (0<=yz (ko d.2.1.2) d.1),())=(d.1.any (ko d.2.1.2),())
def fJ:we:=⟨[.val (.slice tBk),.fn [tBk] [.bool]],[.int],false,fun d=>[∀g∈d.1,kK (d.2.1.pre (g,()))],fun d=>(yz (ko (α:=BkD) d.2.1.F) d.1,())⟩
def fK:Ann:=fun r=>match r with
 |2=>some fun σ=>{X:=Nat,sl:=fun i=>[(8,.dat .int (i:Int))],ob:=fun _=>[],inv:=fun i=>i<=(gd (.slice tBk) σ 0).length/\∀b:Nat,b<i->ko (gfb tBk σ 1) (nth (gd (.slice tBk) σ 0) b)=false,mu:=fun i=>(gd (.slice tBk) σ 0).length-i}
 |_=>none
def fL:Prop:=∀(d:List BkD×FnD [tBk] [Ty.bool]×Unit),(∀(g:BkD),g∈d.1->kK (d.2.1.1 (g,())))->d.1.length<4611686018427387904->(∃(x:Nat),((0=(x:Int)/\True)/\True)/\x<=d.1.length/\∀(b:Nat),b<x->ko d.2.1.2 (nth d.1 b)=false)/\∀(x:Nat),(x<=d.1.length/\∀(b:Nat),b<x->ko d.2.1.2 (nth d.1 b)=false)->(decide ((x:Int)<d.1.length)=true->0<=(x:Int)/\(x:Int)<d.1.length/\asks (d.2.1.1 (nth d.1 (x:Int).toNat,())) (((d.2.1.2 (nth d.1 (x:Int).toNat,())).1=true->((x:Int),())=(yz (ko d.2.1.2) d.1,()))/\((d.2.1.2 (nth d.1 (x:Int).toNat,())).1=false->kH ((x:Int)+1)/\∃(a:Nat),(((x:Int)+1=(a:Int)/\True)/\True)/\(a<=d.1.length/\∀(b:Nat),b<a->ko d.2.1.2 (nth d.1 b)=false)/\d.1.length-a<d.1.length-x)))/\(decide ((x:Int)<d.1.length)=false->((-1:Int),())=(yz (ko d.2.1.2) d.1,()))
def cq:we:=⟨[.val (.slice tBk),.fn [tBk] [.bool]],[.bool],false,fun d=>[∀g∈d.1,kK (d.2.1.pre (g,()))],fun d=>(d.1.any (ko (α:=BkD) d.2.1.F),())⟩
def cr:Prop:=∀(d:List BkD×FnD [tBk] [Ty.bool]×Unit),(∀(g:BkD),g∈d.1->kK (d.2.1.1 (g,())))->(∀(g:BkD),g∈d.1->kK (d.2.1.1 (g,())))/\(decide (0<=yz (ko d.2.1.2) d.1),())=(d.1.any (ko d.2.1.2),())
def lM:we:=⟨[.val (.slice tSh),.fn [tSh] [.bool]],[.int],false,fun d=>[∀g∈d.1,kK (d.2.1.pre (g,()))],fun d=>(yz (ko (α:=ShD) d.2.1.F) d.1,())⟩
def lN:Ann:=fun r=>match r with
 |2=>some fun σ=>{X:=Nat,sl:=fun i=>[(8,.dat .int (i:Int))],ob:=fun _=>[],inv:=fun i=>i<=(gd (.slice tSh) σ 0).length/\∀b:Nat,b<i->ko (gfb tSh σ 1) (nth (gd (.slice tSh) σ 0) b)=false,mu:=fun i=>(gd (.slice tSh) σ 0).length-i}
 |_=>none
def lO:Prop:=∀(d:List ShD×FnD [tSh] [Ty.bool]×Unit),(∀(g:ShD),g∈d.1->kK (d.2.1.1 (g,())))->d.1.length<4611686018427387904->(∃(x:Nat),((0=(x:Int)/\True)/\True)/\x<=d.1.length/\∀(b:Nat),b<x->ko d.2.1.2 (nth d.1 b)=false)/\∀(x:Nat),(x<=d.1.length/\∀(b:Nat),b<x->ko d.2.1.2 (nth d.1 b)=false)->(decide ((x:Int)<d.1.length)=true->0<=(x:Int)/\(x:Int)<d.1.length/\asks (d.2.1.1 (nth d.1 (x:Int).toNat,())) (((d.2.1.2 (nth d.1 (x:Int).toNat,())).1=true->((x:Int),())=(yz (ko d.2.1.2) d.1,()))/\((d.2.1.2 (nth d.1 (x:Int).toNat,())).1=false->kH ((x:Int)+1)/\∃(a:Nat),(((x:Int)+1=(a:Int)/\True)/\True)/\(a<=d.1.length/\∀(b:Nat),b<a->ko d.2.1.2 (nth d.1 b)=false)/\d.1.length-a<d.1.length-x)))/\(decide ((x:Int)<d.1.length)=false->((-1:Int),())=(yz (ko d.2.1.2) d.1,()))
def dS:we:=⟨[.val (.slice tSh),.fn [tSh] [.bool]],[.bool],false,fun d=>[∀g∈d.1,kK (d.2.1.pre (g,()))],fun d=>(d.1.any (ko (α:=ShD) d.2.1.F),())⟩
def dT:Prop:=∀(d:List ShD×FnD [tSh] [Ty.bool]×Unit),(∀(g:ShD),g∈d.1->kK (d.2.1.1 (g,())))->(∀(g:ShD),g∈d.1->kK (d.2.1.1 (g,())))/\(decide (0<=yz (ko d.2.1.2) d.1),())=(d.1.any (ko d.2.1.2),())
def tD:we:=⟨[.val tSp,.rfn [tSp] [.bool]],[.bool],false,fun d=>[kK (d.2.1.pre (d.1,()))],fun d=>(!(ko (α:=SpD) d.2.1.F d.1),())⟩
def tE:Prop:=∀(d:(Int×Int×Unit)×FnD [tSp] [Ty.bool]×Unit),kK (d.2.1.1 (d.1,()))->asks (d.2.1.1 (d.1,())) ((!(d.2.1.2 (d.1,())).1,())=(!ko d.2.1.2 d.1,()))
def Cv:we:=⟨[.val (.slice tSp),.fn [tSp] [.bool]],[.bool],false,fun d=>[∀g∈d.1,kK (d.2.1.pre (g,()))],fun d=>(d.1.all (ko (α:=SpD) d.2.1.F),())⟩
def Cw:Prop:=∀(d:List (Int×Int×Unit)×FnD [tSp] [Ty.bool]×Unit),(∀(g:Int×Int×Unit),g∈d.1->kK (d.2.1.1 (g,())))->(∀(g:Int×Int×Unit),g∈d.1->kK [kK (d.2.1.1 (g,()))])/\(!d.1.any (ko fun(a:(Int×Int×Unit)×Unit)=>(!ko d.2.1.2 a.1,())),())=(d.1.all (ko d.2.1.2),())
def rT:we:=⟨[.val (.slice tSp),.rfn [(.slice tSp)] [.bool]],[.bool],false,fun d=>[kK (d.2.1.pre (d.1,()))],fun d=>(!(ko (α:=(List SpD)) d.2.1.F d.1),())⟩
def rU:Prop:=∀(d:List (Int×Int×Unit)×FnD [tSp.slice] [Ty.bool]×Unit),kK (d.2.1.1 (d.1,()))->asks (d.2.1.1 (d.1,())) ((!(d.2.1.2 (d.1,())).1,())=(!ko d.2.1.2 d.1,()))
def xw:we:=⟨[.val (.slice (.slice tSp)),.fn [(.slice tSp)] [.bool]],[.bool],false,fun d=>[∀g∈d.1,kK (d.2.1.pre (g,()))],fun d=>(d.1.all (ko (α:=(List SpD)) d.2.1.F),())⟩
def xy:Prop:=∀(d:List (List (Int×Int×Unit))×FnD [tSp.slice] [Ty.bool]×Unit),(∀(g:List (Int×Int×Unit)),g∈d.1->kK (d.2.1.1 (g,())))->(∀(g:List (Int×Int×Unit)),g∈d.1->kK [kK (d.2.1.1 (g,()))])/\(!d.1.any (ko fun(a:List (Int×Int×Unit)×Unit)=>(!ko d.2.1.2 a.1,())),())=(d.1.all (ko d.2.1.2),())
def m0:we:=⟨[.val tBk,.rfn [tBk] [.bool]],[.bool],false,fun d=>[kK (d.2.1.pre (d.1,()))],fun d=>(!(ko (α:=BkD) d.2.1.F d.1),())⟩
def m9:Prop:=∀(d:BkD×FnD [tBk] [Ty.bool]×Unit),kK (d.2.1.1 (d.1,()))->asks (d.2.1.1 (d.1,())) ((!(d.2.1.2 (d.1,())).1,())=(!ko d.2.1.2 d.1,()))
def rV:we:=⟨[.val (.slice tBk),.fn [tBk] [.bool]],[.bool],false,fun d=>[∀g∈d.1,kK (d.2.1.pre (g,()))],fun d=>(d.1.all (ko (α:=BkD) d.2.1.F),())⟩
def rW:Prop:=∀(d:List BkD×FnD [tBk] [Ty.bool]×Unit),(∀(g:BkD),g∈d.1->kK (d.2.1.1 (g,())))->(∀(g:BkD),g∈d.1->kK [kK (d.2.1.1 (g,()))])/\(!d.1.any (ko fun(a:BkD×Unit)=>(!ko d.2.1.2 a.1,())),())=(d.1.all (ko d.2.1.2),())
def rX:we:=⟨[.val tSh,.rfn [tSh] [.bool]],[.bool],false,fun d=>[kK (d.2.1.pre (d.1,()))],fun d=>(!(ko (α:=ShD) d.2.1.F d.1),())⟩
def rY:Prop:=∀(d:ShD×FnD [tSh] [Ty.bool]×Unit),kK (d.2.1.1 (d.1,()))->asks (d.2.1.1 (d.1,())) ((!(d.2.1.2 (d.1,())).1,())=(!ko d.2.1.2 d.1,()))
def xz:we:=⟨[.val (.slice tSh),.fn [tSh] [.bool]],[.bool],false,fun d=>[∀g∈d.1,kK (d.2.1.pre (g,()))],fun d=>(d.1.all (ko (α:=ShD) d.2.1.F),())⟩
def xA:Prop:=∀(d:List ShD×FnD [tSh] [Ty.bool]×Unit),(∀(g:ShD),g∈d.1->kK (d.2.1.1 (g,())))->(∀(g:ShD),g∈d.1->kK [kK (d.2.1.1 (g,()))])/\(!d.1.any (ko fun(a:ShD×Unit)=>(!ko d.2.1.2 a.1,())),())=(d.1.all (ko d.2.1.2),())
def JJ:we:=⟨[.val tSp],[.bool],false,fun _=>[],fun d=>(u9 d.1,())⟩
def JK:Prop:=∀(d:(Int×Int×Unit)×Unit),(decide (0<=d.1.1)&&decide (d.1.1<=d.1.2.1)&&decide (d.1.2.1<=300),())=(u9 d.1,())
def JL:we:=⟨[.val (.slice tSp),.ref tDy,.rfn [tSp] [.bool]],[.bool],false,fun d=>[∀g∈d.1,kK (d.2.2.1.pre (g,()))],fun d=>(decide ((d.1.length:Int)=(wt d.2.1).length)&&d.1.all (ko (α:=SpD) d.2.2.1.F),())⟩
def JM:Prop:=∀(d:List (Int×Int×Unit)×DyD×FnD [tSp] [Ty.bool]×Unit),(∀(g:Int×Int×Unit),g∈d.1->kK (d.2.2.1.1 (g,())))->d.1.length<4611686018427387904->d.2.1.2.1.length<4611686018427387904->(decide ((d.1.length:Int)=d.2.1.2.1.length)=true->∀(g:Int×Int×Unit),g∈d.1->kK (d.2.2.1.1 (g,())))/\(decide ((d.1.length:Int)=d.2.1.2.1.length)&&d.1.all (ko d.2.2.1.2),())=(decide ((d.1.length:Int)=(wt d.2.1).length)&&d.1.all (ko d.2.2.1.2),())
def JN:we:=⟨[.val tBk,.ref tDy],[.bool],false,fun _=>[],fun d=>(DA (wt d.2.1).length d.1,())⟩
def JO:Prop:=∀(d:BkD×DyD×Unit),d.2.1.2.1.length<4611686018427387904->kH ((d.2.1.2.1.length:Int)-1)/\(kl d.1.2.1 (0:Int) ((d.2.1.2.1.length:Int)-1)&&decide (0<=d.1.2.2.1)&&decide (d.1.2.2.1<d.1.2.2.2.1)&&decide (d.1.2.2.2.1<=1440),())=(DA (wt d.2.1).length d.1,())
def JP:we:=⟨[.val tSh,.ref tDy],[.bool],false,fun _=>[],fun d=>(Li (kE d.2.1).length (kz (kD d.2.1)).length d.1,())⟩
abbrev jiv (d:ShD×DyD×Unit):=(kl d.1.1 (0:Int) (99:Int)&&kl d.1.2.1 (0:Int) (9999:Int)&&kl d.1.2.2.1 (1:Int) (2:Int)&&kl d.1.2.2.2.1 (0:Int) ((d.2.1.2.2.1.length:Int)-1))
abbrev jiw (d:ShD×DyD×Unit):=(kl d.1.1 (0:Int) (99:Int)&&kl d.1.2.1 (0:Int) (9999:Int)&&kl d.1.2.2.1 (1:Int) (2:Int))
def JQ:Prop:=∀(d:ShD×DyD×Unit),((jiw d)=true->d.2.1.2.2.1.length<4611686018427387904)->((jiw d)=true->kH ((d.2.1.2.2.1.length:Int)-1))/\(((jiv d)=true->d.2.1.1.2.1.length<4611686018427387904)->((jiv d)=true->kH ((d.2.1.1.2.1.length:Int)-1))/\(kl d.1.1 (0:Int) (99:Int)&&kl d.1.2.1 (0:Int) (9999:Int)&&kl d.1.2.2.1 (1:Int) (2:Int)&&kl d.1.2.2.2.1 (0:Int) ((d.2.1.2.2.1.length:Int)-1)&&kl d.1.q4.1 (0:Int) ((d.2.1.1.2.1.length:Int)-1),())=(Li (kE d.2.1).length (kz (kD d.2.1)).length d.1,()))
def Rk:we:=⟨[.val tDy],[.bool],false,fun _=>[],fun d=>(wR d.1,())⟩
abbrev jhT (d:DyD×Unit):=(ko fun(a:BkD×Unit)=>(DA (wt d.1).length a.1,()))
abbrev jgk (d:DyD×Unit):=((d.1.2.2.1.length:Int)<=4)
abbrev jhi (d:DyD×Unit):=(↑(wt d.1).length:Int)
abbrev jgH (d:DyD×Unit):=(d.1.2.1.length:Int)
def Rm:Prop:=∀(d:DyD×Unit),d.1.2.2.1.length<4611686018427387904->(decide (jgk d)=true->d.1.2.1.length<4611686018427387904)->((decide (jgk d)&&kl (jgH d) (1:Int) (5:Int))=true->∀(g:List (Int×Int×Unit)),g∈d.1.2.1->kK [∀(b:Int×Int×Unit),b∈g->kK []])/\((decide (jgk d)&&kl (jgH d) (1:Int) (5:Int)&&d.1.2.1.all (ko fun(a:List (Int×Int×Unit)×Unit)=>(decide ((a.1.length:Int)=(jhi d))&&a.1.all (ko fun(c:(Int×Int×Unit)×Unit)=>(u9 c.1,())),())))=true->∀(e:BkD),e∈d.1.2.2.1->kK [])/\(((decide (jgk d)&&kl (jgH d) (1:Int) (5:Int)&&d.1.2.1.all (ko fun(a:List (Int×Int×Unit)×Unit)=>(decide ((a.1.length:Int)=(jhi d))&&a.1.all (ko fun(f:(Int×Int×Unit)×Unit)=>(u9 f.1,())),()))&&d.1.2.2.1.all (jhT d)&&kl d.1.2.2.2.1 (0:Int) (300:Int)&&kl d.1.q4.1 (0:Int) (1440:Int))=true->d.1.q4.2.1.length<4611686018427387904)->((decide (jgk d)&&kl (jgH d) (1:Int) (5:Int)&&d.1.2.1.all (ko fun(a:List (Int×Int×Unit)×Unit)=>(decide ((a.1.length:Int)=(jhi d))&&a.1.all (ko fun(h:(Int×Int×Unit)×Unit)=>(u9 h.1,())),()))&&d.1.2.2.1.all (jhT d)&&kl d.1.2.2.2.1 (0:Int) (300:Int)&&kl d.1.q4.1 (0:Int) (1440:Int)&&decide ((d.1.q4.2.1.length:Int)<=30))=true->∀(i:ShD),i∈d.1.q4.2.1->kK [])/\(decide (jgk d)&&kl (jgH d) (1:Int) (5:Int)&&d.1.2.1.all (ko fun(a:List (Int×Int×Unit)×Unit)=>(decide ((a.1.length:Int)=(jhi d))&&a.1.all (ko fun(u5:(Int×Int×Unit)×Unit)=>(u9 u5.1,())),()))&&d.1.2.2.1.all (jhT d)&&kl d.1.2.2.2.1 (0:Int) (300:Int)&&kl d.1.q4.1 (0:Int) (1440:Int)&&decide ((d.1.q4.2.1.length:Int)<=30)&&d.1.q4.2.1.all (ko fun(j:ShD×Unit)=>(Li (kE d.1).length (kz (kD d.1)).length j.1,())),())=(wR d.1,()))
def xB:we:=⟨[.val .int],[.bool],false,fun _=>[],fun _=>(false,())⟩
def xC:Prop:=∀(d:Int×Unit),(decide (d.1≠d.1),())=(false,())
def rZ:we:=⟨[.val .int,.val .int],[.int],false,fun _=>[],fun d=>(ck d.1 d.2.1,())⟩
abbrev jgl (d:Int×Int×Unit):=(ck d.1 d.2.1,())
def r8:Prop:=∀(d:Int×Int×Unit),(false=true->(false=true->((0:Int),())=(jgl d))/\(qF->((-1:Int),())=(jgl d)))/\(qF->(false=true->((1:Int),())=(jgl d))/\(qF->(decide (d.1<d.2.1)=true->((-1:Int),())=(jgl d))/\(decide (d.1<d.2.1)=false->(decide (d.2.1<d.1)=true->((1:Int),())=(jgl d))/\(decide (d.2.1<d.1)=false->((0:Int),())=(jgl d)))))
def Hd:we:=⟨[.val (.slice .int)],[.int],false,fun _=>[],fun d=>(yj d.1,())⟩
def He:Ann:=fun r=>match r with
 |3=>some fun σ=>{X:=Nat,sl:=fun i=>[(8,.dat .int (i:Int))],ob:=fun _=>[],inv:=fun i=>i<=(gd (.slice .int) σ 0).length/\∀b:Nat,b<i->nth (gd (.slice .int) σ 0) b=0,mu:=fun i=>(gd (.slice .int) σ 0).length-i}
 |_=>none
def Hf:Prop:=∀(d:List Int×Unit),d.1.length<4611686018427387904->(∃(x:Nat),((0=(x:Int)/\True)/\True)/\x<=d.1.length/\∀(b:Nat),b<x->nth d.1 b=0)/\∀(x:Nat),(x<=d.1.length/\∀(b:Nat),b<x->nth d.1 b=0)->(decide ((x:Int)<d.1.length)=true->0<=(x:Int)/\(x:Int)<d.1.length/\(decide (nth d.1 (x:Int).toNat≠0)=true->(nth d.1 (x:Int).toNat,())=(yj d.1,()))/\(decide (nth d.1 (x:Int).toNat≠0)=false->kH ((x:Int)+1)/\∃(a:Nat),(((x:Int)+1=(a:Int)/\True)/\True)/\(a<=d.1.length/\∀(b:Nat),b<a->nth d.1 b=0)/\d.1.length-a<d.1.length-x))/\(decide ((x:Int)<d.1.length)=false->((0:Int),())=(yj d.1,()))
def Cx:we:=⟨[.val tSh,.val tSh],[.int],false,fun _=>[],fun d=>(cP d.1 d.2.1,())⟩
def Cy:Prop:=∀(d:ShD×ShD×Unit),(yj [ck d.1.1 d.2.1.1,ck d.1.2.1 d.2.1.2.1,ck d.1.2.2.1 d.2.1.2.2.1,ck d.1.2.2.2.1 d.2.1.2.2.2.1,ck d.1.q4.1 d.2.1.q4.1],())=(cP d.1 d.2.1,())
def MW:we:=⟨[.val tSh,.val tSh],[.int],false,fun _=>[],fun d=>(kN d.1 d.2.1,())⟩
def MX:Prop:=∀(d:ShD×ShD×Unit),(yj [ck d.1.2.1 d.2.1.2.1,ck d.1.1 d.2.1.1],())=(kN d.1 d.2.1,())
def tF:qk:=⟨[.val (.slice tSh)],[rwS],fun d=>[d.1.length<=100000],fun d=>((d.1,()),())⟩
def tG:Prop:=∀(d:List ShD×Unit),d.1.length<=100000->∀(β:Bool),(β=true->d.1=[])->(β=true->([],())=d/\()=())/\(β=false->(0+d.1.length)*40<=140737488355328/\([]++d.1,())=d/\()=())
def o9:qk:=⟨[.own rwS false],[rwS],fun d=>[d.1.length<=100000],fun d=>((aO yw d.1,()),())⟩
def pa:Ann:=fun r=>match r with
 |4=>some fun σ=>{X:=Nat,sl:=fun i=>[(3,.dat .int (i:Int))],ob:=fun _=>[],inv:=fun i=>jbU yw (gr tSh σ 1000000) i,mu:=fun i=>(gr tSh σ 1000000).length-i}
 |9=>some fun σ=>{X:=Nat×List ShD,sl:=fun x=>[(5,.dat .int (x.1:Int)),(3,.dat .int (nX yw (gr tSh σ 1000000) ((gd .int σ 3).toNat+x.1)))],ob:=fun x=>[(1000000,some (.row 75 tSh false .unk x.2))],inv:=fun x=>OL yw (gr tSh σ 1000000) (gd .int σ 3).toNat x.1 x.2,mu:=fun x=>(gr tSh σ 1000000).length-x.1}
 |_=>none
abbrev je1 (x:Nat)(a:Nat×List ShD):=((x:Int).toNat+a.1)
abbrev jix (d:List ShD×Unit)(x:Nat)(a:Nat×List ShD):=(List.take (nX yw d.1 (je1 x a)).toNat a.2++List.replicate ((a.2.length:Int).toNat-(nX yw d.1 (je1 x a)).toNat) ((0:Int),(0:Int),(0:Int),(0:Int),(0:Int),()))
abbrev jiy (a:Nat×List ShD)(x:Nat):=(!decide (nth a.2 ((x:Int).toNat+(a.1:Int).toNat)=nth a.2 ((x:Int).toNat+((a.1:Int)-1).toNat)))
abbrev jfk (d:List ShD×Unit):=(d.1.length:Int)
abbrev jgI (d:List ShD×Unit)(x:Nat):=(↑((jfk d).toNat-(x:Int).toNat):Int)
def pb:Prop:=∀(d:List ShD×Unit),d.1.length<=100000->d.1.length<4611686018427387904->(decide ((jfk d)<2)=true->d=(aO yw d.1,())/\()=())/\(decide ((jfk d)<2)=false->(∃(x:Nat),((1=(x:Int)/\True)/\True)/\jbU yw d.1 x)/\∀(x:Nat),jbU yw d.1 x->d.1.length<4611686018427387904->(decide ((x:Int)<(jfk d))=true->0<=(x:Int)/\(x:Int)<(jfk d)/\kH ((x:Int)-1)/\0<=(x:Int)-1/\(x:Int)-1<(jfk d)/\(decide (nth d.1 (x:Int).toNat=nth d.1 ((x:Int)-1).toNat)=true->0<=(x:Int)/\(x:Int)<=(jfk d)/\(jfk d)<=(jfk d)/\(∃(a:Nat×List ShD),((1=(a.1:Int)/\(x:Int)=nX yw d.1 (je1 x a)/\True)/\d.1=a.2/\True)/\OL yw d.1 (x:Int).toNat a.1 a.2)/\∀(a:Nat×List ShD),OL yw d.1 (x:Int).toNat a.1 a.2->(jfk d).toNat-(x:Int).toNat<4611686018427387904->(decide ((a.1:Int)<(jgI d x))=true->0<=(a.1:Int)/\(a.1:Int)<(jgI d x)/\kH ((a.1:Int)-1)/\0<=(a.1:Int)-1/\(a.1:Int)-1<(jgI d x)/\((jiy a x)=true->0<=(a.1:Int)/\(a.1:Int)<(jgI d x)/\0<=nX yw d.1 (je1 x a)/\nX yw d.1 (je1 x a)<(a.2.length:Int)/\kH (nX yw d.1 (je1 x a)+1)/\kH ((a.1:Int)+1)/\∃(b:Nat×List ShD),(((a.1:Int)+1=(b.1:Int)/\nX yw d.1 (je1 x a)+1=nX yw d.1 ((x:Int).toNat+b.1)/\True)/\a.2.set (nX yw d.1 (je1 x a)).toNat (nth a.2 ((x:Int).toNat+(a.1:Int).toNat))=b.2/\True)/\OL yw d.1 (x:Int).toNat b.1 b.2/\d.1.length-b.1<d.1.length-a.1)/\((jiy a x)=false->kH ((a.1:Int)+1)/\∃(b:Nat×List ShD),((nX yw d.1 (je1 x a)=nX yw d.1 ((x:Int).toNat+b.1)/\(a.1:Int)+1=(b.1:Int)/\True)/\a.2=b.2/\True)/\OL yw d.1 (x:Int).toNat b.1 b.2/\d.1.length-b.1<d.1.length-a.1))/\(decide ((a.1:Int)<(jgI d x))=false->0<=nX yw d.1 (je1 x a)/\nX yw d.1 (je1 x a)<=(a.2.length:Int)/\(a.2.length:Int)<=a.2.length/\(nX yw d.1 (je1 x a)).toNat+((a.2.length:Int).toNat-(nX yw d.1 (je1 x a)).toNat)=a.2.length/\(0:Int)<=0/\0<=nX yw d.1 (je1 x a)/\nX yw d.1 (je1 x a)<=(↑(jix d x a).length:Int)/\(List.take ((nX yw d.1 (je1 x a)).toNat-Int.toNat 0) (jix d x a),())=(aO yw d.1,())/\()=()))/\(decide (nth d.1 (x:Int).toNat=nth d.1 ((x:Int)-1).toNat)=false->kH ((x:Int)+1)/\∃(c:Nat),(((x:Int)+1=(c:Int)/\True)/\True)/\jbU yw d.1 c/\d.1.length-c<d.1.length-x))/\(decide ((x:Int)<(jfk d))=false->d=(aO yw d.1,())/\()=()))
abbrev na:qk:=UQ tSh 75
def Hg:qk:=⟨[.val (.slice tSh)],[rwS],fun d=>[d.1.length<=100000],fun d=>((wI d.1,()),())⟩
abbrev jhU:=(ku (Ty.int.pair (Ty.int.pair (Ty.int.pair (Ty.int.pair (Ty.int.pair Ty.unit))))) fun(a:ShD×ShD×Unit)=>(cP a.1 a.2.1,()))
def Hh:Prop:=∀(d:List ShD×Unit),d.1.length<=100000->d.1.length<=100000/\(∀(x:ShD),x∈d.1->∀(y:ShD),y∈d.1->kK [])/\q9 jhU d.1/\(kr jhU d.1).length<=100000/\(aO yw (kr jhU d.1),())=(wI d.1,())/\()=()
def JR:qk:=⟨[.val tSh,.own (.box 195 [.map .int .int]) true],[.cl (.dat .bool)],fun d=>[W5 d.2.1.1],fun d=>((Qg d.2.1.1 d.1,()),((mS d.2.1.1 d.1,()),()))⟩
abbrev jhV (d:ShD×(List (Int×Int)×Unit)×Unit):=(wa (0:Int) (kO Ty.int d.1.1 d.2.1.1)+1)
def JS:Prop:=∀(d:ShD×(List (Int×Int)×Unit)×Unit),W5 d.2.1.1->kH (jhV d)/\(decide (1<wa (0:Int) (kO Ty.int d.1.1 (eQ Ty.int d.1.1 (jhV d) d.2.1.1))),())=(Qg d.2.1.1 d.1,())/\((eQ Ty.int d.1.1 (jhV d) d.2.1.1,()),())=((mS d.2.1.1 d.1,()),())
abbrev clV:Sh:= .fbox 148 195 [.map .int .int]
def dU:qk:=⟨[.val (.slice tSh),.own clV true],[.cl (.dat .int)],fun d=>[d.1.length<=100000,jdj d.2.1.1],fun d=>((mf d.2.1.1 d.1,()),((pA d.2.1.1 d.1,()),()))⟩
def dV:Ann:=fun r=>match r with
 |2=>some fun σ=>{X:=Nat,sl:=fun i=>[(8,.dat .int (i:Int))],ob:=fun i=>[(400020,some (.map false .int .int (v6 [] (gd (.slice tSh) σ 0) i)))],inv:=fun i=>i<=(gd (.slice tSh) σ 0).length/\∀b:Nat,b<i->sP [] (gd (.slice tSh) σ 0) b=false,mu:=fun i=>(gd (.slice tSh) σ 0).length-i}
 |_=>none
def dW:Prop:=∀(d:List ShD×(List (Int×Int)×Unit)×Unit),d.1.length<=100000->jdj d.2.1.1->d.1.length<4611686018427387904->(∃(x:Nat),((0=(x:Int)/\True)/\d.2.1.1=v6 [] d.1 x/\True)/\x<=d.1.length/\∀(b:Nat),b<x->sP [] d.1 b=false)/\∀(x:Nat),(x<=d.1.length/\∀(b:Nat),b<x->sP [] d.1 b=false)->(decide ((x:Int)<d.1.length)=true->0<=(x:Int)/\(x:Int)<d.1.length/\W5 (v6 [] d.1 x)/\(Qg (v6 [] d.1 x) (nth d.1 (x:Int).toNat)=true->((x:Int),())=(mf d.2.1.1 d.1,())/\((mS (v6 [] d.1 x) (nth d.1 (x:Int).toNat),()),())=((pA d.2.1.1 d.1,()),()))/\(Qg (v6 [] d.1 x) (nth d.1 (x:Int).toNat)=false->kH ((x:Int)+1)/\∃(a:Nat),(((x:Int)+1=(a:Int)/\True)/\(True/\True)/\mS (v6 [] d.1 x) (nth d.1 (x:Int).toNat)=v6 [] d.1 a/\True)/\(a<=d.1.length/\∀(b:Nat),b<a->sP [] d.1 b=false)/\d.1.length-a<d.1.length-x))/\(decide ((x:Int)<d.1.length)=false->((-1:Int),())=(mf d.2.1.1 d.1,())/\((v6 [] d.1 x,()),())=((pA d.2.1.1 d.1,()),()))
def bM:qk:=⟨[.val (.slice tSh),.own clV true],[.cl (.dat .bool)],fun d=>[d.1.length<=100000,jdj d.2.1.1],fun d=>((decide (0<=mf d.2.1.1 d.1),()),((pA d.2.1.1 d.1,()),()))⟩
def bN:Prop:=∀(d:List ShD×(List (Int×Int)×Unit)×Unit),d.1.length<=100000->jdj d.2.1.1->d.1.length<=100000/\jdj d.2.1.1/\(decide (0<=mf d.2.1.1 d.1),())=(decide (0<=mf d.2.1.1 d.1),())/\((pA d.2.1.1 d.1,()),())=((pA d.2.1.1 d.1,()),())
def Rn:we:=⟨[.val (.slice tSh)],[.bool],false,fun d=>[d.1.length<=100000],fun d=>(To d.1,())⟩
def Ro:Prop:=∀(d:List ShD×Unit),d.1.length<=100000->d.1.length<=100000/\jdj []/\(decide (0<=mf [] d.1),())=(To d.1,())
def D8:we:=⟨[.val tDy],[.int],false,fun _=>[],fun d=>(uv d.1,())⟩
def D9:Ann:=fun r=>match r with
 |5=>some fun σ=>{X:=Nat,sl:=fun i=>[(17,.dat .int (i:Int))],ob:=fun _=>[],inv:=fun i=>i<=(gd (.slice tBk) σ 15).length/\∀b:Nat,b<i->ww (kD (gd tDy σ 0)) (y7 (nth (gd (.slice tBk) σ 15) b))=true,mu:=fun i=>(gd (.slice tBk) σ 15).length-i}
 |_=>none
abbrev jhW:=((0:Int),(1:Int),(0:Int),(0:Int),(0:Int),(1:Int),())
def Ea:Prop:=∀(d:DyD×Unit),(decide (qH d.1.1 jhW≠0)=true->(qH d.1.1 jhW,())=(uv d.1,()))/\(decide (qH d.1.1 jhW≠0)=false->d.1.2.2.1.length<4611686018427387904->(∃(x:Nat),((0=(x:Int)/\True)/\True)/\x<=d.1.2.2.1.length/\∀(b:Nat),b<x->ww (kD d.1) (y7 (nth d.1.2.2.1 b))=true)/\∀(x:Nat),(x<=d.1.2.2.1.length/\∀(b:Nat),b<x->ww (kD d.1) (y7 (nth d.1.2.2.1 b))=true)->(decide ((x:Int)<d.1.2.2.1.length)=true->0<=(x:Int)/\(x:Int)<d.1.2.2.1.length/\(decide (qH d.1.1 (nth d.1.2.2.1 (x:Int).toNat).1≠0)=true->(qH d.1.1 (nth d.1.2.2.1 (x:Int).toNat).1,())=(uv d.1,()))/\(decide (qH d.1.1 (nth d.1.2.2.1 (x:Int).toNat).1≠0)=false->kH ((x:Int)+1)/\∃(a:Nat),(((x:Int)+1=(a:Int)/\True)/\True)/\(a<=d.1.2.2.1.length/\∀(b:Nat),b<a->ww (kD d.1) (y7 (nth d.1.2.2.1 b))=true)/\d.1.2.2.1.length-a<d.1.2.2.1.length-x))/\(decide ((x:Int)<d.1.2.2.1.length)=false->((0:Int),())=(uv d.1,())))
def Rp:we:=⟨[.val tDy],[.int],false,fun d=>[(wu d.1).length<=100000],fun d=>(wx d.1,())⟩
def Rq:Prop:=∀(d:DyD×Unit),(wu d.1).length<=100000->(decide (uv d.1≠0)=true->(uv d.1,())=(wx d.1,()))/\(decide (uv d.1≠0)=false->((!wR d.1)=true->((50:Int),())=(wx d.1,()))/\((!wR d.1)=false->d.1.q4.2.1.length<=100000/\(wI d.1.q4.2.1).length<=100000/\(To (wI d.1.q4.2.1)=true->((51:Int),())=(wx d.1,()))/\(To (wI d.1.q4.2.1)=false->((0:Int),())=(wx d.1,()))))
theorem Rr:MV:=by
 intro d;rfl
theorem pd:wn PR 142 MU:=kY Rr Tryz.func142 kcN koN
theorem pe:mZ:=by
 rintro⟨l,f,⟨⟩⟩ a g;refine⟨⟨0,⟨⟨rfl,tZ⟩,tZ⟩,ju _,fun b c=>by omega⟩,fun i hi=>⟨fun h=> ?_,fun h=> ?_⟩⟩;have h:i<l.length:=(by simpa using h);simp only[jw] at*;refine⟨by omega,by omega,qY _ (a _ (L.kB h)) ⟨fun c=> ?_,fun c=>⟨iZ6,i+1,⟨⟨by simp,tZ⟩,tZ⟩,⟨by omega,fun b d=> ?_⟩,by omega⟩⟩⟩;rw[ya (p:=ko (α:=SpD) f.F) h hi.2 c];by_cases e:b=i;subst e;exact c;exact hi.2 b (by omega);have h:l.length<=i:=(by simpa using h);rw[qI (p:=ko (α:=SpD) f.F) h hi.2]
theorem nc:wn PR 217 mX:=qG mY pe Tryz.func217 kcN koN
theorem iK:fI:=by
 rintro⟨l,f,⟨⟩⟩ a;refine⟨a,?_⟩;exact jG (·,()) (fF (ko (α:=SpD) f.F) l)
theorem fM:wn PR 179 fH:=kY iK Tryz.func179 (kcC nc kcN) koN
theorem nf:lL:=by
 rintro⟨l,f,⟨⟩⟩ a g;refine⟨⟨0,⟨⟨rfl,tZ⟩,tZ⟩,ju _,fun b c=>by omega⟩,fun i hi=>⟨fun h=> ?_,fun h=> ?_⟩⟩;have h:i<l.length:=(by simpa using h);simp only[jw] at*;refine⟨by omega,by omega,qY _ (a _ (L.kB h)) ⟨fun c=> ?_,fun c=>⟨iZ6,i+1,⟨⟨by simp,tZ⟩,tZ⟩,⟨by omega,fun b d=> ?_⟩,by omega⟩⟩⟩;rw[ya (p:=ko (α:=(List SpD)) f.F) h hi.2 c];by_cases e:b=i;subst e;exact c;exact hi.2 b (by omega);have h:l.length<=i:=(by simpa using h);rw[qI (p:=ko (α:=(List SpD)) f.F) h hi.2]
theorem lP:wn PR 218 lJ:=qG lK nf Tryz.func218 kcN koN
theorem fN:dR:=by
 rintro⟨l,f,⟨⟩⟩ a;refine⟨a,?_⟩;exact jG (·,()) (fF (ko (α:=(List SpD)) f.F) l)
theorem dX:wn PR 181 dQ:=kY fN Tryz.func181 (kcC lP kcN) koN
theorem iL:fL:=by
 rintro⟨l,f,⟨⟩⟩ a g;refine⟨⟨0,⟨⟨rfl,tZ⟩,tZ⟩,ju _,fun b c=>by omega⟩,fun i hi=>⟨fun h=> ?_,fun h=> ?_⟩⟩;have h:i<l.length:=(by simpa using h);simp only[jw] at*;refine⟨by omega,by omega,qY _ (a _ (L.kB h)) ⟨fun c=> ?_,fun c=>⟨iZ6,i+1,⟨⟨by simp,tZ⟩,tZ⟩,⟨by omega,fun b d=> ?_⟩,by omega⟩⟩⟩;rw[ya (p:=ko (α:=BkD) f.F) h hi.2 c];by_cases e:b=i;subst e;exact c;exact hi.2 b (by omega);have h:l.length<=i:=(by simpa using h);rw[qI (p:=ko (α:=BkD) f.F) h hi.2]
theorem fO:wn PR 219 fJ:=qG fK iL Tryz.func219 kcN koN
theorem db:cr:=by
 rintro⟨l,f,⟨⟩⟩ a;refine⟨a,?_⟩;exact jG (·,()) (fF (ko (α:=BkD) f.F) l)
theorem ct:wn PR 183 cq:=kY db Tryz.func183 (kcC fO kcN) koN
theorem ng:lO:=by
 rintro⟨l,f,⟨⟩⟩ a g;refine⟨⟨0,⟨⟨rfl,tZ⟩,tZ⟩,ju _,fun b c=>by omega⟩,fun i hi=>⟨fun h=> ?_,fun h=> ?_⟩⟩;have h:i<l.length:=(by simpa using h);simp only[jw] at*;refine⟨by omega,by omega,qY _ (a _ (L.kB h)) ⟨fun c=> ?_,fun c=>⟨iZ6,i+1,⟨⟨by simp,tZ⟩,tZ⟩,⟨by omega,fun b d=> ?_⟩,by omega⟩⟩⟩;rw[ya (p:=ko (α:=ShD) f.F) h hi.2 c];by_cases e:b=i;subst e;exact c;exact hi.2 b (by omega);have h:l.length<=i:=(by simpa using h);rw[qI (p:=ko (α:=ShD) f.F) h hi.2]
theorem lQ:wn PR 186 lM:=qG lN ng Tryz.func186 kcN koN
theorem fP:dT:=by
 rintro⟨l,f,⟨⟩⟩ a;refine⟨a,?_⟩;exact jG (·,()) (fF (ko (α:=ShD) f.F) l)
theorem dY:wn PR 147 dS:=kY fP Tryz.func147 (kcC lQ kcN) koN
theorem xD:tE:=by
 intro d h;exact qY _ h rfl
theorem tH:wn PR 180 tD:=kY xD Tryz.func180 kcN koN
theorem Eb:Cw:=by
 intro d h;exact⟨fun g a=>⟨h g a,tZ⟩,jG (·,()) (rL d.snd.fst.2 d.fst)⟩
theorem Cz:wn PR 140 Cv:=kY Eb Tryz.func140 (kcC fM (kcC tH kcN)) koN
theorem tI:rU:=by
 intro d h;exact qY _ h rfl
theorem r9:wn PR 182 rT:=kY tI Tryz.func182 kcN koN
theorem CA:xy:=by
 intro d h;exact⟨fun g a=>⟨h g a,tZ⟩,jG (·,()) (rL d.snd.fst.2 d.fst)⟩
theorem xE:wn PR 144 xw:=kY CA Tryz.func144 (kcC dX (kcC r9 kcN)) koN
theorem pf:m9:=by
 intro d h;exact qY _ h rfl
theorem nh:wn PR 184 m0:=kY pf Tryz.func184 kcN koN
theorem tJ:rW:=by
 intro d h;exact⟨fun g a=>⟨h g a,tZ⟩,jG (·,()) (rL d.snd.fst.2 d.fst)⟩
theorem sa:wn PR 145 rV:=kY tJ Tryz.func145 (kcC ct (kcC nh kcN)) koN
theorem tK:rY:=by
 intro d h;exact qY _ h rfl
theorem sd:wn PR 185 rX:=kY tK Tryz.func185 kcN koN
theorem CB:xA:=by
 intro d h;exact⟨fun g a=>⟨h g a,tZ⟩,jG (·,()) (rL d.snd.fst.2 d.fst)⟩
theorem xF:wn PR 146 xz:=kY CB Tryz.func146 (kcC dY (kcC sd kcN)) koN
theorem MY:JK:=fun _=>rfl
theorem JT:wn PR 138 JJ:=kY MY Tryz.func138 kcN koN
theorem MZ:JM:=by
 rintro⟨l,d,f,⟨⟩⟩ a _ _;exact⟨fun _=>a,rfl⟩
theorem JU:wn PR 139 JL:=kY MZ Tryz.func139 (kcC Cz kcN) koN
theorem M0:JO:=by
 rintro⟨b,d,⟨⟩⟩ h;have h:(wt d).length<4611686018427387904:=h;exact⟨L.E0 (by show _<=((wt d).length:Int)-1;omega) (by show((wt d).length:Int)-1<=_;omega),rfl⟩
theorem JV:wn PR 141 JN:=kY M0 Tryz.func141 (kcC pd kcN) koN
theorem M1:JQ:=by
 unfold JQ jiw jiv Prod.q4;rintro⟨s,d,⟨⟩⟩ h;refine⟨fun a=> ?_,fun b=>⟨fun a=> ?_,rfl⟩⟩;have h:=h a;exact L.E0 (by simp only at*;omega) (by simp only at*;omega);have h:=b a;exact L.E0 (by simp only at*;omega) (by simp only at*;omega)
theorem JW:wn PR 143 JP:=kY M1 Tryz.func143 (kcC pd kcN) koN
theorem Yh (s:SpD):u9 s=sK s:=by
 unfold u9 sK;rw[j0];simp only[ji,jm];omega
theorem Yi (n:Nat) (b:BkD):DA n b=l9 n b:=by
 unfold DA l9 kl;rw[j0];simp only[ji,jm];omega
theorem Yj (nb a:Nat) (s:ShD):Li nb a s=ma nb a s:=by
 unfold Li ma kl;rw[j0];simp only[ji,jm];omega
theorem Yk (d:DyD):(((((((decide (((kE d).length:Int)<=4)&&kl ((wt d).length:Int) 1 5)&&(wt d).all (fun r=>decide ((r.length:Int)=(wt d).length)&&r.all sK))&&(kE d).all (l9 (wt d).length))&&kl (Ao d) 0 300)&&kl (Zh d) 0 1440)&&decide (((wu d).length:Int)<=30))&&(wu d).all (ma (kE d).length (kz (kD d)).length))=wR d:=by
 unfold wR;have e:(fun(r:List SpD)=>decide ((r.length:Int)=(wt d).length)&&r.all sK)=bV (wt d).length:=by
  funext r;unfold bV;congr 1;exact decide_eq_decide.2 (by omega)
 rw[e];cases (wt d).all (bV (wt d).length)<;>cases (kE d).all (l9 (wt d).length)<;>cases (wu d).all (ma (kE d).length (kz (kD d)).length)<;>simp only[Bool.and_false,Bool.and_true,Bool.false_and,kl]
 rw[j0];simp only[ji,jm];omega
theorem Vh:Rm:=by
 unfold Rm jgH jhi jgk jhT Prod.q4;rintro⟨d,⟨⟩⟩ _ _;refine⟨fun _ _ _=>⟨fun _ _=>tZ,tZ⟩,fun _ _ _=>tZ,fun _=>⟨fun _ _ _=>tZ,?_⟩⟩;have a:(ko fun(x:SpD×Unit)=>(u9 x.fst,()))=sK:=funext Yh;have e2:(ko fun(x:BkD×Unit)=>(DA (wt d).length x.fst,()))=l9 (wt d).length:=funext (Yi _);have b:(ko fun(x:ShD×Unit)=>(Li (kE d).length (kz (kD d)).length x.fst,()))=ma (kE d).length (kz (kD d)).length:=funext (Yj _ _);simp only;rw[a,e2,b];exact jG (·,()) (Yk d)
theorem Rs:wn PR 102 Rk:=kY Vh Tryz.func102 (kcC pd (kcC JT (kcC JU (kcC JV (kcC JW (kcC xE (kcC sa (kcC xF kcN)))))))) koN
theorem CC:xC:=by
 intro d;simp
theorem xG:wn PR 94 xB:=kY CC Tryz.func94 kcN koN
theorem tL:r8:=by
 unfold r8 jgl;rintro⟨a,b,⟨⟩⟩;refine⟨fun h=>(by cases h),fun _=>⟨fun h=>(by cases h),fun _=>⟨fun h=> ?_,fun h=>⟨fun c=> ?_,fun c=> ?_⟩⟩⟩⟩;have h:a<b:=ja h;simp only;unfold ck;rw[jh h];have h:¬a<b:=jc h;have c:b<a:=ja c;simp only;unfold ck;rw[jd h,jh c];have h:¬a<b:=jc h;have c:¬b<a:=jc c;simp only;unfold ck;rw[jd h,jd c]
theorem yg:wn PR 65 rZ:=kY tL Tryz.func65 (kcC xG kcN) koN
theorem Rt {l:List Int} {i:Nat} (h:i<l.length) (a:∀b:Nat,b<i->nth l b=0) (hi:nth l i≠0):yj l=nth l i:=by
 have e:l.find? (fun n=>decide (n≠0))=some (nth l i):=by
  rw[List.find?_eq_some_iff_getElem];refine⟨jH hi,i,h,by rw[L.wW h],fun j c=> ?_⟩;have:=a j c;rw[L.wW (by omega)] at this;simp[this]
 unfold yj;rw[e]
theorem JX {l:List Int} (a:∀b:Nat,b<l.length->nth l b=0):yj l=0:=by
 have e:l.find? (fun n=>decide (n≠0))=none:=by
  rw[List.find?_eq_none];intro x c;obtain⟨i,hi,rfl⟩:=L.mem_iff.1 c;simp[a i hi]
 unfold yj;rw[e]
theorem JY:Hf:=by
 rintro⟨l,⟨⟩⟩ f;refine⟨⟨0,⟨⟨rfl,tZ⟩,tZ⟩,ju _,fun b c=>by omega⟩,fun x d=>⟨fun h=> ?_,fun h=> ?_⟩⟩;have h:x<l.length:=(by simpa using h);simp only[jw];refine⟨by omega,by omega,fun a=> ?_,fun a=>⟨L.E0 (by omega) (by simp only at f;omega),x+1,⟨⟨by simp,tZ⟩,tZ⟩,⟨h,fun b c=> ?_⟩,by omega⟩⟩;rw[Rt h d.2 (ja a)];by_cases e:b=x;subst e;exact jP.1 (jc a);exact d.2 b (by omega);have h:l.length<=x:=(by simpa using h);rw[JX (fun b c=>d.2 b (by simp only at c;omega))]
theorem ba:wn PR 64 Hd:=qG He JY Tryz.func64 kcN koN
theorem Ec:Cy:=fun _=>rfl
theorem CD:wn PR 150 Cx:=kY Ec Tryz.func150 (kcC yg (kcC ba kcN)) koN
theorem Ru:MX:=fun _=>rfl
theorem M2:wn PR 108 MW:=kY Ru Tryz.func108 (kcC yg (kcC ba kcN)) koN
theorem xH:tG:=by
 rintro⟨l,⟨⟩⟩ b β a;have b:l.length<=100000:=b;refine⟨fun h=>⟨?_,rfl⟩,fun _=>⟨by simp only;omega,by simp,rfl⟩⟩;have:l=[]:=a h;rw[this]
theorem tM:yR PR 149 tF:=uW xH Tryz.func149 kcN koN
theorem se:pb:=by
 unfold pb jgI jfk jiy jix je1;rintro⟨l,⟨⟩⟩ m C;have m:l.length<=100000:=m;obtain⟨eq,k⟩:∃eq,eq=yw:=⟨_,rfl⟩;have A:∀a b:ShD,decide (a=b)=eq a b:=fun a b=>by rw[k];rfl
 simp only[<-k,A,jw];refine⟨fun h=>⟨?_,tZ⟩,fun h=> ?_⟩;have h:(l.length:Int)<2:=ja h;rw[L.comp_short (by omega)];have h:¬(l.length:Int)<2:=jc h;refine⟨⟨1,⟨⟨rfl,tZ⟩,tZ⟩,jk _,by omega,?_⟩,fun i hi _=>⟨fun g=> ?_,fun g=>⟨?_,tZ⟩⟩⟩;rw[L.comp_short];rw[jY];omega;have g:(i:Int)<l.length:=ja g;obtain⟨s,D,f⟩:=hi;have z:((i:Int)-1).toNat=i-1:=(by omega);rw[z];have n:=L.comp_take (eq:=eq) (l:=l) s (by omega:i<l.length);refine⟨by omega,g,by unfold kH;omega,by omega,by omega,fun j=>⟨by omega,by omega,zT _,⟨(1,l),⟨⟨rfl,?_,tZ⟩,rfl,tZ⟩,jk _,by omega,rfl,?_,rfl,?_⟩,fun x q _=>⟨fun e=> ?_,fun e=> ?_⟩⟩,fun j=>⟨iZ6,i+1,⟨⟨by simp,tZ⟩,tZ⟩,⟨by omega,by omega,?_⟩,by omega⟩⟩;unfold nX;rw[n,jh j,j8,f,jY];omega;rw[n,jh j,j8,f,jY];show l.take i=l.take (min i l.length);congr 1;omega;rw[n,jh j,j8,f,jY];omega;have e:(x.1:Int)<((l.length-i:Nat):Int):=ja e;have r:=q;obtain⟨G,H,I,v,J,w⟩:=r;obtain⟨E,F⟩:=L.inv9_next s q (by omega);have y:((x.1:Int)-1).toNat=x.1-1:=(by omega);have o:i+(x.1-1)=i+x.1-1:=(by omega);rw[y,o];have p:nX eq l (i+x.1)=((aO eq (l.take (i+x.1))).length:Int):=rfl;refine⟨by omega,e,by unfold kH;omega,by omega,by omega,fun c=> ?_,fun c=> ?_⟩;have c:eq (nth x.2 (i+x.1)) (nth x.2 (i+x.1-1))=false:=(by simpa using c);obtain⟨t,u⟩:=E c;refine⟨by omega,e,by omega,by omega,by unfold kH;omega,iZ6,(x.1+1,_),⟨⟨by simp,t.symm,tZ⟩,rfl,tZ⟩,u,by show _-(x.1+1)<_;omega⟩;have c:eq (nth x.2 (i+x.1)) (nth x.2 (i+x.1-1))=true:=(by simpa using c);obtain⟨t,u⟩:=F c;exact⟨iZ6,(x.1+1,x.2),⟨⟨t.symm,by simp,tZ⟩,rfl,tZ⟩,u,by show _-(x.1+1)<_;omega⟩;have e:¬(x.1:Int)<((l.length-i:Nat):Int):=jc e;obtain⟨G,H,I,v,J,w⟩:=q;have p:nX eq l (i+x.1)=((aO eq (l.take (i+x.1))).length:Int):=rfl;have d:l.take (i+x.1)=l:=zv (by omega);rw[d] at p v w;rw[p];simp only[jw];have B:=L.comp_len (eq:=eq) l;refine⟨by omega,by omega,zT _,by omega,by omega,by omega,?_,⟨?_,tZ⟩⟩;simp only[jL,jY,zu];omega;congr 1;rw[show(aO eq l).length-Int.toNat 0=(aO eq l).length from rfl];rw[List.take_left' (by rw[jY];omega)];exact v.symm;rw[n,jd (by rw[j];simp),f];exact(L.wd (by omega)).symm;have g:¬(i:Int)<l.length:=jc g;obtain⟨s,D,f⟩:=hi;have d:l.take i=l:=zv (by omega);rw[d] at f;rw[f]
theorem pg:yR PR 151 o9:=rK pa se Tryz.func151 kcN koN
theorem aT:yR PR 107 na:=
 B8 Tryz.sortSh 75 rfl (jz (by kernel_rfl)) Tryz.isAgg75 Tryz.sizeOf75 (qO Tryz.func107 (c:=wz Tryz.f107) (by kernel_rfl) (by kernel_rfl))
theorem Yl:fG cP:=by
 have e:cP=Tm (fun a b=>ck (yy a) (yy b)) (Tm (fun a b=>ck (DL a) (DL b)) (Tm (fun a b=>ck (W3 a) (W3 b)) (Tm (fun a b=>ck (iV a) (iV b)) (fun a b=>ck (y9 a) (y9 b))))):=by
  funext a b;unfold cP;simp only[wG,Tm]
  split<;>(try rfl);split<;>(try rfl);split<;>(try rfl);split<;>(try rfl);split<;>(try rfl)
  rename_i h;exact(jP.1 h).symm
 rw[e];exact o8 (nU lI yy) (o8 (nU lI DL) (o8 (nU lI W3) (o8 (nU lI iV) (nU lI y9))))
theorem Rv {a b:ShD} (h:cP a b=0):a=b:=by
 unfold cP at h;rw[wG] at h
 split at h
 contradiction;rename_i c;rw[wG] at h
 split at h
 contradiction;rename_i d;rw[wG] at h
 split at h
 contradiction;rename_i e;rw[wG] at h
 split at h
 contradiction;rename_i f;rw[qP] at h;have c:=ae.1 (jP.1 c);have d:=ae.1 (jP.1 d);have e:=ae.1 (jP.1 e);have f:=ae.1 (jP.1 f);have g:=ae.1 h;obtain⟨i,j,k,l,m,⟨⟩⟩:=a;obtain⟨n,o,p,q,r,⟨⟩⟩:=b;have c:i=n:=c;have d:j=o:=d;have e:k=p:=e;have f:l=q:=f;have g:m=r:=g;rw[c,d,e,f,g]
theorem Ym (l:List ShD):q9 (ku tSh fun x=>(cP x.1 x.2.1,())) l:=AG Yl (fun _ _ _ _ h=>Rv h)
theorem Vi (l:List ShD):(wI l).length<=l.length:=by
 unfold wI;refine jE (L.comp_len _) ?_;rw[(wF l).length_eq];exact jk _
theorem JZ:Hh:=by
 unfold Hh jhU;rintro⟨l,⟨⟩⟩ a;exact⟨a,fun _ _ _ _=>tZ,Ym l,by rw[(wF (lt:=ku tSh fun x=>(cP x.1 x.2.1,())) l).length_eq];exact a,rfl,rfl⟩
theorem sf:yR PR 104 Hg:=uW JZ Tryz.func104 (kcC CD kcN) (koC tM (koC aT (koC pg koN)))
theorem M3:JS:=by
 unfold JS jhV;rintro⟨s,⟨m,⟨⟩⟩,⟨⟩⟩ h;have h:W5 m:=h;have:=h (yy s);have this:0<=wa 0 (kO .int s.1 m)/\wa 0 (kO .int s.1 m)<=200000:=this;exact⟨L.E0 (by simp only;omega) (by simp only;omega),rfl,rfl⟩
theorem J0:yR PR 148 JR:=uW M3 Tryz.func148 kcN koN
theorem dZ {m:List (Int×Int)} {l:List ShD} {i:Nat} (h:i<l.length):v6 m l (i+1)=mS (v6 m l i) (nth l i):=by
 unfold v6;rw[L.wd h,jU];rfl
theorem ZK (l:List ShD):∀i,i<=l.length->∀k,0<=wa 0 (kO .int k (v6 [] l i))/\wa 0 (kO .int k (v6 [] l i))<=(i:Int)
 |0,_,k=>⟨zT 0,zT 0⟩
 |i+1,hi,k=>by
  have b:=ZK l i (by omega)
  rw[dZ (by omega)]
  unfold mS
  by_cases e:k=yy (nth l i)
  rw[e]
  have a:=M.pF (kt:= .int) (yy (nth l i)) (wa 0 (kO .int (yy (nth l i)) (v6 [] l i))+1) (v6 [] l i)
  rw[a]
  have:=b (yy (nth l i))
  show 0<=wa 0 (kO .int (yy (nth l i)) (v6 [] l i))+1/\wa 0 (kO .int (yy (nth l i)) (v6 [] l i))+1<=_
  omega
  have a:=M.dm (kt:= .int) (k:=yy (nth l i)) (k':=k) e (wa 0 (kO .int (yy (nth l i)) (v6 [] l i))+1) (v6 [] l i)
  rw[a]
  have:=b k
  omega
theorem Yn {m:List (Int×Int)} {l:List ShD} {i:Nat} (h:i<l.length) (a:∀b:Nat,b<i->sP m l b=false) (hi:sP m l i=true):mf m l=(i:Int)/\W4 m l=i+1:=by
 have e:(List.range l.length).findIdx? (sP m l)=some i:=by
  rw[z8];refine⟨by simpa using h,by simpa using hi,fun j c=>by simp[a j c]⟩
 unfold mf W4 yz;rw[e];exact⟨rfl,rfl⟩
theorem FR {m:List (Int×Int)} {l:List ShD} (a:∀b:Nat,b<l.length->sP m l b=false):mf m l= -1/\W4 m l=l.length:=by
 have e:(List.range l.length).findIdx? (sP m l)=none:=by
  rw[List.findIdx?_eq_none_iff];intro x c;exact a x (jA.1 c)
 unfold mf W4 yz;rw[e];exact⟨rfl,rfl⟩
theorem fQ:dW:=by
 rintro⟨l,⟨m,⟨⟩⟩,⟨⟩⟩ j f n;have f:m=[]:=f;subst f;have j:l.length<=100000:=j;refine⟨⟨0,⟨⟨rfl,tZ⟩,rfl,tZ⟩,ju _,fun b i=>by omega⟩,fun x a=>⟨fun h=> ?_,fun h=> ?_⟩⟩;have h:x<l.length:=(by simpa using h);simp only[jw];refine⟨by omega,by omega,fun k=> ?_,fun d=> ?_,fun d=>⟨iZ6,x+1,⟨⟨by simp,tZ⟩,⟨tZ,tZ⟩,(dZ h).symm,tZ⟩,⟨h,fun b i=> ?_⟩,by omega⟩⟩;have:=ZK l x (by omega) k;omega;obtain⟨c,e2⟩:=Yn h a.2 d;unfold pA;rw[c,e2,dZ h];exact⟨rfl,rfl⟩;by_cases e:b=x;subst e;exact d;exact a.2 b (by omega);have h:l.length<=x:=(by simpa using h);obtain⟨c,e2⟩:=FR (m:=[]) (l:=l) (fun b i=>a.2 b (by omega));have g:x=l.length:=(by have:=a.1;simp only at this;omega);unfold pA;rw[c,e2,g];exact⟨rfl,rfl⟩
theorem d4:yR PR 186 dU:=rK dV fQ Tryz.func186 kcN (koC J0 koN)
theorem cu:bN:=fun _ a b=>⟨a,b,rfl,rfl⟩
theorem bO:yR PR 147 bM:=uW cu Tryz.func147 kcN (koC d4 koN)
theorem Vj:Ro:=fun _ h=>⟨h,rfl,rfl⟩
theorem Rw:wn PR 103 Rn:=kY Vj Tryz.func103 kcN (koC bO koN)
theorem Yo {c:CrD} (h:kG c=true):ww c (0,1,0,0,0,1,())=true:=by
 obtain⟨a,_⟩:=wo h;unfold ww;refine jH ?_;refine⟨by decide,?_,by decide,?_,by decide,by decide,by decide,by decide,by decide,by decide,by decide,by decide,by decide⟩;show(0:Int)<=U.la c-1;omega;show(1:Int)<=U.la c-1;omega
theorem Vk (c:CrD):qH c (0,1,0,0,0,1,())=if kG c=false then 30 else 0:=by
 unfold qH;by_cases h:kG c=false;rw[jh h,jh h];rw[jd h,jd h,jd (by rw[Yo (by simpa using h)];simp)]
theorem Hi:Ea:=by
 unfold Ea jhW;rintro⟨d,⟨⟩⟩;have e:=Vk d.1;simp only[e];by_cases f:kG d.1=false;rw[jh f];refine⟨fun _=> ?_,fun h=>by simp at h⟩;have f:kG (kD d)=false:=f;unfold uv;rw[jh f];rw[jd f];have c:kG (kD d)=true:=eq_true_of_ne_false f;refine⟨fun h=>by simp at h,fun _ k=>⟨⟨0,⟨⟨rfl,tZ⟩,tZ⟩,ju _,fun b j=>by omega⟩,fun x l=>⟨fun h=> ?_,fun h=> ?_⟩⟩⟩;have h:(x:Int)<(kE d).length:=ja h;have h:x<(kE d).length:=(by omega);have k:(kE d).length<4611686018427387904:=k;have e2:qH d.1 (nth d.2.2.1 x).1=if ww (kD d) (y7 (nth (kE d) x))=false then 31 else 0:=by
  show(if kG (kD d)=false then(30:Int) else if ww (kD d) (y7 (nth (kE d) x))=false then 31 else 0)=_;rw[jd (by rw[c];simp)]
 simp only[jw,e2];refine⟨by omega,by show(x:Int)<(kE d).length;omega,fun a=> ?_,fun a=>⟨iZ6,x+1,⟨⟨by simp,tZ⟩,tZ⟩,⟨h,fun b j=> ?_⟩,(by show(kE d).length-(x+1)<(kE d).length-x;omega)⟩⟩;have a:=ja a;by_cases g:ww (kD d) (y7 (nth (kE d) x))=false;rw[jh g];unfold uv;rw[jd (by rw[c];simp),jh];unfold Ib;exact L.all_false h g;rw[jd g] at a;exact absurd rfl a;have a:=jc a;by_cases m:b=x;subst m;by_cases g:ww (kD d) (y7 (nth (kE d) b))=false;rw[jh g] at a;exact absurd (by decide) a;exact eq_true_of_ne_false g;exact l.2 b (by omega);have h:¬(x:Int)<(kE d).length:=jc h;have h:(kE d).length<=x:=(by omega);unfold uv;rw[jd (by rw[c];simp),jd];rw[Bool.not_eq_false];unfold Ib;rw[jT];intro b j;obtain⟨i,hi,rfl⟩:=L.mem_iff.1 j;exact l.2 i (by omega)
theorem Ed:wn PR 101 D8:=qG D9 Hi Tryz.func101 (kcC FO kcN) koN
theorem Vl:Rq:=by
 unfold Rq Prod.q4;rintro⟨d,⟨⟩⟩ c;refine⟨fun h=> ?_,fun h=>⟨fun b=> ?_,fun b=>⟨c,jE (Vi _) c,fun a=> ?_,fun a=> ?_⟩⟩⟩;have h:=ja h;simp only at h⊢;unfold wx;rw[jh h];have h:=jc h;simp only at h⊢;unfold wx;rw[jd h,jh (by simpa using b)];have h:=jc h;simp only at h⊢;unfold wx;rw[jd h,jd (by simpa using b)];have a:To (wI (wu d))=true:=a;rw[jh a];have h:=jc h;simp only at h⊢;unfold wx;rw[jd h,jd (by simpa using b)];have a:To (wI (wu d))=false:=a;rw[jd (by rw[a];simp)]
theorem FS:wn PR 73 Rp:=kY Vl Tryz.func73 (kcC Ed (kcC Rs (kcC Rw kcN))) (koC sf koN)
namespace U
def Tb {α:Type} [Inhabited α] (l:List α) (j k:Nat):List α:=(l.set j (nth l k)).set k (nth l j)
def nD {α:Type} [Inhabited α] (lt:α->α->Bool):List α->Nat->List α
 |l,0=>l
 |l,j+1=>if lt (nth l (j+1)) (nth l j)=true then nD lt (Tb l (j+1) j) j else l
def di {α:Type} [Inhabited α] (lt:α->α->Bool) (l:List α) (i:Nat):List α:=(List.range i).foldl (nD lt) l
def iu {α:Type} [Inhabited α] (lt:α->α->Bool) (l:List α):List α:=di lt l l.length
def pB {α:Type} (lt:α->α->Bool) (x:α):List α->List α
 |[]=>[x]
 |y::r=>if lt x y=true then y::pB lt x r else x::y::r
end U
namespace IS
variable {α:Type} [Inhabited α] {lt:α->α->Bool}
theorem swap_perm {l:List α} {j k:Nat} (a:j<l.length) (hk:k<l.length):(Tb l j k).Perm l:=by
 unfold Tb;rw[L.wW a,L.wW hk];exact List.set_set_perm a hk
theorem sink_perm:∀(j:Nat) (l:List α),j<l.length->(nD lt l j).Perm l
 |0,l,_=>List.Perm.refl _
 |j+1,l,h=>by
  unfold nD
  have a:=swap_perm (l:=l) (j:=j+1) (k:=j) h (by omega)
  split
  exact(sink_perm j _ (by rw[a.length_eq];omega)).trans a
  exact List.Perm.refl _
theorem part_succ (lt:α->α->Bool) (l:List α) (i:Nat):di lt l (i+1)=nD lt (di lt l i) i:=by
 simp[di,zi]
theorem part_perm {l:List α}:∀(i:Nat),i<=l.length->(di lt l i).Perm l
 |0,_=>List.Perm.refl _
 |i+1,h=>by
  rw[part_succ]
  have a:=part_perm (l:=l) i (by omega)
  exact(sink_perm i _ (by rw[a.length_eq];omega)).trans a
theorem isort_perm (lt:α->α->Bool) (l:List α):(iu lt l).Perm l:=part_perm _ (jk _)
theorem part_isort {l:List α} {i:Nat} (a:1<=i) (b:i<=max l.length 1) (c:l.length<=i):di lt l i=iu lt l:=by
 unfold iu;by_cases h:l.length=0;have:i=1:=(by omega);subst this;rw[h];rfl;have:i=l.length:=(by omega);rw[this]
theorem insR_len {α:Type} {lt:α->α->Bool} (x:α):∀q:List α,(pB lt x q).length=q.length+1
 |[]=>rfl
 |y::r=>by
  unfold pB
  split
  simp[insR_len x r]
  simp
theorem nth_mid (a:List α) (x:α) (s:List α):nth (a++x::s) a.length=x:=by
 rw[L.wW (by simp)];simp
theorem sink_app:∀(q:List α) (x:α) (s:List α),nD lt (q.reverse++x::s) q.length=(pB lt x q).reverse++s
 |[],x,s=>rfl
 |y::r,x,s=>by
  have e:(y::r).reverse++x::s=r.reverse++y::x::s:=by simp
  rw[e]
  have g:nth (r.reverse++y::x::s) (r.length+1)=x:=by
   have:=nth_mid (r.reverse++[y]) x s;simpa using this
  have h:nth (r.reverse++y::x::s) r.length=y:=by
   have:=nth_mid r.reverse y (x::s);simpa using this
  show(if lt (nth _ (r.length+1)) (nth _ r.length)=true then nD lt (Tb _ (r.length+1) r.length) r.length else _)=_;rw[g,h];unfold pB
  split
  .have a:Tb (r.reverse++y::x::s) (r.length+1) r.length=r.reverse++x::(y::s):=by
    unfold Tb;rw[g,h];apply List.ext_getElem?;intro k;simp only[List.getElem?_set,ki];by_cases b:r.length=k
    .subst b;rw[jh rfl,jh (by simp)];rw[jx (by simp)];simp
    .rw[jd b];by_cases c:r.length+1=k
     .subst c;rw[jh rfl,jh (by simp)];rw[jx (by simp)];simp
     .rw[jd c];by_cases f:k<r.length
      .rw[jB (by simpa using f),jB (by simpa using f)]
      .rw[jx (by simp;omega),jx (by simp;omega)];obtain⟨d,i⟩:∃d,k-r.reverse.length=d+2:=⟨k-r.length-2,by simp;omega⟩;rw[i];simp
   rw[a,sink_app r x (y::s)];simp
  .simp
theorem fold_len {α:Type} {lt:α->α->Bool}:∀(l q:List α),(l.foldl (fun q x=>pB lt x q) q).length=q.length+l.length
 |[],q=>rfl
 |x::l,q=>by
  simp only[List.foldl_cons,j7]
  rw[fold_len l,insR_len];omega
theorem part_eq (l:List α):∀i,i<=l.length->di lt l i=((l.take i).foldl (fun q x=>pB lt x q) []).reverse++l.drop i
 |0,_=>by simp[di]
 |i+1,h=>by
  rw[part_succ,part_eq l i (by omega)]
  have b:l.drop i=nth l i::l.drop (i+1):=by
   rw[L.wW (by omega)];exact kf (by omega)
  rw[b];have a:((l.take i).foldl (fun q x=>pB lt x q) []).length=i:=(by rw[fold_len];simp;omega);have:=sink_app (lt:=lt) ((l.take i).foldl (fun q x=>pB lt x q) []) (nth l i) (l.drop (i+1));rw[a] at this;rw[this,L.wd (by omega),jU];rfl
theorem isort_eq (l:List α):iu lt l=(l.foldl (fun q x=>pB lt x q) []).reverse:=by
 unfold iu;rw[part_eq l _ (jk _)];simp
theorem insR_mem {α:Type} {lt:α->α->Bool} {x z:α}:∀{q:List α},z∈pB lt x q↔z=x\/z∈q
 |[]=>by simp[pB]
 |y::r=>by
  unfold pB
  split
  simp only[jj,insR_mem (q:=r)]
  constructor
  rintro(h|h|h)<;>simp[h]
  rintro(h|h|h)<;>simp[h]
  simp
theorem insR_desc {α:Type} {lt:α->α->Bool} {x:α}:∀{q:List α},q9 lt (x::q)->q.Pairwise (fun a b=>lt a b=false)->(pB lt x q).Pairwise (fun a b=>lt a b=false)
 |[],_,_=>by simp[pB]
 |y::r,ho,h=>by
  rw[zB] at h
  unfold pB
  split
  rename_i d
  rw[zB]
  refine⟨fun z c=> ?_,insR_desc (ho.sub (fun z c=>by rcases jj.1 c with h|h;exact h▸zg;exact jp _ (jp _ h))) h.2⟩
  rcases insR_mem.1 c with rfl|c
  exact ho.asymm (by simp) (by simp) d
  exact h.1 z c
  rename_i d
  have d:lt x y=false:=by simpa using d
  rw[zB]
  refine⟨fun z c=> ?_,zB.2 h⟩
  rcases jj.1 c with rfl|c
  exact d
  exact ho.ntrans (by simp) (by simp) (by simp[c]) d (h.1 z c)
theorem fold_desc {α:Type} {lt:α->α->Bool}:∀(l q:List α),q9 lt (l++q)->q.Pairwise (fun a b=>lt a b=false)->(l.foldl (fun q x=>pB lt x q) q).Pairwise (fun a b=>lt a b=false)
 |[],q,_,h=>h
 |x::l,q,ho,h=>by
  refine fold_desc l _ (ho.sub (fun z c=> ?_)) (insR_desc (ho.sub (fun z c=> ?_)) h)
  rcases js.1 c with c|c
  simp[c]
  rcases insR_mem.1 c with rfl|c
  simp
  simp[c]
  rcases jj.1 c with rfl|c
  simp
  simp[c]
theorem isort_asc {l:List α} (a:q9 lt l):Q4 lt (iu lt l):=by
 rw[isort_eq];unfold Q4;rw[List.pairwise_reverse];exact fold_desc l [] (by simpa using a) (by simp)
theorem isort_sort {l:List α} (a:q9 lt l):iu lt l=kr lt l:=rJ a (isort_perm lt l) (isort_asc a)
end IS
end Go.X
namespace Go.X
open U
open Go.Proofs
def U.len8tab:ByteArray:=⟨#[0,1,2,2,3,3,3,3,4,4,4,4,4,4,4,4,5,5,5,5,5,5,5,5,5,5,5,5,5,5,5,5,6,6,6,6,6,6,6,6,6,6,6,6,6,6,6,6,6,6,6,6,6,6,6,6,6,6,6,6,6,6,6,6,7,7,7,7,7,7,7,7,7,7,7,7,7,7,7,7,7,7,7,7,7,7,7,7,7,7,7,7,7,7,7,7,7,7,7,7,7,7,7,7,7,7,7,7,7,7,7,7,7,7,7,7,7,7,7,7,7,7,7,7,7,7,7,7,8,8,8,8,8,8,8,8,8,8,8,8,8,8,8,8,8,8,8,8,8,8,8,8,8,8,8,8,8,8,8,8,8,8,8,8,8,8,8,8,8,8,8,8,8,8,8,8,8,8,8,8,8,8,8,8,8,8,8,8,8,8,8,8,8,8,8,8,8,8,8,8,8,8,8,8,8,8,8,8,8,8,8,8,8,8,8,8,8,8,8,8,8,8,8,8,8,8,8,8,8,8,8,8,8,8,8,8,8,8,8,8,8,8,8,8,8,8,8,8,8,8,8,8,8,8,8,8]⟩
abbrev rwI:Sh:= .cl (.row 3 .int .unk)
namespace U
abbrev FC:=Int×Int×Unit->Int×Unit
abbrev bj (F:FC):Int->Int->Bool:=ku .int F
def iv (p:Int×Int×Unit->List Prop) (l:List Int):Prop:=∀x∈l,∀y∈l,kK (p (x,y,()))
def pC (n:Int):Int:=if n=0 then 0 else if n<2 then 1 else if n<4 then 2 else if n<8 then 3 else 4
end U
def Hj:we:=⟨[.val (.uint .u64)],[.int],false,fun d=>[0<=d.1/\d.1<=12],fun d=>(pC d.1,())⟩
abbrev jhX (d:Int×Unit):=(d.1/(2:Int)^Int.toNat 32/(2:Int)^Int.toNat 16/(2:Int)^Int.toNat 8)
abbrev jhY (d:Int×Unit):=(d.1/(2:Int)^Int.toNat 32/(2:Int)^Int.toNat 16)
abbrev jhZ (d:Int×Unit):=(d.1/(2:Int)^Int.toNat 32/(2:Int)^Int.toNat 8)
abbrev jh0 (d:Int×Unit):=(d.1/(2:Int)^Int.toNat 16/(2:Int)^Int.toNat 8)
abbrev jiz (d:Int×Unit):=(256<=d.1/(2:Int)^Int.toNat 32/(2:Int)^Int.toNat 16)
def Hk:Prop:=∀(d:Int×Unit),0<=d.1/\d.1<=12->(decide (4294967296<=d.1)=true->(0:Int)<=32/\(32:Int)<=64/\(decide (65536<=d.1/(2:Int)^Int.toNat 32)=true->(0:Int)<=16/\(16:Int)<=64/\kH ((32:Int)+16)/\(decide (jiz d)=true->(0:Int)<=8/\(8:Int)<=64/\kH ((32:Int)+16+8)/\0<=d.1/(2:Int)^Int.toNat 32/(2:Int)^Int.toNat 16/(2:Int)^Int.toNat 8/\d.1/(2:Int)^Int.toNat 32/(2:Int)^Int.toNat 16/(2:Int)^Int.toNat 8<=255/\0<=d.1/(2:Int)^Int.toNat 32/(2:Int)^Int.toNat 16/(2:Int)^Int.toNat 8/\d.1/(2:Int)^Int.toNat 32/(2:Int)^Int.toNat 16/(2:Int)^Int.toNat 8<(U.len8tab.size:Int)/\kH (gG U.len8tab (jhX d).toNat)/\kH ((32:Int)+16+8+gG U.len8tab (jhX d).toNat)/\((32:Int)+16+8+gG U.len8tab (jhX d).toNat,())=(pC d.1,()))/\(decide (jiz d)=false->0<=d.1/(2:Int)^Int.toNat 32/(2:Int)^Int.toNat 16/\d.1/(2:Int)^Int.toNat 32/(2:Int)^Int.toNat 16<=255/\0<=d.1/(2:Int)^Int.toNat 32/(2:Int)^Int.toNat 16/\d.1/(2:Int)^Int.toNat 32/(2:Int)^Int.toNat 16<(U.len8tab.size:Int)/\kH (gG U.len8tab (jhY d).toNat)/\kH ((32:Int)+16+gG U.len8tab (jhY d).toNat)/\((32:Int)+16+gG U.len8tab (jhY d).toNat,())=(pC d.1,())))/\(decide (65536<=d.1/(2:Int)^Int.toNat 32)=false->(decide (256<=d.1/(2:Int)^Int.toNat 32)=true->(0:Int)<=8/\(8:Int)<=64/\kH ((32:Int)+8)/\0<=d.1/(2:Int)^Int.toNat 32/(2:Int)^Int.toNat 8/\d.1/(2:Int)^Int.toNat 32/(2:Int)^Int.toNat 8<=255/\0<=d.1/(2:Int)^Int.toNat 32/(2:Int)^Int.toNat 8/\d.1/(2:Int)^Int.toNat 32/(2:Int)^Int.toNat 8<(U.len8tab.size:Int)/\kH (gG U.len8tab (jhZ d).toNat)/\kH ((32:Int)+8+gG U.len8tab (jhZ d).toNat)/\((32:Int)+8+gG U.len8tab (jhZ d).toNat,())=(pC d.1,()))/\(decide (256<=d.1/(2:Int)^Int.toNat 32)=false->0<=d.1/(2:Int)^Int.toNat 32/\d.1/(2:Int)^Int.toNat 32<=255/\0<=d.1/(2:Int)^Int.toNat 32/\d.1/(2:Int)^Int.toNat 32<(U.len8tab.size:Int)/\kH (gG U.len8tab (d.1/(2:Int)^Int.toNat 32).toNat)/\kH ((32:Int)+gG U.len8tab (d.1/(2:Int)^Int.toNat 32).toNat)/\((32:Int)+gG U.len8tab (d.1/(2:Int)^Int.toNat 32).toNat,())=(pC d.1,()))))/\(decide (4294967296<=d.1)=false->(decide (65536<=d.1)=true->(0:Int)<=16/\(16:Int)<=64/\kH ((0:Int)+16)/\(decide (256<=d.1/(2:Int)^Int.toNat 16)=true->(0:Int)<=8/\(8:Int)<=64/\kH ((0:Int)+16+8)/\0<=d.1/(2:Int)^Int.toNat 16/(2:Int)^Int.toNat 8/\d.1/(2:Int)^Int.toNat 16/(2:Int)^Int.toNat 8<=255/\0<=d.1/(2:Int)^Int.toNat 16/(2:Int)^Int.toNat 8/\d.1/(2:Int)^Int.toNat 16/(2:Int)^Int.toNat 8<(U.len8tab.size:Int)/\kH (gG U.len8tab (jh0 d).toNat)/\kH ((0:Int)+16+8+gG U.len8tab (jh0 d).toNat)/\((0:Int)+16+8+gG U.len8tab (jh0 d).toNat,())=(pC d.1,()))/\(decide (256<=d.1/(2:Int)^Int.toNat 16)=false->0<=d.1/(2:Int)^Int.toNat 16/\d.1/(2:Int)^Int.toNat 16<=255/\0<=d.1/(2:Int)^Int.toNat 16/\d.1/(2:Int)^Int.toNat 16<(U.len8tab.size:Int)/\kH (gG U.len8tab (d.1/(2:Int)^Int.toNat 16).toNat)/\kH ((0:Int)+16+gG U.len8tab (d.1/(2:Int)^Int.toNat 16).toNat)/\((0:Int)+16+gG U.len8tab (d.1/(2:Int)^Int.toNat 16).toNat,())=(pC d.1,())))/\(decide (65536<=d.1)=false->(decide (256<=d.1)=true->(0:Int)<=8/\(8:Int)<=64/\kH ((0:Int)+8)/\0<=d.1/(2:Int)^Int.toNat 8/\d.1/(2:Int)^Int.toNat 8<=255/\0<=d.1/(2:Int)^Int.toNat 8/\d.1/(2:Int)^Int.toNat 8<(U.len8tab.size:Int)/\kH (gG U.len8tab (d.1/(2:Int)^Int.toNat 8).toNat)/\kH ((0:Int)+8+gG U.len8tab (d.1/(2:Int)^Int.toNat 8).toNat)/\((0:Int)+8+gG U.len8tab (d.1/(2:Int)^Int.toNat 8).toNat,())=(pC d.1,()))/\(decide (256<=d.1)=false->0<=d.1/\d.1<=255/\0<=d.1/\d.1<(U.len8tab.size:Int)/\kH (gG U.len8tab d.1.toNat)/\kH ((0:Int)+gG U.len8tab d.1.toNat)/\((0:Int)+gG U.len8tab d.1.toNat,())=(pC d.1,()))))
def M4:we:=⟨[.val (.uint .u64)],[.int],false,fun d=>[0<=d.1/\d.1<=12],fun d=>(pC d.1,())⟩
def M5:Prop:=∀(d:Int×Unit),0<=d.1/\d.1<=12->(false=true->False)/\(qF->(0<=d.1/\d.1<=12)/\(pC d.1,())=(pC d.1,()))
def aC:qk:=⟨[.own rwI true,.val .int,.val .int,.fn [.int,.int] [.int]],[],fun d=>[d.2.1=0/\d.2.2.1=(d.1.length:Int)/\d.1.length<=12,iv d.2.2.2.1.pre d.1],fun d=>((),(iu (bj d.2.2.2.1.F) d.1,()))⟩
def aD:Ann:=fun r=>match r with
 |1=>some fun σ=>{X:=Nat,sl:=fun i=>[(8,.dat .int (i:Int))],ob:=fun i=>[(1000000,some (.row 3 .int false .unk (di (bj (gfn [.int,.int] [.int] σ 3)) (gr .int σ 1000000) i)))],inv:=fun i=>1<=i/\i<=max (gr .int σ 1000000).length 1,mu:=fun i=>(gr .int σ 1000000).length-i}
 |4=>some fun σ=>{X:=Nat×List Int,sl:=fun x=>[(9,.dat .int (x.1:Int))],ob:=fun x=>[(1000000,some (.row 3 .int false .unk x.2))],inv:=fun x=>(x.1:Int)<=gd .int σ 8/\x.2.Perm (gr .int σ 1000000)/\nD (bj (gfn [.int,.int] [.int] σ 3)) x.2 x.1=nD (bj (gfn [.int,.int] [.int] σ 3)) (gr .int σ 1000000) (gd .int σ 8).toNat,mu:=fun x=>x.1}
 |_=>none
abbrev jh1 (a:Nat×List Int):=(nth a.2 (a.1:Int).toNat,nth a.2 ((a.1:Int)-1).toNat,())
abbrev jeZ (d:List Int×Int×Int×FnD [Ty.int,Ty.int] [Ty.int]×Unit):=(bj d.2.2.2.1.2)
def aF:Prop:=∀(d:List Int×Int×Int×FnD [Ty.int,Ty.int] [Ty.int]×Unit),d.2.1=0/\d.2.2.1=(d.1.length:Int)/\d.1.length<=12->iv d.2.2.2.1.1 d.1->kH (d.2.1+1)/\(∃(x:Nat),((d.2.1+1=(x:Int)/\True)/\d.1=di (jeZ d) d.1 x/\True)/\1<=x/\x<=max d.1.length 1)/\∀(x:Nat),1<=x/\x<=max d.1.length 1->(decide ((x:Int)<d.2.2.1)=true->(∃(a:Nat×List Int),(((x:Int)=(a.1:Int)/\True)/\di (jeZ d) d.1 x=a.2/\True)/\(a.1:Int)<=(x:Int)/\a.2.Perm (di (jeZ d) d.1 x)/\nD (jeZ d) a.2 a.1=nD (jeZ d) (di (jeZ d) d.1 x) (x:Int).toNat)/\∀(a:Nat×List Int),(a.1:Int)<=(x:Int)/\a.2.Perm (di (jeZ d) d.1 x)/\nD (jeZ d) a.2 a.1=nD (jeZ d) (di (jeZ d) d.1 x) (x:Int).toNat->(decide (d.2.1<(a.1:Int))=true->0<=(a.1:Int))/\(decide (d.2.1<(a.1:Int))=true->(a.1:Int)<a.2.length)/\(decide (d.2.1<(a.1:Int))=true->kH ((a.1:Int)-1))/\(decide (d.2.1<(a.1:Int))=true->0<=(a.1:Int)-1)/\(decide (d.2.1<(a.1:Int))=true->(a.1:Int)-1<(a.2.length:Int))/\TC (decide (d.2.1<(a.1:Int))) (d.2.2.2.1.1 (jh1 a)) (((decide (d.2.1<(a.1:Int))&&decide ((d.2.2.2.1.2 (jh1 a)).1<0))=true->kH ((a.1:Int)-1)/\kH ((a.1:Int)-1)/\0<=(a.1:Int)-1/\(a.1:Int)-1<(a.2.length:Int)/\0<=(a.1:Int)/\(a.1:Int)<a.2.length/\0<=(a.1:Int)/\(a.1:Int)<a.2.length/\0<=(a.1:Int)-1/\(a.1:Int)-1<(↑(a.2.set (a.1:Int).toNat (nth a.2 ((a.1:Int)-1).toNat)).length:Int)/\kH ((a.1:Int)-1)/\∃(b:Nat×List Int),(((a.1:Int)-1=(b.1:Int)/\True)/\(a.2.set (a.1:Int).toNat (nth a.2 ((a.1:Int)-1).toNat)).set ((a.1:Int)-1).toNat (nth a.2 (a.1:Int).toNat)=b.2/\True)/\((b.1:Int)<=(x:Int)/\b.2.Perm (di (jeZ d) d.1 x)/\nD (jeZ d) b.2 b.1=nD (jeZ d) (di (jeZ d) d.1 x) (x:Int).toNat)/\b.1<a.1)/\((decide (d.2.1<(a.1:Int))&&decide ((d.2.2.2.1.2 (jh1 a)).1<0))=false->kH ((x:Int)+1)/\∃(c:Nat),(((x:Int)+1=(c:Int)/\True)/\a.2=di (jeZ d) d.1 c/\True)/\(1<=c/\c<=max d.1.length 1)/\d.1.length-c<d.1.length-x)))/\(decide ((x:Int)<d.2.2.1)=false->()=()/\(di (jeZ d) d.1 x,())=(iu (jeZ d) d.1,()))
def d6:qk:=⟨[.own rwI true,.val .int,.val .int,.val .int,.fn [.int,.int] [.int]],[],fun d=>[d.2.1=0/\d.2.2.1=(d.1.length:Int)/\d.1.length<=12,iv d.2.2.2.2.1.pre d.1],fun d=>((),(iu (bj d.2.2.2.2.1.F) d.1,()))⟩
def d7:Ann:=fun r=>match r with
 |1000002=>some fun _=>{X:=Unit,sl:=fun _=>[],ob:=fun _=>[],inv:=fun _=>True,mu:=fun _=>0}
 |_=>none
def d8:Prop:=∀(d:List Int×Int×Int×Int×FnD [Ty.int,Ty.int] [Ty.int]×Unit),d.2.1=0/\d.2.2.1=(d.1.length:Int)/\d.1.length<=12->iv d.q4.1.1 d.1->kH (d.2.2.1-d.2.1)/\(decide (d.2.2.1-d.2.1<=12)=true->(d.2.1=0/\d.2.2.1=(d.1.length:Int)/\d.1.length<=12)/\iv d.q4.1.1 d.1/\()=()/\(iu (bj d.q4.1.2) d.1,())=(iu (bj d.q4.1.2) d.1,()))/\(decide (d.2.2.1-d.2.1<=12)=false->(decide (d.2.2.2.1=0)=true->False)/\(decide (d.2.2.2.1=0)=false->((!true)=true->False)/\((!true)=false->False)))
def qr:qk:=⟨[.own rwI true,.fn [.int,.int] [.int]],[],fun d=>[d.1.length<=12,iv d.2.1.pre d.1,q9 (bj d.2.1.F) d.1],fun d=>((),(kr (bj d.2.1.F) d.1,()))⟩
def sg:Prop:=∀(d:List Int×FnD [Ty.int,Ty.int] [Ty.int]×Unit),d.1.length<=12->iv d.2.1.1 d.1->q9 (bj d.2.1.2) d.1->d.1.length<4611686018427387904->0<=(d.1.length:Int)/\(d.1.length:Int)<=18446744073709551615/\(0<=(d.1.length:Int)/\(d.1.length:Int)<=12)/\((0:Int)=0/\(d.1.length:Int)=d.1.length/\d.1.length<=12)/\iv d.2.1.1 d.1/\()=()/\(iu (bj d.2.1.2) d.1,())=(kr (bj d.2.1.2) d.1,())
def asI (l:List Int):List (Ty.st [.int]).Data:=l.map (fun x=>(x,()))
def LVi (d:PD [.ref (.slice .int)]) (xs:List (Ty.st [.int]).Data):Prop:=xs=asI d.1
def si:AE (YS [.int]):=fun r=>match r with
 |1=>some fun σ _=>{X:=Nat,sl:=fun i=>[(7,.dat .int (i:Int))],ob:=fun _=>[],ys:=fun i=>(asI ((gd (.slice .int) σ 5).take i),true),inv:=fun i=>i<=(gd (.slice .int) σ 5).length,mu:=fun i=>(gd (.slice .int) σ 5).length-i}
 |_=>none
abbrev je9:=(fun(a:Int)=>(a,()))
abbrev jgJ (d:List Int×Unit)(x:Nat):=(nth d.1 (x:Int).toNat,())
def cI:Prop:=∀(d:List Int×Unit) (l:Nat),d.1.length<4611686018427387904->(∃(x:Nat),((0=(x:Int)/\True)/\True)/\([],true)=(List.map je9 (List.take x d.1),true)/\x<=d.1.length)/\∀(x:Nat),x<=d.1.length->(decide ((x:Int)<d.1.length)=true->0<=(x:Int)/\(x:Int)<d.1.length/\l=l/\(∃(rest:List (Int×Unit)),List.map je9 (List.take x d.1)++[(jgJ d x)]++rest=List.map je9 d.1)/\(((!true)=true->true=true->List.map je9 (List.take x d.1)++[(jgJ d x)]=List.map je9 d.1)/\((!true)=false->kH ((x:Int)+1)/\∃(a:Nat),(((x:Int)+1=(a:Int)/\True)/\True)/\(List.map je9 (List.take x d.1)++[(jgJ d x)],true)=(List.map je9 (List.take a d.1),true)/\a<=d.1.length/\d.1.length-a<d.1.length-x))/\((!false)=true->false=true->List.map je9 (List.take x d.1)++[(jgJ d x)]=List.map je9 d.1)/\((!false)=false->kH ((x:Int)+1)/\∃(a:Nat),(((x:Int)+1=(a:Int)/\True)/\True)/\(List.map je9 (List.take x d.1)++[(jgJ d x)],false)=(List.map je9 (List.take a d.1),true)/\a<=d.1.length/\d.1.length-a<d.1.length-x))/\(decide ((x:Int)<d.1.length)=false->true=true->List.map je9 (List.take x d.1)=List.map je9 d.1)
theorem lR:(XV (ctx 16 [] []) (wz Tryz.f225) [.int] [.ref (.slice .int)] LVi (fun _=>[]) (fun _ _=>si) (fun d l=>hkY [.int] l [13] (fun q=>∃rest,LVi d (q++rest)) (fun _=>none)))=cI:=by kernel_rfl
def qw:oJ:=⟨[.val (.slice .int)],fun _=>[],225,[.slice .int],fun d=>(d.1,())⟩
def il:Prop:=∀(d:List Int×Unit),d=d
theorem ph:(UM (ctx 4 [] []) (fun _=>none) Tryz.f196 (wz Tryz.f196) qw)=il:=by kernel_rfl
def bP:I7 [.int]:={ps:=[.own (.box 31 [.row 3 .int .unk]) true],slots:=[2],dst:=20,pre:=fun _=>[],G:=fun d q=>((d.1.1++q.map (·.1),()),()),seq:=fun sv=>match sv with
 | .clo 225 [.ep t m]=>(match w5 t (.slice .int) m with
  |some a=>some (True,fun xs=>xs=asI a)
  |none=>none)
 |_=>none}
def yW:Nat->Option ((ts:List Ty)×I7 ts):=fun r=>match r with
 |3=>some ⟨[.int],bP⟩
 |_=>none
def qQ:oL:=⟨[none,some (225,1)],[.nil false,.ref (.slice .int)],[rwI],fun d=>[d.2.1.length<=12],fun d r=>r.1.1=d.2.1⟩
def vz:oL:=⟨[some (225,1)],[.ref (.slice .int)],[rwI],fun d=>[d.1.length<=12],fun d r=>r.1.1=d.1⟩
def qA:oL:=⟨[some (225,1),none],[.ref (.slice .int),.fn [.int,.int] [.int]],[rwI],fun d=>[d.1.length<=12,iv d.2.1.pre d.1,q9 (bj d.2.1.F) d.1],fun d r=>r.1.1=kr (bj d.2.1.F) d.1⟩
def pi (d:OD qQ.ps):List SV:=[.lit (.slice none 0 0),.clo 225 [.ep (.slice .int) d.2.1]]
abbrev jgK:=(fun(a:Int×Unit)=>a.1)
abbrev jh2:=(fun(a:List (Int×Unit))=>false)
abbrev jh3:=(fun(a:Int)=>(a,()))
def bQ:Prop:=∀(d:Unit×List Int×Unit),d.2.1.length<=12/\True->True/\True/\(([]++List.map jgK [],()),())=(([],()),())/\(∀(q:List (Int×Unit)) (x:Int×Unit) (rest:List (Int×Unit)),q++x::rest=List.map jh3 d.2.1->yc jh2 q->(([]++List.map jgK q).length+[x.1].length)*8<=140737488355328/\qF/\(([]++List.map jgK q++[x.1],()),())=(([]++List.map jgK (q++[x]),()),()))/\(∀(xs:List (Int×Unit)),xs=List.map jh3 d.2.1->yc jh2 xs->∃(_:Unit),[]++List.map jgK xs=d.2.1)/\∀(q:List (Int×Unit)) (x:Int×Unit) (rest:List (Int×Unit)),q++x::rest=List.map jh3 d.2.1->yc jh2 q->false=true->∃(_:Unit),[]=d.2.1
theorem iM:(UO (ctx 13 [] []) (fun _=>none) (hkC (ctx 13 [] []) (fun _=>none) yW [] []) Tryz.f233 (wz Tryz.f233) qQ pi)=bQ:=by kernel_rfl
def tN (d:OD vz.ps):List SV:=[.clo 225 [.ep (.slice .int) d.1]]
def d9:Prop:=∀(d:List Int×Unit),d.1.length<=12/\True->(d.1.length<=12/\True)/\∀(r:(List Int×Unit)×Unit),r.1.1=d.1->∃(_:Unit),r.1.1=d.1
theorem nj:(UO (ctx 5 [] []) (fun _=>none) (hkC (ctx 5 [] []) (fun _=>none) jaP [4] [(233,20,qQ)]) Tryz.f223 (wz Tryz.f223) vz tN)=d9:=by kernel_rfl
def nq (d:OD qA.ps):List SV:=[.clo 225 [.ep (.slice .int) d.1],.fn [.int,.int] [.int] d.2.1.pre d.2.1.F]
def aU:Prop:=∀(d:List Int×FnD [Ty.int,Ty.int] [Ty.int]×Unit),d.1.length<=12/\iv d.2.1.1 d.1/\q9 (bj d.2.1.2) d.1/\True->(d.1.length<=12/\True)/\∀(r:(List Int×Unit)×Unit),r.1.1=d.1->r.1.1.length<=12/\iv d.2.1.1 r.1.1/\q9 (bj d.2.1.2) r.1.1/\∃(_:Unit),kr (bj d.2.1.2) r.1.1=kr (bj d.2.1.2) d.1
theorem fR:(UO (ctx 12 [] [(224,qr)]) (fun _=>none) (hkC (ctx 12 [] [(224,qr)]) (fun _=>none) jaP [7] [(223,20,vz)]) Tryz.f195 (wz Tryz.f195) qA nq)=aU:=by kernel_rfl
theorem Ry {γ:Bool} {l:List Prop} {k:Prop} (h:γ=true->kK l) (hk:k):TC γ l k:=by
 induction l with
 |nil=>exact hk
 |cons p l b=>exact⟨fun a=>(h a).1,b (fun a=>(h a).2)⟩
theorem jez:∀n:Nat,n<13->gG U.len8tab n=pC (n:Int):=by decide+kernel
theorem ja5 (n:Int):0<=pC n/\pC n<=4:=by
 unfold pC
 split
 omega
 split
 omega
 split
 omega
 split<;>omega
theorem J1:Hk:=by
 unfold Hk jiz jh0 jhZ jhY jhX;rintro⟨n,⟨⟩⟩ ⟨a,b⟩;have a:0<=n:=a;have b:n<=12:=b;refine⟨fun h=>absurd (ja h) (by simp only;omega),fun _=>⟨fun h=>absurd (ja h) (by simp only;omega),fun _=>⟨fun h=>absurd (ja h) (by simp only;omega),fun _=> ?_⟩⟩⟩;have c:=jez n.toNat (by omega);rw[Int.toNat_of_nonneg a] at c;have d:=ja5 n;simp only;rw[c];refine⟨by omega,by omega,by omega,?_,by unfold kH;omega,by unfold kH;omega,by rw[Int.zero_add]⟩;have:U.len8tab.size=256:=(by decide+kernel);omega
theorem Hl:wn PR 131 Hj:=kY J1 Tryz.func131 kcN koN
theorem Rz:M5:=by
 rintro⟨n,⟨⟩⟩ h;exact⟨fun e=>(by cases e),fun _=>⟨h,rfl⟩⟩
theorem M6:wn PR 93 M4:=kY Rz Tryz.func93 (kcC Hl kcN) koN
theorem aN:aF:=by
 unfold aF jeZ jh1;rintro⟨l,a,b,⟨pre,c⟩,⟨⟩⟩ x y;obtain⟨z,n,E⟩:a=0/\b=(l.length:Int)/\l.length<=12:=x;have s:iv pre l:=y;subst z n;simp only;refine⟨by unfold kH;omega,⟨1,⟨⟨rfl,tZ⟩,rfl,tZ⟩,jk _,by omega⟩,fun i hi=>⟨fun h=> ?_,fun h=> ?_⟩⟩
 .have h:i<l.length:=(by have:=ja h;omega);have u:=IS.part_perm (lt:=bj c) (l:=l) i (by omega);refine⟨⟨(i,di (bj c) l i),⟨⟨rfl,tZ⟩,rfl,tZ⟩,zT _,List.Perm.refl _,rfl⟩,?_⟩;rintro⟨j,m⟩ ⟨v,o,p⟩;have v:(j:Int)<=i:=v;have o:m.Perm (di (bj c) l i):=o;have p:nD (bj c) m j=nD (bj c) (di (bj c) l i) i:=p;have C:m.length=l.length:=(o.trans u).length_eq;have g:∀{k:Nat},k<m.length->nth m k∈l:=fun hk=>(o.trans u).mem_iff.1 (L.kB hk)
  simp only[jw];refine⟨fun _=>by omega,fun f=>by have:=ja f;omega,fun f=>by have:=ja f;unfold kH;omega,fun f=>by have:=ja f;omega,fun f=>by have:=ja f;omega,Ry (fun f=> ?_) ⟨fun n=> ?_,fun n=> ?_⟩⟩
  .have f:=ja f;exact s _ (g (by omega)) _ (g (by omega))
  .simp only[ji,jm] at n;obtain⟨D,q⟩:=n;obtain⟨d,rfl⟩:∃d,j=d+1:=⟨j-1,by omega⟩;have r:((d+1:Nat):Int)-1=(d:Int):=(by omega);rw[r] at q⊢;simp only[jw] at q⊢;have t:=IS.swap_perm (l:=m) (j:=d+1) (k:=d) (by omega) (by omega);have e:kH (d:Int):=(by unfold kH;omega);refine⟨e,e,by omega,by omega,by omega,by omega,by omega,by omega,by omega,by simp;omega,e,⟨(d,Tb m (d+1) d),⟨⟨rfl,tZ⟩,rfl,tZ⟩,⟨by simp only;omega,t.trans o,?_⟩,by simp⟩⟩;rw[<-p];show _=(if bj c (nth m (d+1)) (nth m d)=true then nD (bj c) (Tb m (d+1) d) d else m);have w:bj c (nth m (d+1)) (nth m d)=true:=jH q;rw[jh w]
  .have B:m=di (bj c) l (i+1):=by
    rw[IS.part_succ,<-p];cases j with
    |zero=>rfl
    |succ d=>
     unfold nD;rw[jd];intro A;refine absurd n (by
      rw[ke];rintro(h|h)
      .exact absurd (jc h) (by simp)
      .refine jc h ?_;have r:((d+1:Nat):Int)-1=(d:Int):=(by omega);rw[r];exact ja A)
   exact⟨by unfold kH;omega,i+1,⟨⟨by simp,tZ⟩,B,tZ⟩,by omega,by omega⟩
 .have h:l.length<=i:=(by have:=jc h;omega);exact⟨tZ,by rw[IS.part_isort hi.1 hi.2 h]⟩
theorem aG:yR PR 238 aC:=rK aD aN Tryz.func238 kcN koN
theorem fS:d8:=by
 unfold d8 Prod.q4;rintro⟨l,a,b,lim,⟨pre,c⟩,⟨⟩⟩ e d;obtain⟨f,g,i⟩:a=0/\b=(l.length:Int)/\l.length<=12:=e;subst f g;refine⟨by unfold kH;simp only;omega,fun _=>⟨⟨rfl,rfl,by simp only;omega⟩,d,rfl,rfl⟩,fun h=>absurd (jc h) (by simp only;omega)⟩
theorem ee:yR PR 234 d6:=rK d7 fS Tryz.func234 kcN (koC aG koN)
theorem tO:sg:=by
 rintro⟨l,⟨pre,c⟩,⟨⟩⟩ a b d _;have a:l.length<=12:=a;exact⟨by simp only;omega,by simp only;omega,⟨by simp only;omega,by simp only;omega⟩,⟨rfl,rfl,a⟩,b,rfl,jG (·,()) (IS.isort_sort d)⟩
theorem sj:yR PR 224 qr:=uW tO Tryz.func224 (kcC M6 kcN) (koC ee koN)
theorem Yp {l:List Int} {i:Nat} (h:i<l.length):asI (l.take (i+1))=asI (l.take i)++[(nth l i,())]:=by
 unfold asI;rw[L.wd h,zz];rfl
theorem tP:cI:=by
 unfold cI jgJ je9;rintro⟨l,⟨⟩⟩ y b;have b:l.length<4611686018427387904:=b;refine⟨⟨0,⟨⟨rfl,tZ⟩,tZ⟩,rfl,ju _⟩,fun x c=>⟨fun h=> ?_,fun h _=> ?_⟩⟩;have h:(x:Int)<l.length:=ja h;have a:x<l.length:=(by omega);have e:=Yp a;unfold asI at e;simp only[jw];refine⟨by omega,h,tZ,⟨asI (l.drop (x+1)),?_⟩,⟨fun h=>(by cases h),fun _=>⟨iZ6,x+1,⟨⟨by simp,tZ⟩,tZ⟩,?_,by show x+1<=l.length;omega,by show l.length-(x+1)<l.length-x;omega⟩⟩,fun _ h=>(by cases h),fun h=>(by cases h)⟩;rw[<-e];unfold asI;rw[<-zz,kc];rw[e];have h:¬(x:Int)<l.length:=jc h;have c:x<=l.length:=c;rw[zv (by show l.length<=x;omega)]
theorem RA {H:Imm} {lb:Array Value} {d:PD [.ref (.slice .int)]} (e:pvs PR H [.ref (.slice .int)] lb.toList d):XT PR H [.int] (LVi d) (.func (.func 225) #[] lb):=
 ZG (C:=ctx 16 [] []) (nT trivial trivial) mixed Tryz.func225 (by kernel_rfl) (by kernel_rfl) (by kernel_rfl) (by kernel_rfl) (by decide) (lR.mpr tP) (fun d l B0 R f a b c=>jcC a c) e trivial
theorem CE:il:=by intro d;rfl
theorem xI:Jb PR 196 qw:=jcF (ph.mpr CE) Tryz.func196 (by kernel_rfl) (by kernel_rfl) (by kernel_rfl) (by kernel_rfl) trivial trivial
theorem ja6 (l:List Int):(asI l).map (fun(x:Int×Unit)=>x.1)=l:=by
 unfold asI;rw[List.map_map];exact List.map_id l
theorem sk:bQ:=by
 unfold bQ jh3 jh2 jgK;intro d ⟨a,_⟩;refine⟨tZ,tZ,rfl,fun q x rest h _=>⟨?_,rfl,?_⟩,fun xs h _=>⟨(),?_⟩,fun _ _ _ _ _ h=>(by cases h)⟩;have b:=jG List.length h;simp only[zp,jL,j7] at b;have a:d.2.1.length<=12:=a;simp only[jZ,zp,j7,zo];omega;simp;rw[h,jZ];exact ja6 d.2.1
theorem xJ:d9:=fun _ a=>⟨a,fun _ h=>⟨(),h⟩⟩
theorem pj:aU:=fun d ⟨a,b,c,_⟩=>⟨⟨a,tZ⟩,fun r h=>by rw[h];exact⟨a,b,c,(),rfl⟩⟩
theorem PM {P:Program} {ρ:Env} {H:Imm} (b:ρ.H=H) {g:Nat} {t:Ty} {d:t.Data} {lb:Array Value} {w:World} {bs:List Nat} (a:dK P H w [.ref t] lb.toList (d,()) bs):SV.den P ρ (.clo g [.ep t d]) (.func (.func g) #[] lb):=by
 subst b
 match e:lb.toList,a with
 |[],a=>exact a.elim
 |[x],⟨_,_,_,⟨c,_⟩,_⟩=>
  simp only[SV.den,SV.denL];exact⟨lb,rfl,x,[],e,c,rfl⟩
 |x::y::r,⟨_,_,_,_,h2⟩=>cases h2.1
theorem M7 {lb:Array Value} (h:lb.size=1):∃x,lb.toList=[x]:=by
 have a:lb.toList.length=1:=(by rw[za];exact h);exact List.length_eq_one_iff.1 a
theorem Vm {g n:Nat} {s:oL} (h:ROK PR g s):∀(f:Nat) (p:Nat×oL),kS [(g,n,s)] f=some p->ROK PR f p.2:=by
 intro f p a;simp only[kS] at a
 split at a
 rename_i b;have:=jb b;subst this;simp at a;subst a;exact h;cases a
theorem Yq (n:Nat):(ctx n [] []).ok PR:=nT trivial trivial
theorem nr:ROK PR 233 qQ:=by
 refine UP (body:=wz Tryz.f233) (C:=ctx 13 [] []) (hk:=hkC (ctx 13 [] []) (fun _=>none) yW [] []) (Yq 13) mixed Tryz.func233 (by kernel_rfl) (by kernel_rfl) (by kernel_rfl) (fun B=>FL (Yq 13) mixed ?_ ja1 B) rfl (fun H w vals fl d bs c b ρ f=> ?_) (fun d=>rfl) (iM.mpr sk)
 .intro k t rs sv A L v ρ hk a p g;unfold yW at hk
  split at hk
  case h_2=>cases hk
  simp only[jy] at hk;cases hk;simp only[bP] at a
  split at a
  case h_2=>cases a
  rename_i t m
  split at a
  case h_2=>cases a
  rename_i z o;simp only[jy,Prod.mk.injEq] at a;obtain⟨rfl,rfl⟩:=a;obtain⟨e,rfl⟩:=kC o;subst e;simp only[SV.den,SV.denL] at g;obtain⟨lb,rfl,x,r,n,j,l⟩:=g;exact RA (d:=(m,())) (by rw[n,l];exact⟨j,rfl⟩)
 .obtain⟨v,q,h,rfl,rfl,lb,s,i,rfl,rfl,_,rfl,rfl⟩:=c;obtain⟨u,y,_,⟨rfl,_⟩,b⟩:=b;rw[j8] at b;refine⟨_,_,rfl,rfl,_,_,rfl,PM f b,rfl⟩
theorem sm:ROK PR 223 vz:=by
 refine UP (body:=wz Tryz.f223) (C:=ctx 5 [] []) (hk:=hkC (ctx 5 [] []) (fun _=>none) jaP [4] [(233,20,qQ)]) (Yq 5) mixed Tryz.func223 (by kernel_rfl) (by kernel_rfl) (by kernel_rfl) (fun B=>FL (Yq 5) mixed Mv (Vm nr) B) rfl (fun H w vals fl d bs a c ρ b=> ?_) (fun d=>rfl) (nj.mpr xJ);obtain⟨lb,f,e,rfl,rfl,_,rfl,rfl⟩:=a;rw[j8] at c;exact⟨_,_,rfl,PM b c,rfl⟩
theorem FT:(ctx 12 [] [(224,qr)]).ok PR:=nT trivial ⟨sj,tZ⟩
theorem lS:ROK PR 195 qA:=by
 refine UP (body:=wz Tryz.f195) (C:=ctx 12 [] [(224,qr)]) (hk:=hkC (ctx 12 [] [(224,qr)]) (fun _=>none) jaP [7] [(223,20,vz)]) FT mixed Tryz.func195 (by kernel_rfl) (by kernel_rfl) (by kernel_rfl)
  (fun B=>FL FT mixed Mv (Vm sm) B) rfl (fun H w vals fl d bs a e ρ c=> ?_) (fun d=>rfl) (fR.mpr pj)
 obtain⟨lb,k,g,rfl,rfl,b,v,l,h,rfl,rfl,rfl,rfl⟩:=a;obtain⟨x,f⟩:=M7 b;rw[f] at e;obtain⟨m,n,_,⟨i,_⟩,c1,c2,_,⟨j,_⟩,_⟩:=e;subst c;refine⟨_,_,rfl,⟨lb,rfl,x,[],f,i,rfl⟩,_,_,rfl,j,rfl⟩
abbrev tRo:Ty:= .st [tDy,.slice .int,.slice (.slice .int),.slice .int]
abbrev RoD:Type:=DyD×List Int×List (List Int)×List Int×Unit
namespace U
def ro (o:Option RoD):RoD:=kV (Ty.dflt tRo) o
def rd (r:RoD):DyD:=r.1
def mg (r:RoD):List Int:=r.2.1
def aK (r:RoD):List (List Int):=r.2.2.1
def jd9 (r:RoD):List Int:=r.2.2.2.1
def gg (d:DyD) (b:Int):Prop:=0<=b/\b<((kE d).length:Int)
def DB (d:DyD) (l:List Int):Prop:=l.length<=12/\∀b∈l,gg d b
def AM (d:DyD):Prop:=kG (kD d)=true/\Ib d=true/\wR d=true
def Qh (r:RoD):Prop:=AM (rd r)/\(mg r).length=(kE (rd r)).length
def LA (d:DyD) (p:Int):Prop:=0<=p/\p<((kz (kD d)).length:Int)
def sQ (d:DyD) (a b:Int):Int:=yj [ck (wP (bk d a)) (wP (bk d b)),ck a b]
def kJ (d:DyD) (l:List Int):List Int:=kr (y8 d) l
def qS (d:DyD) (s:List Int) (n:Nat):Int:=Ic d (s.take n)
def If (d:DyD) (cO:List Int) (p:Int) (s:List Int) (i:Nat):Bool:= !(decide (iy (nth cO (nth s i).toNat/2^p.toNat) 1=0)||(s.drop (i+1)).any (fun c=>decide (aH d (nth s i) c<0)))
def jbY (d:DyD) (cO:List Int) (p:Int) (s:List Int):Bool:=(List.range s.length).all (If d cO p s)&&decide (Ic d s<=Zh d)
def OO (d:DyD) (cO:List Int) (p:Int) (l:List Int):Bool:=jbY d cO p (kJ d l)
def EV (r:RoD) (p:Int) (l:List Int):Bool:=OO (rd r) (mg r) p l
def gZ (on:List (List Int)) (b:Int) (n:Nat):Int:=(List.range n).foldl (fun s p=>if(nth on p).any (fun x=>decide (x=b))=true then bor s (1*2^p) else s) 0
def dl (on:List (List Int)) (b:Int):Int:=gZ on b on.length
def DC (d:DyD) (b t:Int):Bool:=(decide (aJ (kD d) (y7 (bk d b)) t=0)&&decide (jce (kD d) (y7 (bk d b)) t=0))&&decide (t≠0)
end U
def tQ:we:=⟨[.val (.ptr tRo),.val .int,.val .int],[.int],false,fun d=>[d.1.isSome=true,AM (U.rd (U.ro d.1)),gg (U.rd (U.ro d.1)) d.2.1,gg (U.rd (U.ro d.1)) d.2.2.1],fun d=>(aH (U.rd (U.ro d.1)) d.2.1 d.2.2.1,())⟩
abbrev jfl (d:Option RoD×Int×Int×Unit):=(kV ((((0:Int),[],[],()),[],[],(0:Int),(0:Int),[],()),[],[],[],()) d.1)
abbrev jfE (d:Option RoD×Int×Int×Unit):=(nth (jfl d).1.2.2.1 d.2.1.toNat)
abbrev jfO (d:Option RoD×Int×Int×Unit):=(nth (jfl d).1.2.2.1 d.2.2.1.toNat)
def tR:Prop:=∀(d:Option RoD×Int×Int×Unit),d.1.isSome=true->AM (U.rd (U.ro d.1))->gg (U.rd (U.ro d.1)) d.2.1->gg (U.rd (U.ro d.1)) d.2.2.1->d.1.isSome=true/\0<=d.2.1/\d.2.1<(↑(jfl d).1.2.2.1.length:Int)/\d.1.isSome=true/\0<=d.2.2.1/\d.2.2.1<(↑(jfl d).1.2.2.1.length:Int)/\kH ((jfO d).2.2.1-(jfE d).2.2.2.1)/\d.1.isSome=true/\kH ((jfO d).2.2.1-(jfE d).2.2.2.1-(jfl d).1.2.2.2.1)/\d.1.isSome=true/\(0:Int)<=(jfE d).2.1/\(jfE d).2.1<(↑(jfl d).1.2.1.length:Int)/\(0:Int)<=(jfO d).2.1/\(jfO d).2.1<(↑(nth (jfl d).1.2.1 (jfE d).2.1.toNat).length:Int)/\kH ((jfO d).2.2.1-(jfE d).2.2.2.1-(jfl d).1.2.2.2.1-(nth (nth (jfl d).1.2.1 (jfE d).2.1.toNat) (jfO d).2.1.toNat).2.1)/\((jfO d).2.2.1-(jfE d).2.2.2.1-(jfl d).1.2.2.2.1-(nth (nth (jfl d).1.2.1 (jfE d).2.1.toNat) (jfO d).2.1.toNat).2.1,())=(aH (U.rd (U.ro d.1)) d.2.1 d.2.2.1,())
def qc:we:=⟨[.val .int,.val .int,.ref (.ptr tRo)],[.int],false,fun d=>[d.2.2.1.isSome=true,gg (U.rd (U.ro d.2.2.1)) d.1,gg (U.rd (U.ro d.2.2.1)) d.2.1],fun d=>(sQ (U.rd (U.ro d.2.2.1)) d.1 d.2.1,())⟩
abbrev jhj (d:Int×Int×Option RoD×Unit):=(kV ((((0:Int),[],[],()),[],[],(0:Int),(0:Int),[],()),[],[],[],()) d.2.2.1)
def nu:Prop:=∀(d:Int×Int×Option RoD×Unit),d.2.2.1.isSome=true->gg (U.rd (U.ro d.2.2.1)) d.1->gg (U.rd (U.ro d.2.2.1)) d.2.1->d.2.2.1.isSome=true/\0<=d.1/\d.1<(↑(jhj d).1.2.2.1.length:Int)/\d.2.2.1.isSome=true/\0<=d.2.1/\d.2.1<(↑(jhj d).1.2.2.1.length:Int)/\(yj [ck (nth (jhj d).1.2.2.1 d.1.toNat).2.2.1 (nth (jhj d).1.2.2.1 d.2.1.toNat).2.2.1,ck d.1 d.2.1],())=(sQ (U.rd (U.ro d.2.2.1)) d.1 d.2.1,())
def cJ:we:=⟨[.val (.ptr tRo),.val (.slice .int)],[.slice .int],false,fun d=>[d.1.isSome=true,DB (U.rd (U.ro d.1)) d.2.1],fun d=>(kJ (U.rd (U.ro d.1)) d.2.1,())⟩
abbrev jiA (d:Option RoD×List Int×Unit):=(bj fun(a:Int×Int×Unit)=>(sQ (U.rd (U.ro d.1)) a.1 a.2.1,()))
def cK:Prop:=∀(d:Option RoD×List Int×Unit),d.1.isSome=true->DB (U.rd (U.ro d.1)) d.2.1->(d.2.1.length<=12/\iv (fun(a:Int×Int×Unit)=>[d.1.isSome=true,gg (U.rd (U.ro d.1)) a.1,gg (U.rd (U.ro d.1)) a.2.1]) d.2.1/\q9 (jiA d) d.2.1/\True)/\∀(r:(List Int×Unit)×Unit),r.1.1=kr (jiA d) d.2.1->r.1=(kJ (U.rd (U.ro d.1)) d.2.1,())
theorem lT:(jaL (Lx 9 [(197,qc)] [] [(196,qw)] []) (fun _=>none) (hkC (Lx 9 [(197,qc)] [] [(196,qw)] []) (fun _=>none) jaP [8] [(195,20,qA)]) Tryz.f154 (wz Tryz.f154) cJ)=cK:=by kernel_rfl
def tS:we:=⟨[.val .int,.ref (.ptr tRo),.ref .int],[.bool],false,fun d=>[d.2.1.isSome=true,AM (U.rd (U.ro d.2.1)),gg (U.rd (U.ro d.2.1)) d.1,gg (U.rd (U.ro d.2.1)) d.2.2.1],fun d=>(decide (aH (U.rd (U.ro d.2.1)) d.2.2.1 d.1<0),())⟩
def tT:Prop:=∀(d:Int×Option RoD×Int×Unit),d.2.1.isSome=true->AM (U.rd (U.ro d.2.1))->gg (U.rd (U.ro d.2.1)) d.1->gg (U.rd (U.ro d.2.1)) d.2.2.1->d.2.1.isSome=true/\AM (U.rd (U.ro d.2.1))/\gg (U.rd (U.ro d.2.1)) d.2.2.1/\gg (U.rd (U.ro d.2.1)) d.1/\(decide (aH (U.rd (U.ro d.2.1)) d.2.2.1 d.1<0),())=(decide (aH (U.rd (U.ro d.2.1)) d.2.2.1 d.1<0),())
def CF:we:=⟨[.val (.ptr tRo),.val .int,.val (.slice .int)],[.bool],false,fun d=>[d.1.isSome=true,Qh (U.ro d.1),LA (U.rd (U.ro d.1)) d.2.1,DB (U.rd (U.ro d.1)) d.2.2.1],fun d=>(EV (U.ro d.1) d.2.1 d.2.2.1,())⟩
def CG:Ann:=fun r=>match r with
 |4=>some fun σ=>{X:=Nat,sl:=fun i=>[(16,.dat .int (i:Int)),(7,.dat .int (qS (U.rd (U.ro (gd (.ptr tRo) σ 0))) (gd (.slice .int) σ 14) i))],ob:=fun _=>[],inv:=fun i=>i<=(gd (.slice .int) σ 14).length/\∀b:Nat,b<i->If (U.rd (U.ro (gd (.ptr tRo) σ 0))) (mg (U.ro (gd (.ptr tRo) σ 0))) (gd .int σ 1) (gd (.slice .int) σ 14) b=true,mu:=fun i=>(gd (.slice .int) σ 14).length-i}
 |_=>none
abbrev jf6 (d:Option RoD×Int×List Int×Unit):=(kV ((((0:Int),[],[],()),[],[],(0:Int),(0:Int),[],()),[],[],[],()) d.1)
abbrev je2 (d:Option RoD×Int×List Int×Unit):=(U.rd (U.ro d.1))
abbrev jeN (d:Option RoD×Int×List Int×Unit):=(kJ (je2 d) d.2.2.1)
abbrev jgm (d:Option RoD×Int×List Int×Unit)(x:Nat):=(iy (nth (jf6 d).2.1 (nth (jeN d) (x:Int).toNat).toNat/(2:Int)^d.2.1.toNat) (1:Int)=0)
abbrev jh4 (d:Option RoD×Int×List Int×Unit)(x:Nat):=((nth (jf6 d).1.2.2.1 (nth (jeN d) (x:Int).toNat).toNat).2.2.2.1-(nth (jf6 d).1.2.2.1 (nth (jeN d) (x:Int).toNat).toNat).2.2.1)
abbrev jfP (d:Option RoD×Int×List Int×Unit):=(↑(jeN d).length:Int)
abbrev jiB (d:Option RoD×Int×List Int×Unit)(x:Nat):=(decide (jgm d x)||(List.take ((jfP d).toNat-((x:Int)+1).toNat) (List.drop ((x:Int)+1).toNat (jeN d))).any (ko fun(a:Int×Unit)=>(decide (aH (je2 d) (nth (jeN d) (x:Int).toNat) a.1<0),())))
def CH:Prop:=∀(d:Option RoD×Int×List Int×Unit),d.1.isSome=true->Qh (U.ro d.1)->LA (je2 d) d.2.1->DB (je2 d) d.2.2.1->d.1.isSome=true/\DB (je2 d) d.2.2.1/\((jeN d).length<4611686018427387904->(∃(x:Nat),((0=(x:Int)/\0=qS (je2 d) (jeN d) x/\True)/\True)/\x<=(jeN d).length/\∀(b:Nat),b<x->If (je2 d) (mg (U.ro d.1)) d.2.1 (jeN d) b=true)/\∀(x:Nat),(x<=(jeN d).length/\∀(b:Nat),b<x->If (je2 d) (mg (U.ro d.1)) d.2.1 (jeN d) b=true)->(decide ((x:Int)<(jfP d))=true->0<=(x:Int)/\(x:Int)<(jfP d)/\d.1.isSome=true/\0<=nth (jeN d) (x:Int).toNat/\nth (jeN d) (x:Int).toNat<(↑(jf6 d).1.2.2.1.length:Int)/\d.1.isSome=true/\0<=nth (jeN d) (x:Int).toNat/\nth (jeN d) (x:Int).toNat<(↑(jf6 d).1.2.2.1.length:Int)/\kH (jh4 d x)/\kH (qS (je2 d) (jeN d) x+(jh4 d x))/\d.1.isSome=true/\0<=nth (jeN d) (x:Int).toNat/\nth (jeN d) (x:Int).toNat<(↑(jf6 d).2.1.length:Int)/\0<=d.2.1/\d.2.1<=64/\((!decide (jgm d x))=true->kH ((x:Int)+1))/\((!decide (jgm d x))=true->0<=(x:Int)+1)/\((!decide (jgm d x))=true->(x:Int)+1<=(jfP d))/\((!decide (jgm d x))=true->(jfP d)<=(jfP d))/\((!decide (jgm d x))=true->∀(g:Int),g∈List.take ((jfP d).toNat-((x:Int)+1).toNat) (List.drop ((x:Int)+1).toNat (jeN d))->kK [d.1.isSome=true,AM (je2 d),gg (je2 d) g,gg (je2 d) (nth (jeN d) (x:Int).toNat)])/\((jiB d x)=true->(false,())=(EV (U.ro d.1) d.2.1 d.2.2.1,()))/\((jiB d x)=false->kH ((x:Int)+1)/\∃(a:Nat),(((x:Int)+1=(a:Int)/\qS (je2 d) (jeN d) x+(jh4 d x)=qS (je2 d) (jeN d) a/\True)/\True)/\(a<=(jeN d).length/\∀(b:Nat),b<a->If (je2 d) (mg (U.ro d.1)) d.2.1 (jeN d) b=true)/\(jeN d).length-a<(jeN d).length-x))/\(decide ((x:Int)<(jfP d))=false->d.1.isSome=true/\(decide (qS (je2 d) (jeN d) x<=(jf6 d).1.q4.1),())=(EV (U.ro d.1) d.2.1 d.2.2.1,())))
def xK:we:=⟨[.val (.ptr tRo),.val .int],[.int],false,fun d=>[d.1.isSome=true,(aK (U.ro d.1)).length<=60],fun d=>(dl (aK (U.ro d.1)) d.2.1,())⟩
def xL:Ann:=fun r=>match r with
 |2=>some fun σ=>{X:=Nat,sl:=fun i=>[(12,.dat .int (i:Int)),(4,.dat .int (gZ (aK (U.ro (gd (.ptr tRo) σ 0))) (gd .int σ 1) i))],ob:=fun _=>[],inv:=fun i=>i<=(aK (U.ro (gd (.ptr tRo) σ 0))).length,mu:=fun i=>(aK (U.ro (gd (.ptr tRo) σ 0))).length-i}
 |_=>none
abbrev jgn (d:Option RoD×Int×Unit):=(kV ((((0:Int),[],[],()),[],[],(0:Int),(0:Int),[],()),[],[],[],()) d.1)
abbrev je3 (d:Option RoD×Int×Unit):=(aK (U.ro d.1))
def xM:Prop:=∀(d:Option RoD×Int×Unit),d.1.isSome=true->(je3 d).length<=60->d.1.isSome=true/\((jgn d).2.2.1.length<4611686018427387904->(∃(x:Nat),((0=(x:Int)/\0=gZ (je3 d) d.2.1 x/\True)/\True)/\x<=(je3 d).length)/\∀(x:Nat),x<=(je3 d).length->(decide ((x:Int)<(jgn d).2.2.1.length)=true->0<=(x:Int)/\(x:Int)<(jgn d).2.2.1.length/\(((nth (jgn d).2.2.1 (x:Int).toNat).any fun(b:Int)=>decide (b=d.2.1))=true->0<=(x:Int)/\(x:Int)<=64/\kH ((1:Int)*2^(x:Int).toNat)/\kH ((x:Int)+1)/\∃(a:Nat),(((x:Int)+1=(a:Int)/\bor (gZ (je3 d) d.2.1 x) ((1:Int)*2^(x:Int).toNat)=gZ (je3 d) d.2.1 a/\True)/\True)/\a<=(je3 d).length/\(je3 d).length-a<(je3 d).length-x)/\(((nth (jgn d).2.2.1 (x:Int).toNat).any fun(b:Int)=>decide (b=d.2.1))=false->kH ((x:Int)+1)/\∃(a:Nat),((gZ (je3 d) d.2.1 x=gZ (je3 d) d.2.1 a/\(x:Int)+1=(a:Int)/\True)/\True)/\a<=(je3 d).length/\(je3 d).length-a<(je3 d).length-x))/\(decide ((x:Int)<(jgn d).2.2.1.length)=false->(gZ (je3 d) d.2.1 x,())=(dl (je3 d) d.2.1,())))
def xN:we:=⟨[.val (.ptr tRo),.val .int,.val .int],[.bool],false,fun d=>[d.1.isSome=true,gg (U.rd (U.ro d.1)) d.2.1],fun d=>(DC (U.rd (U.ro d.1)) d.2.1 d.2.2.1,())⟩
abbrev jgL (d:Option RoD×Int×Int×Unit):=(kV ((((0:Int),[],[],()),[],[],(0:Int),(0:Int),[],()),[],[],[],()) d.1)
def xO:Prop:=∀(d:Option RoD×Int×Int×Unit),d.1.isSome=true->gg (U.rd (U.ro d.1)) d.2.1->d.1.isSome=true/\d.1.isSome=true/\0<=d.2.1/\d.2.1<(↑(jgL d).1.2.2.1.length:Int)/\(decide (aJ (jgL d).1.1 (nth (jgL d).1.2.2.1 d.2.1.toNat).1 d.2.2.1=0)&&decide (jce (jgL d).1.1 (nth (jgL d).1.2.2.1 d.2.1.toNat).1 d.2.2.1=0)&&decide (d.2.2.1≠0),())=(DC (U.rd (U.ro d.1)) d.2.1 d.2.2.1,())
theorem vb {d:DyD} (h:wR d=true):(kE d).length<=4/\(1<=(wt d).length/\(wt d).length<=5)/\(0<=Ao d/\Ao d<=300)/\(0<=Zh d/\Zh d<=1440)/\(wu d).length<=30/\
 (∀r∈wt d,bV (wt d).length r=true)/\(∀b∈kE d,l9 (wt d).length b=true)/\∀s∈wu d,ma (kE d).length (kz (kD d)).length s=true:=by
 unfold wR at h;simp only[ji,jm,jT] at h;obtain⟨⟨e,f,g,i,j,k,l,m⟩,n,a,c⟩:=h;exact⟨e,⟨f,g⟩,⟨i,j⟩,⟨k,l⟩,m,n,a,c⟩
theorem jcJ {d:DyD} {b:Int} (h:gg d b):U.bk d b∈kE d:=by
 unfold U.bk;exact L.kB (by unfold gg at h;omega)
theorem bg {d:DyD} (h:wR d=true) {b:Int} (a:gg d b):(0<=S9 (U.bk d b)/\S9 (U.bk d b)<((wt d).length:Int))/\0<=wP (U.bk d b)/\wP (U.bk d b)<cj (U.bk d b)/\cj (U.bk d b)<=1440:=by
 have:=(vb h).2.2.2.2.2.2.1 _ (jcJ a);unfold l9 at this;have:=ja this;omega
theorem sn {d:DyD} (h:wR d=true) {i:Nat} (hi:i<(wt d).length):(nth (wt d) i).length=(wt d).length/\∀j,j<(wt d).length->0<=U.lo (nth (nth (wt d) i) j)/\U.lo (nth (nth (wt d) i) j)<=U.hi (nth (nth (wt d) i) j)/\U.hi (nth (nth (wt d) i) j)<=300:=by
 have:=(vb h).2.2.2.2.2.1 _ (L.kB hi);unfold bV at this;rw[ji,jm,jT] at this;refine⟨this.1,fun j b=> ?_⟩;have a:=this.2 _ (L.kB (l:=nth (wt d) i) (i:=j) (by omega));unfold sK at a;exact ja a
theorem CI {d:DyD} (h:wR d=true) {a b:Int} (c:gg d a) (e:gg d b):0<=ON d a b/\ON d a b<=300:=by
 have f:=(bg h c).1;have g:=(bg h e).1;have:=(sn h (i:=(S9 (U.bk d a)).toNat) (by omega)).2 (S9 (U.bk d b)).toNat (by omega);unfold ON;omega
theorem xP:tR:=by
 unfold tR jfO jfE jfl;rintro⟨(_|r),a,b,⟨⟩⟩ h c d e;cases h;obtain⟨c1,c2,c⟩:AM (U.rd r):=c;have d:gg (U.rd r) a:=d;have e:gg (U.rd r) b:=e;have g:=bg c d;have j:=bg c e;have k:=CI c d e;have l:=(vb c).2.2.1;have m:=(sn c (i:=(S9 (U.bk (U.rd r) a)).toNat) (by omega)).1;have f:(0<=a/\a<((kE (U.rd r)).length:Int))/\0<=b/\b<((kE (U.rd r)).length:Int):=⟨d,e⟩;refine⟨rfl,f.1.1,f.1.2,rfl,f.2.1,f.2.2,?_,rfl,?_,rfl,g.1.1,g.1.2,j.1.1,?_,?_,rfl⟩;show kH (wP (U.bk (U.rd r) b)-cj (U.bk (U.rd r) a));exact iZ6;show kH (wP (U.bk (U.rd r) b)-cj (U.bk (U.rd r) a)-Ao (U.rd r));exact iZ6;show S9 (U.bk (U.rd r) b)<((nth (wt (U.rd r)) (S9 (U.bk (U.rd r) a)).toNat).length:Int);omega;show kH (wP (U.bk (U.rd r) b)-cj (U.bk (U.rd r) a)-Ao (U.rd r)-ON (U.rd r) a b);exact iZ6
theorem tU:wn PR 156 tQ:=kY xP Tryz.func156 kcN koN
theorem pk:nu:=by
 unfold nu jhj;rintro⟨a,b,(_|r),⟨⟩⟩ e c d;cases e;have c:gg (U.rd r) a:=c;have d:gg (U.rd r) b:=d;exact⟨rfl,c.1,c.2,rfl,d.1,d.2,rfl⟩
theorem nv:wn PR 197 qc:=kY pk Tryz.func197 (kcC yg (kcC ba kcN)) koN
theorem ja7 (d:DyD):fG (sQ d):=by
 have e:sQ d=Tm (fun a b=>ck (wP (U.bk d a)) (wP (U.bk d b))) ck:=by
  funext a b;unfold sQ;rw[wG,qP];rfl
 rw[e];exact o8 (nU lI (fun a=>wP (U.bk d a))) lI
theorem Vn {d:DyD} {a b:Int} (h:sQ d a b=0):a=b:=by
 unfold sQ at h;rw[wG] at h
 split at h
 contradiction;rw[qP] at h;exact ae.1 h
theorem Vo (d:DyD) (a b:Int):decide (sQ d a b<0)=y8 d a b:=by
 unfold sQ y8;rw[wG,qP];refine decide_eq_decide.2 ?_;by_cases c:wP (U.bk d a)<wP (U.bk d b);have e:ck (wP (U.bk d a)) (wP (U.bk d b))= -1:=(by unfold ck;rw[jh c]);rw[e];simp;omega;by_cases f:wP (U.bk d b)<wP (U.bk d a);have e:ck (wP (U.bk d a)) (wP (U.bk d b))=1:=(by unfold ck;rw[jd c,jh f]);rw[e];simp;omega;have e:ck (wP (U.bk d a)) (wP (U.bk d b))=0:=(by unfold ck;rw[jd c,jd f]);rw[e];unfold ck;simp only[ne_eq,not_true_eq_false,if_false]
 split<;>(try split)<;>omega
theorem jeA (d:DyD) (l:List Int):q9 (y8 d) l:=by
 have:=AG (t:= .int) (ja7 d) (l:=l) (fun _ _ _ _ h=>Vn h);have e:(ku .int fun(x:Int×Int×Unit)=>(sQ d x.1 x.2.1,()))=y8 d:=by
  funext a b;exact Vo d a b
 rw[e] at this;exact this
theorem ltK (d:DyD):(bj fun(x:Int×Int×Unit)=>(sQ d x.1 x.2.1,()))=y8 d:=by
 funext a b;exact Vo d a b
theorem tV:cK:=by
 unfold cK jiA;rintro⟨(_|r),l,⟨⟩⟩ c f;cases c;obtain⟨d,b⟩:DB (U.rd r) l:=f;refine⟨⟨d,fun x g y h=>⟨rfl,b x g,b y h,tZ⟩,?_,tZ⟩,fun q a=> ?_⟩;have e:=ltK (U.rd r);show q9 (bj fun(x:Int×Int×Unit)=>(sQ (U.rd r) x.1 x.2.1,())) l;rw[e];exact jeA _ l;have e:=ltK (U.rd r);have a:q.1.1=kr (bj fun(x:Int×Int×Unit)=>(sQ (U.rd r) x.1 x.2.1,())) l:=a;rw[e] at a;obtain⟨⟨q,⟨⟩⟩,⟨⟩⟩:=q;rw[show q=_ from a];rfl
theorem J2:(Lx 9 [(197,qc)] [] [(196,qw)] []).ok PR:=MA ⟨fun _=>nv,tZ⟩ trivial ⟨xI,tZ⟩ trivial
theorem so:wn PR 154 cJ:=
 jcA (body:=wz Tryz.f154) (C:=Lx 9 [(197,qc)] [] [(196,qw)] []) (hk:=hkC (Lx 9 [(197,qc)] [] [(196,qw)] []) (fun _=>none) jaP [8] [(195,20,qA)]) J2 mixed Tryz.func154 (by kernel_rfl) (by kernel_rfl) (by kernel_rfl) (by decide)
  (fun B=>FL J2 mixed Mv (Vm lS) B) (lT.mpr tV)
theorem xQ:tT:=by
 rintro⟨b,(_|r),a,⟨⟩⟩ c f e d;cases c;exact⟨rfl,f,d,e,rfl⟩
theorem tW:wn PR 155 tS:=kY xQ Tryz.func155 (kcC tU kcN) koN
theorem pm {d:DyD} {s:List Int} {i:Nat} (h:i<s.length):qS d s (i+1)=qS d s i+(cj (U.bk d (nth s i))-wP (U.bk d (nth s i))):=by
 unfold qS Ic;rw[L.wd h,zz,jU];rfl
theorem M8 {d:DyD} (a:wR d=true) {s:List Int} (c:∀b∈s,gg d b):∀i,i<=s.length->0<=qS d s i/\qS d s i<=1440*(i:Int)
 |0,_=>⟨zT _,zT _⟩
 |i+1,hi=>by
  have f:=M8 a c i (by omega)
  have e:=bg a (c _ (L.kB (l:=s) (i:=i) (by omega)))
  rw[pm (by omega)]
  omega
theorem M9 {d:DyD} {l:List Int} {b:Int}:b∈kJ d l↔b∈l:=(wF l).mem_iff
theorem Na (d:DyD) (l:List Int):(kJ d l).length=l.length:=(wF l).length_eq
theorem Ee:CH:=by
 unfold CH jiB jfP jh4 jgm jeN je2 jf6 Prod.q4;rintro⟨(_|r),p,l,⟨⟩⟩ D v q K;cases D;obtain⟨⟨c1,c2,u⟩,v⟩:Qh r:=v;have q:LA (U.rd r) p:=q;obtain⟨z,A⟩:DB (U.rd r) l:=K;have N:=(wo c1).2.2.1;refine⟨rfl,⟨z,A⟩,fun _=> ?_⟩;obtain⟨s,o⟩:∃s,s=kJ (U.rd r) l:=⟨_,rfl⟩;have O:s.length<=12:=(by rw[o,Na];exact z);have k:∀b∈s,gg (U.rd r) b:=fun b d=>A b (by rw[o] at d;exact M9.1 d)
 have t:U.ro (some r)=r:=rfl;simp only[t,<-o];refine⟨⟨0,⟨⟨rfl,rfl,tZ⟩,tZ⟩,ju _,fun b d=>by omega⟩,fun x w=>⟨fun h=> ?_,fun h=> ?_⟩⟩;have h:(x:Int)<s.length:=ja h;have a:x<s.length:=(by omega);have d:=k _ (L.kB a);have H:=bg u d;have M:=M8 u k x (by omega);have C:((x:Int)+1).toNat=x+1:=(by omega);have B:(s.drop (x+1)).take (s.length-(x+1))=s.drop (x+1):=zv (by rw[zD];omega);have I:wP (U.bk (U.rd r) (nth s x))=(nth (kE (U.rd r)) (nth s x).toNat).2.2.1:=rfl;simp only[jw,C,B];have n:(nth s x)<((mg r).length:Int):=(by rw[v];exact d.2);have m:If (U.rd r) (mg r) p s x= !(decide (iy (nth (mg r) (nth s x).toNat/2^p.toNat) 1=0)||(s.drop (x+1)).any (fun c=>decide (aH (U.rd r) (nth s x) c<0))):=rfl;have j:((s.drop (x+1)).any (ko fun(y:Int×Unit)=>(decide (aH (U.rd r) (nth s x) y.fst<0),())))=(s.drop (x+1)).any (fun c=>decide (aH (U.rd r) (nth s x) c<0)):=rfl;unfold LA at q;refine⟨by omega,h,rfl,d.1,d.2,rfl,d.1,d.2,?_,?_,rfl,d.1,n,q.1,by omega,fun _=>iZ6,fun _=>by omega,fun _=>by omega,fun _=>by omega,fun _ g J=>⟨rfl,⟨c1,c2,u⟩,k g (kg J),d,tZ⟩,fun f=> ?_,fun f=>⟨iZ6,x+1,⟨⟨by simp,(pm a).symm,tZ⟩,tZ⟩,⟨by omega,fun b G=> ?_⟩,by omega⟩⟩;show kH (cj (U.bk (U.rd r) (nth s x))-wP (U.bk (U.rd r) (nth s x)));exact iZ6;show kH (qS (U.rd r) s x+(cj (U.bk (U.rd r) (nth s x))-wP (U.bk (U.rd r) (nth s x))));exact iZ6;have f:(decide (iy (nth (mg r) (nth s x).toNat/2^p.toNat) 1=0)||((s.drop (x+1)).any (ko fun(y:Int×Unit)=>(decide (aH (U.rd r) (nth s x) y.fst<0),()))))=true:=f;have f:If (U.rd r) (mg r) p s x=false:=(by rw[m,<-j,f];rfl);have:EV r p l=false:=by
  unfold EV OO jbY;rw[<-o];have:(List.range s.length).all (If (U.rd r) (mg r) p s)=false:=by
   rw[zY];exact⟨x,by simpa using a,by rw[f];simp⟩
  rw[this];rfl
 rw[this];by_cases e:b=x;subst e;have f:(decide (iy (nth (mg r) (nth s b).toNat/2^p.toNat) 1=0)||((s.drop (b+1)).any (ko fun(y:Int×Unit)=>(decide (aH (U.rd r) (nth s b) y.fst<0),()))))=false:=f;rw[m,<-j,f];rfl;exact w.2 b (by omega);have h:¬(x:Int)<s.length:=jc h;have a:x=s.length:=(by have:=w.1;omega);refine⟨rfl,?_⟩;have E:(List.range s.length).all (If (U.rd r) (mg r) p s)=true:=by
  rw[jT];intro i hi;exact w.2 i (by rw[a];simpa using hi)
 have F:qS (U.rd r) s x=Ic (U.rd r) s:=by
  unfold qS;rw[a,zv (jk _)]
 rw[F];have:EV r p l=decide (Ic (U.rd r) s<=Zh (U.rd r)):=by
  unfold EV OO jbY;rw[<-o,E,Bool.true_and]
 rw[this];rfl
theorem CJ:wn PR 109 CF:=qG CG Ee Tryz.func109 (kcC so (kcC tW (kcC yd kcN))) koN
theorem CK (on:List (List Int)) (b:Int) (n:Nat):gZ on b (n+1)=if(nth on n).any (fun x=>decide (x=b))=true then bor (gZ on b n) (1*2^n) else gZ on b n:=by
 unfold gZ;rw[zi,jU];rfl
theorem lU (n:Nat):(1:Int)*2^n=2^n:=Int.one_mul _
theorem CL:xM:=by
 unfold xM je3 jgn;rintro⟨(_|r),b,⟨⟩⟩ g d;cases g;have d:(aK r).length<=60:=d;have c:U.ro (some r)=r:=rfl;refine⟨rfl,fun _=>⟨⟨0,⟨⟨rfl,rfl,tZ⟩,tZ⟩,ju _⟩,fun x f=>⟨fun h=> ?_,fun h=> ?_⟩⟩⟩;have h:(x:Int)<(aK r).length:=ja h;have e:=CK (aK r) b x;have i:BT.w4 ((2:Int)^x):=BT.fZ (by omega);unfold BT.w4 at i;simp only[jw,c];refine⟨by omega,h,fun a=>⟨by omega,by omega,by rw[lU];exact iZ6,iZ6,x+1,⟨⟨by simp,?_,tZ⟩,tZ⟩,by omega,by omega⟩,fun a=>⟨iZ6,x+1,⟨⟨?_,by simp,tZ⟩,tZ⟩,by omega,by omega⟩⟩;rw[e];have a:((nth (aK r) x).any fun y=>decide (y=b))=true:=a;rw[jh a];rw[e];have a:((nth (aK r) x).any fun y=>decide (y=b))=false:=a;rw[jd (by rw[a];simp)];have h:¬(x:Int)<(aK r).length:=jc h;have f:x<=(aK r).length:=f;rw[show x=(aK r).length by omega];rfl
theorem im:wn PR 48 xK:=qG xL CL Tryz.func48 (kcC cH kcN) koN
theorem CM:xO:=by
 unfold xO jgL;rintro⟨(_|r),b,t,⟨⟩⟩ c a;cases c;have a:gg (U.rd r) b:=a;exact⟨rfl,rfl,a.1,a.2,rfl⟩
theorem xR:wn PR 49 xN:=kY CM Tryz.func49 (kcC MT kcN) koN
theorem pn {l:List ShD} {s:ShD}:s∈wI l↔s∈l:=by
 have e:wI l=aO (fun a b=>decide (a=b)) (kr (ku tSh fun x=>(cP x.1 x.2.1,())) l):=by
  unfold wI;congr 1
 rw[e,L.comp_mem];exact(wF l).mem_iff
theorem J4 (l:List ShD):(wI l).Nodup:=by
 have e:wI l=aO (fun a b=>decide (a=b)) (kr (ku tSh fun x=>(cP x.1 x.2.1,())) l):=by
  unfold wI;congr 1
 rw[e];refine L.asc_nodup (lt:=ku tSh fun x=>(cP x.1 x.2.1,())) (fun x=> ?_) (L.comp_asc (Ym _) (bt (Ym l)));exact(Ym [x]).irrefl x (zR.2 rfl)
theorem ZL (l:List ShD):∀i,i<=l.length->∀k,wa 0 (kO .int k (v6 [] l i))=(((l.take i).countP (fun s=>decide (yy s=k)):Nat):Int)
 |0,_,k=>rfl
 |i+1,hi,k=>by
  have a:=ZL l i (by omega)
  rw[dZ (by omega),L.wd (by omega),zQ]
  unfold mS
  by_cases e:k=yy (nth l i)
  rw[e]
  rw[M.pF (kt:= .int) (yy (nth l i)) (wa 0 (kO .int (yy (nth l i)) (v6 [] l i))+1) (v6 [] l i)]
  show wa 0 (kO .int (yy (nth l i)) (v6 [] l i))+1=_
  rw[a]
  simp
  rw[M.dm (kt:= .int) (k:=yy (nth l i)) (k':=k) e (wa 0 (kO .int (yy (nth l i)) (v6 [] l i))+1) (v6 [] l i),a]
  have:decide (yy (nth l i)=k)=false:=zl fun h=>e h.symm
  simp[this]
theorem PN {l:List ShD} {i:Nat} (h:i<l.length):sP [] l i=(l.take i).any (fun s=>decide (yy s=yy (nth l i))):=by
 unfold sP Qg;rw[<-dZ h,ZL l (i+1) (by omega),L.wd h,zQ];rw[j0,jm,j9];have b:List.countP (fun s=>decide (yy s=yy (nth l i))) [nth l i]=1:=(by simp);rw[b];constructor;intro a;have:0<(l.take i).countP (fun s=>decide (yy s=yy (nth l i))):=(by omega);rw[List.countP_pos_iff] at this;exact this;intro a;have:0<(l.take i).countP (fun s=>decide (yy s=yy (nth l i))):=List.countP_pos_iff.2 a;omega
theorem ja8 (l:List ShD):To l=false↔(l.map yy).Nodup:=by
 have g:To l=false↔∀i,i<l.length->sP [] l i=false:=by
  unfold To;constructor;intro h i hi;cases k:sP [] l i with
  |false=>rfl
  |true=>
   exfalso;have b:(List.range l.length).findIdx? (sP [] l)≠none:=by
    intro f;rw[List.findIdx?_eq_none_iff] at f;have:=f i (jA.2 hi);rw[k] at this;cases this
   unfold mf yz at h;cases d:(List.range l.length).findIdx? (sP [] l) with
   |none=>exact b d
   |some j=>
    rw[d] at h;have h:=jc h;exact h (jW j)
  intro h;rw[(FR h).1];rfl
 rw[g,List.nodup_iff_pairwise_ne,zX,zI];constructor;intro h i j hi a m e;have:=h j a;rw[PN a,ze] at this;have c:=this (l[i]) (by rw[zc];exact⟨i,by omega,rfl⟩);rw[L.wW a] at c;simp[e] at c;intro h i hi;rw[PN hi,ze];intro s b;rw[zc] at b;obtain⟨j,a,rfl⟩:=b;have:=h j i (by omega) hi (by omega);rw[L.wW hi];simpa using this
theorem Vp (l:List ShD):To (wI l)=false↔∀a∈l,∀b∈l,yy a=yy b->a=b:=by
 rw[ja8];constructor;intro h a c b d e;exact L.nodup_inj h (pn.2 c) (pn.2 d) e;intro h;rw[List.nodup_iff_pairwise_ne,zX];exact(List.Pairwise.imp_of_mem (fun{a b} c d f e=>f (h a (pn.1 c) b (pn.1 d) e)) (J4 l))
theorem Vq (l:List ShD):aV l=false↔∀a∈l,∀b∈l,yy a=yy b->a=b:=by
 have k:aV l=false↔∀i,i<l.length->∀j,j<i->Dz (nth l i) (nth l j)=false:=by
  unfold aV gy AK;rw[ze];constructor;intro h i hi j d;have:=h i (jA.2 hi);rw[zS,ze] at this;have:=this (nth l j) (by rw[zc];exact⟨j,by omega,(L.wW (by omega)).symm⟩);simpa using this;intro h i hi;have hi:=jA.1 hi;rw[zS,ze];intro s g;rw[zc] at g;obtain⟨j,d,rfl⟩:=g;have:=h i hi j (by omega);rw[L.wW (l:=l) (i:=j) (by omega)] at this;simpa using this
 rw[k];have f:∀a b:ShD,Dz a b=false↔(yy a=yy b->a=b):=by
  intro a b;unfold Dz;rw[ke];simp only[jF,zb,jm];constructor;rintro(h|h) e;exact absurd e h;exact h;intro h;by_cases e:yy a=yy b;exact .inr (h e);exact .inl e
 constructor;intro h a m b n e;obtain⟨i,hi,rfl⟩:=L.mem_iff.1 m;obtain⟨j,d,rfl⟩:=L.mem_iff.1 n;rcases Nat.lt_trichotomy i j with c|rfl|c;exact((f _ _).1 (h j d i c) e.symm).symm;rfl;exact(f _ _).1 (h i hi j c) e;intro h i hi j d;exact(f _ _).2 (h _ (L.kB hi) _ (L.kB (by omega)))
theorem Vr (l:List ShD):To (wI l)=aV l:=by
 have:=(Vp l).trans (Vq l).symm;cases a:To (wI l) with
 |false=>exact(this.1 a).symm
 |true=>
  cases b:aV l with
  |false=>rw[this.2 b] at a;cases a
  |true=>rfl
theorem cL (d:DyD):wx d=ga d:=by
 unfold wx uv ga;rw[Vr]
 split
 rfl
 split
 rfl;rw[jd (by simp)]
abbrev tSt:Ty:= .st [.int,.int]
abbrev jdB:Sh:= .box 127 [.dat .int,.dat (.slice tPe),.dat (.slice tLw),.dat (.slice (.slice tSp)),.dat (.slice tBk),.dat .int,.dat .int,.dat (.slice tSh),.row 3 .int .yes,.row 31 (.slice .int) .no,.row 3 .int .unk]
namespace U
def noI:List Int:=[]
def vM (b:jdB.D):RoD:=(((b.1,b.2.1,b.2.2.1,()),b.2.2.2.1,b.2.2.2.2.1,b.2.2.2.2.2.1,b.2.2.2.2.2.2.1,b.2.2.2.2.2.2.2.1,()),b.2.2.2.2.2.2.2.2.1,b.2.2.2.2.2.2.2.2.2.1,b.2.2.2.2.2.2.2.2.2.2.1,())
def Ap (b:jdB.D) (x:List (List Int)×List Int):jdB.D:=(b.1,b.2.1,b.2.2.1,b.2.2.2.1,b.2.2.2.2.1,b.2.2.2.2.2.1,b.2.2.2.2.2.2.1,b.2.2.2.2.2.2.2.1,b.2.2.2.2.2.2.2.2.1,x.1,x.2,())
def eH (s:ShD):Int×Int×Unit:=(iV s,y9 s,())
def qp (l:List ShD) (n:Nat):List ((Int×Int×Unit)×ShD):=(l.take n).foldl (fun m s=>eQ tSt (eH s) s m) []
def vB (m:List ((Int×Int×Unit)×ShD)) (s:ShD):Bool:= !(!decide (wa (Ty.dflt tSh) (kO tSt (eH s) m)=s)|| !decide (W3 s=1))
def Lj (d:DyD) (cO:List Int) (m:List ((Int×Int×Unit)×ShD)) (x:List (List Int)×List Int) (s:ShD):List (List Int)×List Int:=
 if vB m s=true then(if OO d cO (y9 s) (nth x.1 (y9 s).toNat++[iV s])=true then(x.1.set (y9 s).toNat (nth x.1 (y9 s).toNat++[iV s]),x.2) else(x.1,x.2++[yy s])) else x
def jeE (l:List ShD):List ShD:=kr (ku tSh fun x=>(kN x.1 x.2.1,())) l
def qx (d:DyD):List ShD:=jeE (wI (wu d))
def vH (r:RoD) (l:List ShD) (n:Nat):List (List Int)×List Int:=(l.take n).foldl (Lj (rd r) (mg r) (qp l l.length)) (aK r,jd9 r)
def aP (r:RoD):List (List Int)×List Int:=((vH r (qx (rd r)) (qx (rd r)).length).1,Dy (vH r (qx (rd r)) (qx (rd r)).length).2)
def jbZ (l:List (List Int)):Prop:=∀x∈l,x=noI
def Zi (r:RoD):Prop:=(wx (rd r)=0/\(mg r).length=(kE (rd r)).length)/\((aK r).length=(kz (kD (rd r))).length/\jbZ (aK r))/\jd9 r=noI
def cQ (r:RoD) (l:List ShD) (n:Nat) (x:List (List Int)×List Int):Prop:=x.1.length=(kz (kD (rd r))).length/\x.2.length<=n/\∀p:Nat,(nth x.1 p).Nodup/\∀b∈nth x.1 p,gg (rd r) b/\∃i:Nat,i<n/\eH (nth l i)=(b,(p:Int),())/\wa (Ty.dflt tSh) (kO tSt (eH (nth l i)) (qp l l.length))=nth l i
end U
def bx (σ:St) (o:Nat):List SV:=match σ.obj o with|some (.box _ _ cs)=>cs|_=>[]
def gb (t:Ty) (σ:St) (o:Nat):t.Data:=match ye σ t (bx σ o) with|some (x,_)=>x|none=>t.dflt
abbrev Ef:qk:=US 3
def tX:qk:=⟨[.own jdB true],[],fun d=>[Zi (vM d.1)],fun d=>((),(Ap d.1 (aP (vM d.1)),()))⟩
def tY:Ann:=fun r=>match r with
 |4=>some fun σ=>{X:=Nat,sl:=fun i=>[(20,.dat .int (i:Int))],ob:=fun i=>[(9,some (.map false tSt tSh (qp (gr tSh σ 3) i)))],inv:=fun i=>i<=(gr tSh σ 3).length,mu:=fun i=>(gr tSh σ 3).length-i}
 |9=>some fun σ=>{X:=Nat,sl:=fun i=>[(34,.dat .int (i:Int))],ob:=fun i=>[(400009,some (.row 31 (.slice .int) false .no (vH (gb tRo σ 1000000) (gr tSh σ 3) i).1)),(400010,some (.row 3 .int false .unk (vH (gb tRo σ 1000000) (gr tSh σ 3) i).2))],inv:=fun i=>i<=(gr tSh σ 3).length/\cQ (gb tRo σ 1000000) (gr tSh σ 3) i (vH (gb tRo σ 1000000) (gr tSh σ 3) i),mu:=fun i=>(gr tSh σ 3).length-i}
 |_=>none
abbrev jeV (d:(Int×List PeD×List LwD×List (List (Int×Int×Unit))×List BkD×Int×Int×List ShD×List Int×List (List Int)×List Int×Unit)×Unit):=(((d.1.1,d.1.2.1,d.1.2.2.1,()),d.1.2.2.2.1,d.1.q4.1,d.1.q4.2.1,d.1.q4.2.2.1,d.1.q4.2.2.2.1,()),d.1.q4.q4)
abbrev jhk:=(Ty.int.pair (Ty.int.pair Ty.unit))
abbrev jiC:=(ku (Ty.int.pair (Ty.int.pair (Ty.int.pair jhk))) fun(a:ShD×ShD×Unit)=>(kN a.1 a.2.1,()))
abbrev jeG (d:(Int×List PeD×List LwD×List (List (Int×Int×Unit))×List BkD×Int×Int×List ShD×List Int×List (List Int)×List Int×Unit)×Unit):=(kr jiC (wI d.1.q4.2.2.2.1))
abbrev jeK (d:(Int×List PeD×List LwD×List (List (Int×Int×Unit))×List BkD×Int×Int×List ShD×List Int×List (List Int)×List Int×Unit)×Unit)(a:Nat):=(nth (jeG d) (a:Int).toNat)
abbrev jeO (d:(Int×List PeD×List LwD×List (List (Int×Int×Unit))×List BkD×Int×Int×List ShD×List Int×List (List Int)×List Int×Unit)×Unit)(a:Nat):=(vH (jeV d) (jeG d) a)
abbrev jgo (d:(Int×List PeD×List LwD×List (List (Int×Int×Unit))×List BkD×Int×Int×List ShD×List Int×List (List Int)×List Int×Unit)×Unit)(a:Nat):=(some (((d.1.1,d.1.2.1,d.1.2.2.1,()),d.1.2.2.2.1,d.1.q4.1,d.1.q4.2.1,d.1.q4.2.2.1,d.1.q4.2.2.2.1,()),d.1.q4.q4.1,(jeO d a).1,(jeO d a).2,()))
abbrev jiD:=((0:Int),(0:Int),(0:Int),(0:Int),(0:Int),())
def t6:Prop:=∀(d:(Int×List PeD×List LwD×List (List (Int×Int×Unit))×List BkD×Int×Int×List ShD×List Int×List (List Int)×List Int×Unit)×Unit),Zi (vM d.1)->d.1.q4.2.2.2.1.length<=100000/\(∀(c:ShD),c∈wI d.1.q4.2.2.2.1->∀(y:ShD),y∈wI d.1.q4.2.2.2.1->kK [])/\q9 jiC (wI d.1.q4.2.2.2.1)/\((jeG d).length<4611686018427387904->(∃(x:Nat),((0=(x:Int)/\True)/\[]=qp (jeG d) x/\True)/\x<=(jeG d).length)/\∀(x:Nat),x<=(jeG d).length->(decide ((x:Int)<(jeG d).length)=true->0<=(x:Int)/\(x:Int)<(jeG d).length/\kH ((x:Int)+1)/\∃(b:Nat),(((x:Int)+1=(b:Int)/\True)/\eQ jhk (nth (jeG d) (x:Int).toNat).2.2.2 (nth (jeG d) (x:Int).toNat) (qp (jeG d) x)=qp (jeG d) b/\True)/\b<=(jeG d).length/\(jeG d).length-b<(jeG d).length-x)/\(decide ((x:Int)<(jeG d).length)=false->(jeG d).length<4611686018427387904->(∃(x:Nat),((0=(x:Int)/\True)/\d.1.q4.q4.2.1=(vH (jeV d) (jeG d) x).1/\d.1.q4.q4.2.2.1=(vH (jeV d) (jeG d) x).2/\True)/\x<=(jeG d).length/\cQ (jeV d) (jeG d) x (vH (jeV d) (jeG d) x))/\∀(a:Nat),a<=(jeG d).length/\cQ (jeV d) (jeG d) a (jeO d a)->(decide ((a:Int)<(jeG d).length)=true->0<=(a:Int)/\(a:Int)<(jeG d).length/\((!decide (wa jiD (kO jhk (jeK d a).2.2.2 (qp (jeG d) x))=nth (jeG d) (a:Int).toNat)||decide ((jeK d a).2.2.1≠1))=true->kH ((a:Int)+1)/\∃(b:Nat),(((a:Int)+1=(b:Int)/\True)/\(jeO d a).2=(vH (jeV d) (jeG d) b).2/\(jeO d a).1=(vH (jeV d) (jeG d) b).1/\True)/\(b<=(jeG d).length/\cQ (jeV d) (jeG d) b (vH (jeV d) (jeG d) b))/\(jeG d).length-b<(jeG d).length-a)/\((!decide (wa jiD (kO jhk (jeK d a).2.2.2 (qp (jeG d) x))=nth (jeG d) (a:Int).toNat)||decide ((jeK d a).2.2.1≠1))=false->(0:Int)<=(jeK d a).q4.1/\(jeK d a).q4.1<(↑(jeO d a).1.length:Int)/\(0:Int)<=(jeK d a).q4.1/\(jeK d a).q4.1<(↑(jeO d a).1.length:Int)/\(0:Int)<=(jeK d a).q4.1/\(jeK d a).q4.1<(↑(jeO d a).1.length:Int)/\(↑(nth (jeO d a).1 (jeK d a).q4.1.toNat).length:Int)=(nth (jeO d a).1 (jeK d a).q4.1.toNat).length/\(↑(nth (jeO d a).1 (jeK d a).q4.1.toNat).length:Int)=(nth (jeO d a).1 (jeK d a).q4.1.toNat).length/\((nth (jeO d a).1 (jeK d a).q4.1.toNat).length+[(jeK d a).2.2.2.1].length)*8<=140737488355328/\(jgo d a).isSome=true/\Qh (U.ro (jgo d a))/\LA (U.rd (U.ro (jgo d a))) (jeK d a).q4.1/\DB (U.rd (U.ro (jgo d a))) (nth (jeO d a).1 (jeK d a).q4.1.toNat++[(jeK d a).2.2.2.1])/\(EV (U.ro (jgo d a)) (jeK d a).q4.1 (nth (jeO d a).1 (jeK d a).q4.1.toNat++[(jeK d a).2.2.2.1])=true->(0:Int)<=(jeK d a).q4.1/\(jeK d a).q4.1<(↑(jeO d a).1.length:Int)/\kH ((a:Int)+1)/\∃(b:Nat),(((a:Int)+1=(b:Int)/\True)/\(jeO d a).2=(vH (jeV d) (jeG d) b).2/\(jeO d a).1.set (jeK d a).q4.1.toNat (nth (jeO d a).1 (jeK d a).q4.1.toNat++[(jeK d a).2.2.2.1])=(vH (jeV d) (jeG d) b).1/\True)/\(b<=(jeG d).length/\cQ (jeV d) (jeG d) b (vH (jeV d) (jeG d) b))/\(jeG d).length-b<(jeG d).length-a)/\(EV (U.ro (jgo d a)) (jeK d a).q4.1 (nth (jeO d a).1 (jeK d a).q4.1.toNat++[(jeK d a).2.2.2.1])=false->((jeO d a).2.length+[(jeK d a).1].length)*8<=140737488355328/\kH ((a:Int)+1)/\∃(b:Nat),(((a:Int)+1=(b:Int)/\True)/\(jeO d a).1=(vH (jeV d) (jeG d) b).1/\(d.1.1=d.1.1/\d.1.2.1=d.1.2.1/\d.1.2.2.1=d.1.2.2.1/\d.1.2.2.2.1=d.1.2.2.2.1/\d.1.q4.1=d.1.q4.1/\d.1.q4.2.1=d.1.q4.2.1/\d.1.q4.2.2.1=d.1.q4.2.2.1/\d.1.q4.2.2.2.1=d.1.q4.2.2.2.1/\True/\True/\True/\True)/\(jeO d a).2++[(jeK d a).1]=(vH (jeV d) (jeG d) b).2/\True)/\(b<=(jeG d).length/\cQ (jeV d) (jeG d) b (vH (jeV d) (jeG d) b))/\(jeG d).length-b<(jeG d).length-a)))/\(decide ((a:Int)<(jeG d).length)=false->()=()/\((d.1.1,d.1.2.1,d.1.2.2.1,d.1.2.2.2.1,d.1.q4.1,d.1.q4.2.1,d.1.q4.2.2.1,d.1.q4.2.2.2.1,d.1.q4.q4.1,(jeO d a).1,Dy (jeO d a).2,()),())=(Ap d.1 (aP (vM d.1)),()))))
theorem yJ {d:DyD} (h:wx d=0):AM d/\∀a∈wu d,∀b∈wu d,yy a=yy b->a=b:=by
 unfold wx uv at h;cases c:kG (kD d) with
 |false=>rw[c] at h;simp at h
 |true=>
  cases e:Ib d with
  |false=>rw[c,e] at h;simp at h
  |true=>
   cases f:wR d with
   |false=>rw[c,e,f] at h;simp at h
   |true=>
    cases g:To (wI (wu d)) with
    |true=>rw[c,e,f,g] at h;simp at h
    |false=>exact⟨⟨c,e,f⟩,(Vp _).1 g⟩
theorem ja9:fG kN:=by
 have e:kN=Tm (fun a b=>ck (DL a) (DL b)) (fun a b=>ck (yy a) (yy b)):=by
  funext a b;unfold kN;rw[wG,qP];rfl
 rw[e];exact o8 (nU lI DL) (nU lI yy)
theorem Vs {a b:ShD} (h:kN a b=0):yy a=yy b:=by
 unfold kN at h;rw[wG,qP] at h
 split at h
 contradiction;exact ae.1 h
theorem jej {d:DyD} (h:wx d=0):q9 (ku tSh fun x=>(kN x.1 x.2.1,())) (wI (wu d)):=
 AG ja9 (fun a b e f c=>(yJ h).2 a (pn.1 e) b (pn.1 f) (Vs c))
theorem fT {d:DyD} {s:ShD}:s∈qx d↔s∈wu d:=((wF _).mem_iff).trans pn
theorem eg (d:DyD):(qx d).Nodup:=(wF _).nodup_iff.2 (J4 _)
theorem jba (d:DyD):(qx d).length<=(wu d).length:=by
 unfold qx jeE;rw[(wF _).length_eq];exact Vi _
theorem mJ {d:DyD} (h:wR d=true) {s:ShD} (a:s∈wu d):(0<=y9 s/\y9 s<((kz (kD d)).length:Int))/\gg d (iV s):=by
 have:=(vb h).2.2.2.2.2.2.2 _ a;unfold ma at this;have:=ja this;unfold gg;omega
theorem CN {l:List ShD} {i:Nat} (h:i<l.length):qp l (i+1)=eQ tSt (eH (nth l i)) (nth l i) (qp l i):=by
 unfold qp;rw[L.wd h,jU];rfl
theorem sq {r:RoD} {l:List ShD} {i:Nat} (h:i<l.length):vH r l (i+1)=Lj (U.rd r) (mg r) (qp l l.length) (vH r l i) (nth l i):=by
 unfold vH;rw[L.wd h,jU];rfl
theorem jdU {d:DyD} {l:List Int} (c:l.Nodup) (a:∀b∈l,gg d b):l.length<=(kE d).length:=by
 have:=L.nodup_len l ((List.range (kE d).length).map (fun(b:Nat)=>(b:Int))) c (fun x e=>by
  have:=a x e;unfold gg at this;exact jV.2 ⟨x.toNat,jA.2 (by omega),by omega⟩)
 simpa using this
section
variable {r:RoD} {l:List ShD} {i:Nat}
theorem Vt (t:wR (U.rd r)=true) (u:∀s∈l,s∈wu (U.rd r)) (nd:l.Nodup) (h:i<l.length) {x:List (List Int)×List Int} (w:cQ (U.rd r,mg r,aK r,jd9 r,()) l i x)
 (g:vB (qp l l.length) (nth l i)=true):(nth x.1 (y9 (nth l i)).toNat++[iV (nth l i)]).Nodup/\(∀b∈nth x.1 (y9 (nth l i)).toNat++[iV (nth l i)],gg (U.rd r) b)/\
  ∀b∈nth x.1 (y9 (nth l i)).toNat++[iV (nth l i)],∃j:Nat,j<i+1/\eH (nth l j)=(b,((y9 (nth l i)).toNat:Int),())/\wa (Ty.dflt tSh) (kO tSt (eH (nth l j)) (qp l l.length))=nth l j:=by
 obtain⟨z,A,p⟩:=w;have v:=mJ t (u _ (L.kB h));have d:wa (Ty.dflt tSh) (kO tSt (eH (nth l i)) (qp l l.length))=nth l i:=by
  unfold vB at g;simp only[jO,jN,zb,jm] at g;exact g.1
 have n:((y9 (nth l i)).toNat:Int)=y9 (nth l i):=(by omega);obtain⟨y,k⟩:=p (y9 (nth l i)).toNat;refine⟨?_,fun b c=> ?_,fun b c=> ?_⟩;refine zH.2 ⟨y,by simp,fun a q b c e=> ?_⟩;simp at c;subst c;subst e;obtain⟨_,j,m,f,e2⟩:=k _ q;rw[n] at f;have o:eH (nth l j)=eH (nth l i):=f;rw[o,d] at e2;have:=(List.nodup_iff_pairwise_ne.1 nd);rw[zI] at this;refine this j i (by omega) h m ?_;rw[<-L.wW,<-L.wW h];exact e2.symm;rcases js.1 c with c|c;exact(k b c).1;simp at c;subst c;exact v.2;rcases js.1 c with c|c;obtain⟨_,j,m,f,e2⟩:=k b c;exact⟨j,by omega,f,e2⟩;simp at c;subst c;exact⟨i,by omega,by rw[n];rfl,d⟩
theorem Vu {r:RoD} {x:List (List Int)×List Int} (a:cQ r l i x):cQ r l (i+1) x:=
 ⟨a.1,by have:=a.2.1;omega,fun p=>⟨(a.2.2 p).1,fun b c=>⟨((a.2.2 p).2 b c).1,by
  obtain⟨j,d,e⟩:=((a.2.2 p).2 b c).2
  exact⟨j,by omega,e⟩⟩⟩⟩
theorem ZM (g:wR (U.rd r)=true) (j:∀s∈l,s∈wu (U.rd r)) (nd:l.Nodup) (h:i<l.length) {x:List (List Int)×List Int} (a:cQ r l i x):
 cQ r l (i+1) (Lj (U.rd r) (mg r) (qp l l.length) x (nth l i)):=by
 unfold Lj;cases k:vB (qp l l.length) (nth l i) with
 |false=>rw[jd (by simp)];exact Vu a
 |true=>
  rw[jh rfl];have d:=Vt g j nd h a k;have m:=mJ g (j _ (L.kB h))
  split
  refine⟨by show(x.1.set _ _).length=_;rw[ki];exact a.1,by have:=a.2.1;show x.2.length<=_;omega,fun p=> ?_⟩;have c:(y9 (nth l i)).toNat<x.1.length:=(by rw[a.1];omega);show(nth (x.1.set (y9 (nth l i)).toNat (nth x.1 (y9 (nth l i)).toNat++[iV (nth l i)])) p).Nodup/\_;rw[L.ai c]
  split
  rename_i e;subst e;exact⟨d.1,fun b f=>⟨d.2.1 b f,d.2.2 b f⟩⟩;exact(Vu a).2.2 p;refine⟨a.1,?_,(Vu a).2.2⟩;have:=a.2.1;show(x.2++[yy (nth l i)]).length<=_;rw[jL];simp;omega
end
theorem PO {l:List (List Int)} (h:jbZ l) (p:Nat):nth l p=[]:=by
 by_cases a:p<l.length;exact h _ (L.kB a);unfold nth;rw[zf,List.getElem?_eq_none (by omega)];rfl
theorem Vv {r:RoD} {l:List ShD} (a:(aK r).length=(kz (kD (U.rd r))).length) (c:jbZ (aK r)) (d:jd9 r=U.noI):cQ r l 0 (vH r l 0):=by
 refine⟨a,?_,fun p=> ?_⟩;show(jd9 r).length<=0;rw[d];exact jk 0;have e:nth (vH r l 0).1 p=[]:=PO c p;rw[e];exact⟨List.nodup_nil,fun b f=>by cases f⟩
theorem jcK (m:List ((Int×Int×Unit)×ShD)) (s:ShD):vB m s= !(!decide (wa (Ty.dflt tSh) (kO tSt (eH s) m)=s)||decide (W3 s≠1)):=by
 unfold vB;by_cases h:W3 s=1<;>simp[h]
section
variable {r:RoD} {l:List ShD} {i:Nat}
theorem PP (h:i<l.length) (a:vB (qp l l.length) (nth l i)=false):vH r l (i+1)=vH r l i:=by
 rw[sq h];unfold Lj;rw[a,jd (by simp)]
theorem Vw (h:i<l.length) (a:vB (qp l l.length) (nth l i)=true) (b:OO (U.rd r) (mg r) (y9 (nth l i)) (nth (vH r l i).1 (y9 (nth l i)).toNat++[iV (nth l i)])=true):
 vH r l (i+1)=((vH r l i).1.set (y9 (nth l i)).toNat (nth (vH r l i).1 (y9 (nth l i)).toNat++[iV (nth l i)]),(vH r l i).2):=by
 rw[sq h];unfold Lj;rw[a,jh rfl,jh b]
theorem ZN (h:i<l.length) (a:vB (qp l l.length) (nth l i)=true) (b:OO (U.rd r) (mg r) (y9 (nth l i)) (nth (vH r l i).1 (y9 (nth l i)).toNat++[iV (nth l i)])=false):
 vH r l (i+1)=((vH r l i).1,(vH r l i).2++[yy (nth l i)]):=by
 rw[sq h];unfold Lj;rw[a,jh rfl,b,jd (by simp)]
end
theorem xS:t6:=by
 unfold t6 jiD jgo jeO jeK jeG jiC jhk jeV Prod.q4;rintro⟨b,⟨⟩⟩ J;obtain⟨⟨hk,N⟩,⟨O,B⟩,C⟩:Zi (vM b):=J;have F:=(yJ hk).1;have u:=F.2.2;have v:(wu (U.rd (vM b))).length<=30:=(vb u).2.2.2.2.1;have H:b.2.2.2.2.2.2.2.1.length<=30:=v;have M:(qx (U.rd (vM b))).length<=30:=jE (jba _) v;have g:∀s∈qx (U.rd (vM b)),s∈wu (U.rd (vM b)):=fun s D=>fT.1 D
 have w:=eg (U.rd (vM b));have K:(kE (U.rd (vM b))).length<=4:=(vb u).1;refine⟨by show b.2.2.2.2.2.2.2.1.length<=100000;omega,fun _ _ _ _=>tZ,jej hk,fun _=>⟨⟨0,⟨⟨rfl,tZ⟩,rfl,tZ⟩,ju _⟩,fun x I=>⟨fun h=> ?_,fun h _=>⟨⟨0,⟨⟨rfl,tZ⟩,rfl,rfl,tZ⟩,ju _,Vv (r:=vM b) O B C⟩,fun y n=>⟨fun t=> ?_,fun t=> ?_⟩⟩⟩⟩⟩;have h:(x:Int)<(qx (U.rd (vM b))).length:=ja h;have D:=CN (l:=qx (U.rd (vM b))) (i:=x) (by omega);exact⟨by omega,h,iZ6,x+1,⟨⟨by simp,tZ⟩,D.symm,tZ⟩,by show x+1<=(qx (U.rd (vM b))).length;omega,by show(qx (U.rd (vM b))).length-(x+1)<(qx (U.rd (vM b))).length-x;omega⟩;have I:x<=(qx (U.rd (vM b))).length:=I;have h:¬(x:Int)<(qx (U.rd (vM b))).length:=jc h;have E:x=(qx (U.rd (vM b))).length:=(by omega);have t:(y:Int)<(qx (U.rd (vM b))).length:=ja t;have a:y<(qx (U.rd (vM b))).length:=(by omega);obtain⟨_,e⟩:y<=(qx (U.rd (vM b))).length/\cQ (vM b) (qx (U.rd (vM b))) y (vH (vM b) (qx (U.rd (vM b))) y):=n;have c:=ZM (r:=vM b) u g w a e;rw[<-sq a] at c;have up:y+1<=(qx (U.rd (vM b))).length:=a;have A:(qx (U.rd (vM b))).length-(y+1)<(qx (U.rd (vM b))).length-y:=(by omega);have q:=mJ u (g _ (L.kB a));have o:=jcK (qp (qx (U.rd (vM b))) (qx (U.rd (vM b))).length) (nth (qx (U.rd (vM b))) y);subst E;refine⟨by omega,t,fun p=> ?_,fun p=> ?_⟩;have f:vB (qp (qx (U.rd (vM b))) (qx (U.rd (vM b))).length) (nth (qx (U.rd (vM b))) y)=false:=by
  rw[o];have p:(!decide (wa (Ty.dflt tSh) (kO tSt (eH (nth (qx (U.rd (vM b))) y)) (qp (qx (U.rd (vM b))) (qx (U.rd (vM b))).length))=nth (qx (U.rd (vM b))) y)||decide (W3 (nth (qx (U.rd (vM b))) y)≠1))=true:=p;rw[p];rfl
 have d:=PP (r:=vM b) a f;exact⟨iZ6,y+1,⟨⟨by simp,tZ⟩,jG (·.2) d.symm,jG (·.1) d.symm,tZ⟩,⟨up,c⟩,A⟩;have f:vB (qp (qx (U.rd (vM b))) (qx (U.rd (vM b))).length) (nth (qx (U.rd (vM b))) y)=true:=by
  rw[o];have p:(!decide (wa (Ty.dflt tSh) (kO tSt (eH (nth (qx (U.rd (vM b))) y)) (qp (qx (U.rd (vM b))) (qx (U.rd (vM b))).length))=nth (qx (U.rd (vM b))) y)||decide (W3 (nth (qx (U.rd (vM b))) y)≠1))=false:=p;rw[p];rfl
 have j:=Vt (r:=vM b) u g w a e f;have z:=jdU j.1 j.2.1;have G:(nth (vH (vM b) (qx (U.rd (vM b))) y).1 (y9 (nth (qx (U.rd (vM b))) y)).toNat).length<=4:=by
  rw[jL] at z;omega
 have k:0<=y9 (nth (qx (U.rd (vM b))) y):=q.1.1;have m:y9 (nth (qx (U.rd (vM b))) y)<((vH (vM b) (qx (U.rd (vM b))) y).1.length:Int):=(by rw[e.1];exact q.1.2);have P:=e.2.1;refine⟨k,m,k,m,k,m,rfl,rfl,?_,rfl,⟨F,N⟩,q.1,⟨jE z (by omega),j.2.1⟩,fun n=> ?_,fun n=> ?_⟩;show((nth (vH (vM b) (qx (U.rd (vM b))) y).1 (y9 (nth (qx (U.rd (vM b))) y)).toNat).length+1)*8<=140737488355328;omega;have d:=Vw (r:=vM b) a f n;exact⟨k,m,iZ6,y+1,⟨⟨by simp,tZ⟩,jG (·.2) d.symm,jG (·.1) d.symm,tZ⟩,⟨up,c⟩,A⟩;have d:=ZN (r:=vM b) a f n;refine⟨?_,iZ6,y+1,⟨⟨by simp,tZ⟩,jG (·.1) d.symm,⟨rfl,rfl,rfl,rfl,rfl,rfl,rfl,rfl,tZ,tZ,tZ,tZ⟩,jG (·.2) d.symm,tZ⟩,⟨up,c⟩,A⟩;show((vH (vM b) (qx (U.rd (vM b))) y).2.length+1)*8<=140737488355328;omega;have t:¬(y:Int)<(qx (U.rd (vM b))).length:=jc t;have n:=n.1;have n:y<=(qx (U.rd (vM b))).length:=n;have a:y=(qx (U.rd (vM b))).length:=(by omega);subst a;exact⟨rfl,rfl⟩
theorem Eg:yR PR 110 Ef:=X2 Tryz.sortI 3 (qO Tryz.func110 (c:=wz Tryz.f110) (by kernel_rfl) (by kernel_rfl))
theorem t7:yR PR 75 tX:=rK tY xS Tryz.func75 (kcC M2 (kcC CJ kcN)) (koC sf (koC aT (koC Eg koN)))
end Go.X
namespace Go.X
open U
open Go.Proofs
namespace U
def iw (l:List Int) (n:Nat):Int:=(l.take n).foldl (fun s p=>bor s (1*2^p.toNat)) 0
def Qi (l:List Int):Int:=iw l l.length
def vC (d:DyD) (n:Nat):List Int:=((kE d).take n).map (fun b=>Qi (cO (kD d) (y7 b)))
def jcf (d:DyD):List (List Int):=List.replicate (kz (kD d)).length noI
def LB (d:DyD):RoD:=(d,vC d (kE d).length,jcf d,noI,())
def Tp (d:DyD):RoD:=(d,vC d (kE d).length,(aP (LB d)).1,(aP (LB d)).2,())
def sV (d:DyD):Option RoD:=if wx d=0 then some (Tp d) else none
end U
def J5:qk:=⟨[.val tDy,.nil true],[.cl (.dat (.ptr tRo)),.cl (.dat .int)],fun d=>[(wu d.1).length<=100000],fun d=>((sV d.1,wx d.1,()),())⟩
def Vx:Ann:=fun r=>match r with
 |8=>some fun σ=>{X:=Nat,sl:=fun i=>[(39,.dat .int (i:Int))],ob:=fun i=>[(27,some (.box 127 false (((bx σ 27).set 8 (.own (eV 27 8) .int)).set 10 (.own (eV 27 10) .int)))),(eV 27 10,some (.row 3 .int false .yes U.noI)),(eV 27 8,some (.row 3 .int false .yes (vC (gb tDy σ 2) i)))],inv:=fun i=>i<=(kE (gb tDy σ 2)).length,mu:=fun i=>(kE (gb tDy σ 2)).length-i}
 |13=>some fun σ=>{X:=Nat,sl:=fun i=>[(53,.dat .int (i:Int)),(12,.dat .int (iw (gd (.slice .int) σ 51) i))],ob:=fun _=>[],inv:=fun i=>i<=(gd (.slice .int) σ 51).length,mu:=fun i=>(gd (.slice .int) σ 51).length-i}
 |3000005=>some fun _=>{X:=Unit,sl:=fun _=>[],ob:=fun _=>[],inv:=fun _=>True,mu:=fun _=>0}
 |_=>none
abbrev jeW (d:DyD×Unit×Unit)(x:Nat):=(cO d.1.1 (nth d.1.2.2.1 (x:Int).toNat).1)
abbrev jiE (d:DyD×Unit×Unit):=(d.1.1.1=d.1.1.1/\d.1.1.2.1=d.1.1.2.1/\d.1.1.2.2.1=d.1.1.2.2.1/\d.1.2.1=d.1.2.1/\d.1.2.2.1=d.1.2.2.1/\d.1.2.2.2.1=d.1.2.2.2.1/\d.1.q4.1=d.1.q4.1/\d.1.q4.2.1=d.1.q4.2.1/\True/\True/\True/\True)
abbrev jgp (d:DyD×Unit×Unit):=(d.1.1.2.1.length:Int)
abbrev jiF (d:DyD×Unit×Unit)(x:Nat):=(vM (d.1.1.1,d.1.1.2.1,d.1.1.2.2.1,d.1.2.1,d.1.2.2.1,d.1.2.2.2.1,d.1.q4.1,d.1.q4.2.1,vC d.1 x,List.replicate (jgp d).toNat [],U.noI,()))
abbrev jfm (d:DyD×Unit×Unit)(x:Nat):=(Ap (d.1.1.1,d.1.1.2.1,d.1.1.2.2.1,d.1.2.1,d.1.2.2.1,d.1.2.2.2.1,d.1.q4.1,d.1.q4.2.1,vC d.1 x,List.replicate (jgp d).toNat [],U.noI,()) (aP (jiF d x)))
def J6:Prop:=∀(d:DyD×Unit×Unit),(wu d.1).length<=100000->(wu d.1).length<=100000/\(decide (wx d.1≠0)=true->(none,wx d.1,())=(sV d.1,wx d.1,())/\()=())/\(decide (wx d.1≠0)=false->0<=(jgp d)/\(jgp d)=(jgp d)/\(jgp d).toNat*24<=140737488355328/\((!true)=true->(!true)=true/\(!true)=true/\False)/\((!true)=false->(!true)=false/\(!true)=false/\(!true)=false/\(!true)=false/\(false=true->(none,(1:Int),())=(sV d.1,wx d.1,())/\()=())/\(qF->d.1.2.2.1.length<4611686018427387904->(∃(x:Nat),((0=(x:Int)/\True)/\(jiE d)/\U.noI=[]/\vC d.1 x=[]/\True)/\x<=(kE d.1).length)/\∀(x:Nat),x<=(kE d.1).length->(decide ((x:Int)<d.1.2.2.1.length)=true->0<=(x:Int)/\(x:Int)<d.1.2.2.1.length/\((jeW d x).length<4611686018427387904->(∃(a:Nat),((0=(a:Int)/\0=iw (jeW d x) a/\True)/\True)/\a<=(jeW d x).length)/\∀(a:Nat),a<=(jeW d x).length->(decide ((a:Int)<(jeW d x).length)=true->0<=(a:Int)/\(a:Int)<(jeW d x).length/\0<=nth (jeW d x) (a:Int).toNat/\nth (jeW d x) (a:Int).toNat<=64/\kH ((1:Int)*2^(nth (jeW d x) (a:Int).toNat).toNat)/\kH ((a:Int)+1)/\∃(b:Nat),(((a:Int)+1=(b:Int)/\bor (iw (jeW d x) a) ((1:Int)*2^(nth (jeW d x) (a:Int).toNat).toNat)=iw (jeW d x) b/\True)/\True)/\b<=(jeW d x).length/\(jeW d x).length-b<(jeW d x).length-a)/\(decide ((a:Int)<(jeW d x).length)=false->((vC d.1 x).length+[iw (jeW d x) a].length)*8<=140737488355328/\kH ((x:Int)+1)/\∃(b:Nat),(((x:Int)+1=(b:Int)/\True)/\U.noI=U.noI/\(jiE d)/\vC d.1 x++[iw (jeW d x) a]=vC d.1 b/\True)/\b<=(kE d.1).length/\(kE d.1).length-b<(kE d.1).length-x)))/\(decide ((x:Int)<d.1.2.2.1.length)=false->Zi (jiF d x)/\(some ((((jfm d x).1,(jfm d x).2.1,(jfm d x).2.2.1,()),(jfm d x).2.2.2.1,(jfm d x).q4.1,(jfm d x).q4.2.1,(jfm d x).q4.2.2.1,(jfm d x).q4.2.2.2.1,()),(jfm d x).q4.q4.1,(jfm d x).q4.q4.2.1,(jfm d x).q4.q4.2.2.1,()),(0:Int),())=(sV d.1,wx d.1,())/\()=()))))
theorem t8 {l:List Int} {i:Nat} (h:i<l.length):iw l (i+1)=bor (iw l i) (1*2^(nth l i).toNat):=by
 unfold iw;rw[L.wd h,jU];rfl
theorem Vy {d:DyD} {i:Nat} (h:i<(kE d).length):vC d (i+1)=vC d i++[Qi (cO (kD d) (y7 (nth (kE d) i)))]:=by
 unfold vC;rw[L.wd h,zz];rfl
theorem Yr (d:DyD) (i:Nat):(vC d i).length<=i:=by
 unfold vC;rw[zp,jY];omega
theorem Vz {c:CrD} (h:kG c=true) {j:JbD} {p:Int} (a:p∈cO c j):0<=p/\p<8:=by
 have d:=(wo h).2.2.1;unfold cO at a
 split at a
 unfold bZ at a;obtain⟨n,b,rfl⟩:=jV.1 a;have:=jA.1 (jR.1 b).1;omega;cases a
theorem jbb {c:CrD} (h:kG c=true) (j:JbD):(cO c j).length<=8:=by
 have a:=(wo h).2.2.1;unfold cO
 split
 unfold bZ;rw[zp];exact jE (zG _ _) (by simpa using a);exact ju _
theorem VA {d:DyD} (h:wx d=0):Zi (LB d):=by
 refine⟨⟨h,?_⟩,⟨?_,fun x a=> ?_⟩,rfl⟩;show(vC d (kE d).length).length=(kE d).length;unfold vC;simp;show(jcf d).length=(kz (kD d)).length;unfold jcf;simp;have a:x∈jcf d:=a;unfold jcf at a;exact(List.mem_replicate.1 a).2
theorem Nb:J6:=by
 unfold J6 jfm jiF jgp jiE jeW Prod.q4;rintro⟨d,⟨⟩,⟨⟩⟩ j;refine⟨j,fun h=>⟨?_,rfl⟩,fun h=>⟨jW _,rfl,?_,fun c=>(by cases c),fun _=>⟨rfl,rfl,rfl,rfl,fun c=>(by cases c),fun _=> ?_⟩⟩⟩;have h:wx d≠0:=ja h;show(none,wx d,())=(sV d,wx d,());unfold sV;rw[jd h];have hk:wx d=0:=jP.1 (jc h);have e:=(wo (yJ hk).1.1).2.2.1;have e:d.1.2.1.length<=8:=e;show((d.1.2.1.length:Int)).toNat*24<=140737488355328;omega;have hk:wx d=0:=jP.1 (jc h);clear j h;have f:=(yJ hk).1;have r:=f.2.2;have g:(kE d).length<=4:=(vb r).1;have n:d.2.2.1.length<=4:=g;refine fun _=>⟨⟨0,⟨⟨rfl,tZ⟩,⟨rfl,rfl,rfl,rfl,rfl,rfl,rfl,rfl,tZ,tZ,tZ,tZ⟩,rfl,rfl,tZ⟩,ju _⟩,fun x o=>⟨fun h=>⟨by omega,ja h,fun _=>⟨⟨0,⟨⟨rfl,rfl,tZ⟩,tZ⟩,ju _⟩,fun y p=>⟨fun a=> ?_,fun a=> ?_⟩⟩⟩,fun h=> ?_⟩⟩
 have a:(y:Int)<(cO (kD d) (nth d.2.2.1 (x:Int).toNat).1).length:=ja a;have b:y<(cO (kD d) (nth d.2.2.1 (x:Int).toNat).1).length:=(by omega);have s:=Vz f.1 (L.kB b);have k:=t8 b;have e:=jbb f.1 (nth d.2.2.1 (x:Int).toNat).1;have q:BT.w4 ((2:Int)^(nth (cO (kD d) (nth d.2.2.1 (x:Int).toNat).1) y).toNat):=BT.fZ (by omega);unfold BT.w4 at q;exact⟨by omega,a,s.1,by show nth (cO (kD d) (nth d.2.2.1 (x:Int).toNat).1) y<=64;omega,by show kH (1*2^(nth (cO (kD d) (nth d.2.2.1 (x:Int).toNat).1) y).toNat);rw[lU];exact iZ6,iZ6,y+1,⟨⟨by simp,k.symm,tZ⟩,tZ⟩,by show y+1<=(cO (kD d) (nth d.2.2.1 (x:Int).toNat).1).length;omega,by show(cO (kD d) (nth d.2.2.1 (x:Int).toNat).1).length-(y+1)<(cO (kD d) (nth d.2.2.1 (x:Int).toNat).1).length-y;omega⟩;have h:(x:Int)<(kE d).length:=ja h;have k:=Vy (d:=d) (i:=x) (by omega);have j:=Yr d x;have p:y<=(cO (kD d) (nth d.2.2.1 (x:Int).toNat).1).length:=p;have a:¬(y:Int)<(cO (kD d) (nth d.2.2.1 (x:Int).toNat).1).length:=jc a;have m:y=(cO (kD d) (nth d.2.2.1 (x:Int).toNat).1).length:=(by omega);subst m;refine⟨?_,iZ6,x+1,⟨⟨by simp,tZ⟩,rfl,⟨rfl,rfl,rfl,rfl,rfl,rfl,rfl,rfl,tZ,tZ,tZ,tZ⟩,k.symm,tZ⟩,by show x+1<=(kE d).length;omega,by show(kE d).length-(x+1)<(kE d).length-x;omega⟩;show((vC d x).length+1)*8<=140737488355328;omega;have h:¬(x:Int)<(kE d).length:=jc h;have o:x<=(kE d).length:=o;have l:x=(kE d).length:=(by omega);subst l;refine⟨VA hk,?_⟩;refine⟨?_,rfl⟩;show(some (Tp d),(0:Int),())=(sV d,wx d,());unfold sV;rw[jh hk,hk]
theorem uX:yR PR 47 J5:=rK Vx Nb Tryz.func47 (kcC FS (kcC Yg kcN)) (koC t7 koN)
namespace U
def gB (d:DyD) (n:Nat):List Int:=(List.range n).map (fun(b:Nat)=>dl (aK (Tp d)) (b:Int))
def eI (d:DyD):List Int:=if wx d=0 then gB d (kE d).length else[]
def Qj (d:DyD) (b:Nat):Bool:=DC d (b:Int) (dl (aK (Tp d)) (b:Int))
def gC (d:DyD) (n:Nat):List Int:=((List.range n).filter (Qj d)).map (fun(b:Nat)=>(b:Int))
def km (d:DyD):List Int:=if wx d=0 then gC d (kE d).length else[]
def Lk (d:DyD) (p:Int):Bool:=kl p 0 (((kz (kD d)).length:Int)-1)
def W6 (d:DyD) (b:Int):Bool:=kl b 0 (((kE d).length:Int)-1)
end U
def RB:we:=⟨[.val tDy],[.slice .int,.int],false,fun d=>[(wu d.1).length<=100000],fun d=>(eI d.1,wx d.1,())⟩
def RC:Ann:=fun r=>match r with
 |6=>some fun σ=>{X:=Nat,sl:=fun i=>[(19,.dat .int (i:Int)),(6,.own 6 .int)],ob:=fun i=>[(6,some (.row 3 .int false .yes (gB (gb tDy σ 1) i)))],inv:=fun i=>i<=(kE (gb tDy σ 1)).length,mu:=fun i=>(kE (gb tDy σ 1)).length-i}
 |_=>none
def RE:Prop:=∀(d:DyD×Unit),(wu d.1).length<=100000->(wu d.1).length<=100000/\(decide (wx d.1≠0)=true->([],wx d.1,())=(eI d.1,wx d.1,()))/\(decide (wx d.1≠0)=false->d.1.2.2.1.length<4611686018427387904->(∃(x:Nat),((0=(x:Int)/\True/\True)/\gB d.1 x=[]/\True)/\x<=(kE d.1).length)/\∀(x:Nat),x<=(kE d.1).length->(decide ((x:Int)<d.1.2.2.1.length)=true->(sV d.1).isSome=true/\(aK (U.ro (sV d.1))).length<=60/\((gB d.1 x).length+[dl (aK (U.ro (sV d.1))) (x:Int)].length)*8<=140737488355328/\kH ((x:Int)+1)/\∃(a:Nat),(((x:Int)+1=(a:Int)/\True/\True)/\gB d.1 x++[dl (aK (U.ro (sV d.1))) (x:Int)]=gB d.1 a/\True)/\a<=(kE d.1).length/\(kE d.1).length-a<(kE d.1).length-x)/\(decide ((x:Int)<d.1.2.2.1.length)=false->(gB d.1 x,(0:Int),())=(eI d.1,wx d.1,())))
def Nc:we:=⟨[.val tDy],[.slice .int,.int],false,fun d=>[(wu d.1).length<=100000],fun d=>(km d.1,wx d.1,())⟩
def Nd:Ann:=fun r=>match r with
 |6=>some fun σ=>{X:=Nat,sl:=fun i=>[(19,.dat .int (i:Int)),(6,.own 6 .int)],ob:=fun i=>[(6,some (.row 3 .int false .yes (gC (gb tDy σ 1) i)))],inv:=fun i=>i<=(kE (gb tDy σ 1)).length,mu:=fun i=>(kE (gb tDy σ 1)).length-i}
 |_=>none
def Nf:Prop:=∀(d:DyD×Unit),(wu d.1).length<=100000->(wu d.1).length<=100000/\(decide (wx d.1≠0)=true->([],wx d.1,())=(km d.1,wx d.1,()))/\(decide (wx d.1≠0)=false->d.1.2.2.1.length<4611686018427387904->(∃(x:Nat),((0=(x:Int)/\True/\True)/\gC d.1 x=[]/\True)/\x<=(kE d.1).length)/\∀(x:Nat),x<=(kE d.1).length->(decide ((x:Int)<d.1.2.2.1.length)=true->(sV d.1).isSome=true/\(aK (U.ro (sV d.1))).length<=60/\(sV d.1).isSome=true/\gg (U.rd (U.ro (sV d.1))) (x:Int)/\(DC (U.rd (U.ro (sV d.1))) (x:Int) (dl (aK (U.ro (sV d.1))) (x:Int))=true->((gC d.1 x).length+[(x:Int)].length)*8<=140737488355328/\kH ((x:Int)+1)/\∃(a:Nat),(((x:Int)+1=(a:Int)/\True/\True)/\gC d.1 x++[(x:Int)]=gC d.1 a/\True)/\a<=(kE d.1).length/\(kE d.1).length-a<(kE d.1).length-x)/\(DC (U.rd (U.ro (sV d.1))) (x:Int) (dl (aK (U.ro (sV d.1))) (x:Int))=false->kH ((x:Int)+1)/\∃(a:Nat),((True/\(x:Int)+1=(a:Int)/\True)/\gC d.1 x=gC d.1 a/\True)/\a<=(kE d.1).length/\(kE d.1).length-a<(kE d.1).length-x))/\(decide ((x:Int)<d.1.2.2.1.length)=false->(gC d.1 x,(0:Int),())=(km d.1,wx d.1,())))
theorem Ng {r:RoD} {l:List ShD} (d:wR (U.rd r)=true) (e:∀s∈l,s∈wu (U.rd r)) (nd:l.Nodup) (a:(aK r).length=(kz (kD (U.rd r))).length) (b:jbZ (aK r)) (c:jd9 r=U.noI):
 ∀i,i<=l.length->cQ r l i (vH r l i)
 |0,_=>Vv a b c
 |i+1,hi=>by
  rw[sq hi]
  exact ZM d e nd hi (Ng d e nd a b c i (by omega))
structure jbc (d:DyD):Prop where
 may:Qh (Tp d)
 len:(aK (Tp d)).length=(kz (kD d)).length
 row:∀p,(nth (aK (Tp d)) p).Nodup/\∀b∈nth (aK (Tp d)) p,gg d b
theorem VB {d:DyD} (h:wx d=0):jbc d:=by
 obtain⟨⟨_,i⟩,⟨j,c⟩,e⟩:=VA h;have f:=(yJ h).1;have a:=Ng (r:=LB d) (l:=qx d) f.2.2 (fun s k=>fT.1 k) (eg d) j c e _ (jk _);refine⟨⟨f,i⟩,a.1,fun p=> ?_⟩;have:=a.2.2 p;exact⟨this.1,fun b g=>(this.2 b g).1⟩
theorem jbc.len60 {d:DyD} (h:jbc d):(aK (Tp d)).length<=60:=by
 have a:=(wo h.may.1.1).2.2.1;have a:(kz (kD d)).length<=8:=a;rw[h.len];omega
theorem ZO {d:DyD} (h:wx d=0):sV d=some (Tp d):=jh h
theorem RF (d:DyD) (n:Nat):gB d (n+1)=gB d n++[dl (aK (Tp d)) (n:Int)]:=by
 unfold gB;rw[zi,zz];rfl
theorem VC:RE:=by
 rintro⟨d,⟨⟩⟩ j;refine⟨j,fun h=> ?_,fun h _=>⟨⟨0,⟨⟨rfl,tZ,tZ⟩,rfl,tZ⟩,ju _⟩,fun x g=>⟨fun a=> ?_,fun a=> ?_⟩⟩⟩;have h:wx d≠0:=ja h;show([],wx d,())=(eI d,wx d,());unfold eI;rw[jd h];have hk:wx d=0:=jP.1 (jc h);have f:=VB hk;have i:(kE d).length<=4:=(vb f.may.1.2.2).1;have a:(x:Int)<(kE d).length:=ja a;have k:=RF d x;have e:(gB d x).length=x:=(by unfold gB;simp);have b:=ZO hk;refine⟨by show(sV d).isSome=true;rw[b];rfl,by show(aK (U.ro (sV d))).length<=60;rw[b];exact f.len60,?_,iZ6,x+1,⟨⟨by simp,tZ,tZ⟩,?_,tZ⟩,by show x+1<=(kE d).length;omega,by show(kE d).length-(x+1)<(kE d).length-x;omega⟩;show((gB d x).length+1)*8<=_;omega;show gB d x++[dl (aK (U.ro (sV d))) (x:Int)]=gB d (x+1);rw[b,k];rfl;have hk:wx d=0:=jP.1 (jc h);have g:x<=(kE d).length:=g;have a:¬(x:Int)<(kE d).length:=jc a;have c:x=(kE d).length:=(by omega);subst c;show(gB d _,(0:Int),())=(eI d,wx d,());unfold eI;rw[jh hk,hk]
theorem RG:wn PR 20 RB:=qG RC VC Tryz.func20 (kcC im kcN) (koC uX koN)
theorem RH (d:DyD) (n:Nat):gC d (n+1)=gC d n++(if Qj d n=true then[(n:Int)] else[]):=by
 unfold gC;rw[L.ve,zz];by_cases h:Qj d n=true;rw[jh h,jh h];rfl;rw[jd h,jd h];rfl
theorem RI:Nf:=by
 rintro⟨d,⟨⟩⟩ p;refine⟨p,fun h=> ?_,fun h _=>⟨⟨0,⟨⟨rfl,tZ,tZ⟩,rfl,tZ⟩,ju _⟩,fun x m=>⟨fun b=> ?_,fun b=> ?_⟩⟩⟩;have h:wx d≠0:=ja h;show([],wx d,())=(km d,wx d,());unfold km;rw[jd h];have hk:wx d=0:=jP.1 (jc h);have l:=VB hk;have o:(kE d).length<=4:=(vb l.may.1.2.2).1;have b:(x:Int)<(kE d).length:=ja b;have e:=RH d x;have k:(gC d x).length<=x:=by
  unfold gC;rw[zp];exact jE (zG _ _) (by simp)
 have c:=ZO hk;have i:(sV d).isSome=true:=(by rw[c];rfl);have e2:(aK (U.ro (sV d))).length<=60:=(by rw[c];exact l.len60);have n:gg (U.rd (U.ro (sV d))) (x:Int):=(by rw[c];exact⟨by omega,b⟩);have j:DC (U.rd (U.ro (sV d))) (x:Int) (dl (aK (U.ro (sV d))) (x:Int))=Qj d x:=(by rw[c];rfl);have up:x+1<=(kE d).length:=(by omega);have g:(kE d).length-(x+1)<(kE d).length-x:=(by omega);refine⟨i,e2,i,n,fun a=> ?_,fun a=> ?_⟩;have a:Qj d x=true:=(by rw[<-j];exact a);refine⟨?_,iZ6,x+1,⟨⟨by simp,tZ,tZ⟩,?_,tZ⟩,up,g⟩;show((gC d x).length+1)*8<=_;omega;rw[jh a] at e;exact e.symm;have a:Qj d x=false:=(by rw[<-j];exact a);refine⟨iZ6,x+1,⟨⟨tZ,by simp,tZ⟩,?_,tZ⟩,up,g⟩;rw[jd (by rw[a];simp),j8] at e;exact e.symm;have hk:wx d=0:=jP.1 (jc h);have m:x<=(kE d).length:=m;have b:¬(x:Int)<(kE d).length:=jc b;have f:x=(kE d).length:=(by omega);subst f;show(gC d _,(0:Int),())=(km d,wx d,());unfold km;rw[jh hk,hk]
theorem Nh:wn PR 21 Nc:=qG Nd RI Tryz.func21 (kcC im (kcC xR kcN)) (koC uX koN)
theorem po {l:List Int} (h:∀p∈l,0<=p/\p<8):∀n,n<=l.length->BT.w4 (iw l n)/\∀q,BT.has (iw l n) q=true->q<8
 |0,_=>⟨BT.DH,fun q a=>by rw[show iw l 0=0 from rfl,BT.sS] at a;cases a⟩
 |n+1,d=>by
  have b:=po h n (by omega)
  have e:=h _ (L.kB (l:=l) (i:=n) (by omega))
  have c:BT.w4 ((2:Int)^(nth l n).toNat):=BT.fZ (by omega)
  rw[t8 (by omega),lU]
  refine⟨BT.bor_set b.1 c,fun q a=> ?_⟩
  rw[BT.has_bor b.1 c,zr,BT.AO,jm] at a
  rcases a with a|a
  exact b.2 q a
  omega
end Go.X
namespace Go.X
open U
open Go.Proofs
end Go.X
namespace Go.X
open U
open Go.Proofs
end Go.X
