/-
  Part 4 of the road: a checked reading of bodies, and what the functions on it do (T L BT BS NL DF RC FX A1 P1 A2 P2 A4 P4 A5 P5 A3 P6 CM MP O1 B1 P7 IS B2 P8 B3 P9 DI B4 P10 B5 P11 B6 P12 P13 B7 P14 B8 P15).
-/
import Derived.Test.YtacjhnpgiklpdaaGreatDoorK03
import Derived.Test.YtacjhnpgiklpdaaGreatDoorProg
import Derived.KernelRfl
import Derived.Shelf.SlSortCmp.WholeK
import Derived.Shelf.Sort.Plain
namespace Go.X
open U
open Go.Proofs
abbrev bT:=true
abbrev bF:=false
abbrev vO:Value:=.int .i64 0
abbrev qy0:Ty:=.st [.int,.int]
abbrev qy1:Ty:=.ptr (.uint .u8)
abbrev qy2:Ty:=.ptr (.uint .u64)
abbrev qy3:Ty:=.slice (.slice .int)
abbrev qy4:Ty:=.st [.int,.int,.int]
abbrev qy5:Ty:=.st [.int,.int,.bool]
abbrev qy6:Ty:=.slice qy0
abbrev qy7:Ty:=.slice qy4
abbrev qy8:Ty:=.slice qy5
abbrev qy9:Ty:=.st [.int,.int,.int,.int,.int]
abbrev qy10:Ty:=.map .int qy4
abbrev qy11:Ty:=.st [.int,.int,.bool,.uint .u8]
abbrev qy12:Ty:=.slice qy6
abbrev qy13:Ty:=.st [.int,.int,.int,.int,.int,.int]
abbrev qy14:Ty:=.slice qy9
abbrev qy15:Ty:=.slice qy13
abbrev qy16:Ty:=.st [.slice .int,.int,.int,.slice .int,.bool,.int]
abbrev qy17:Ty:=.map qy0 qy9
abbrev qy18:Ty:=.st [qy13,.int,.int,.int]
abbrev qy19:Ty:=.slice qy16
abbrev qy20:Ty:=.slice qy18
abbrev qy21:Ty:=.st [.int,.int,.int,.int,.int,.int,.int,.int,.slice .int,qy6]
abbrev qy22:Ty:=.st [.int,qy19,qy8]
abbrev qy23:Ty:=.st [qy22,qy13,qy5]
abbrev qy24:Ty:=.ptr qy23
abbrev qy25:Ty:=.st [qy18,qy21,.int,.int,.slice .int,.int,.int,.bool,.int]
abbrev qy26:Ty:=.ptr qy25
abbrev qy27:Ty:=.map .int qy26
abbrev qy28:Ty:=.st [qy22,qy12,qy20,.int,.int,qy14]
abbrev qy29:Ty:=.st [qy28,.slice .int,qy3,.slice .int]
abbrev qy30:Ty:=.ptr qy29
abbrev qy31:Ty:=.st [qy28,.slice .int,.slice .int,qy21,qy7]
abbrev qy32:Ty:=.st [qy31,qy27]
def rr (i:Nat)(t:Ty)(n:Nat)(a:Bool)(f:List (Nat×Nat))(s:Bool)(e b:Nat)(z:List Value)(c m:Bool)(k:Nat)(q:Bool):TI:=⟨i,t,n,a,f,s,e,b,z,c,m,k,q,false,false,false⟩
def rf (i:Nat):TI:=⟨i,.unit,1,false,[],false,0,8,[.nilFunc],false,false,0,false,false,false,true⟩
def rq (i:Nat):TI:=⟨i,.unit,1,false,[],false,0,8,[.pointer none],false,false,0,false,false,true,false⟩
def ti:List TI:=[
 rf 1,
 rr 2 .int 1 bF [] bF 0 8 [vO] bF bF 0 bT,
 rr 3 .int 1 bF [] bF 0 8 [vO] bF bF 0 bT,
 rr 4 .bool 1 bF [] bF 0 1 [.bool false] bT bF 0 bF,
 rr 5 (.uint .u8) 1 bF [] bF 0 1 [.int .u8 0] bF bF 0 bF,
 rr 6 (.uint .u8) 1 bF [] bF 0 1 [.int .u8 0] bF bF 0 bF,
 rr 7 qy11 4 bT [(0,2),(1,3),(2,4),(3,6)] bF 0 24 [vO,vO,.bool false,.int .u8 0] bT bF 0 bT,
 rr 8 qy11 4 bT [(0,2),(1,3),(2,4),(3,6)] bF 0 24 [vO,vO,.bool false,.int .u8 0] bT bF 0 bT,
 rr 12 (.uint .u64) 1 bF [] bF 0 8 [.int .u64 0] bF bF 0 bF,
 rq 15,
 rq 16,
 rq 17,
 rr 18 .unit 1 bT [(0,17)] bF 0 8 [.pointer none] bF bF 0 bF,
 rr 19 .unit 1 bT [(0,17)] bF 0 8 [.pointer none] bF bF 0 bF,
 rr 21 (.uint .i32) 1 bF [] bF 0 4 [.int .i32 0] bF bF 0 bF,
 rr 22 qy19 1 bF [] bT 136 24 [.slice none 0 0] bF bF 0 bF,
 rr 23 qy8 1 bF [] bT 145 24 [.slice none 0 0] bF bF 0 bF,
 rr 24 qy22 3 bT [(0,3),(1,22),(2,23)] bF 0 56 [vO,.slice none 0 0,.slice none 0 0] bF bF 0 bF,
 rr 25 qy22 3 bT [(0,3),(1,22),(2,23)] bF 0 56 [vO,.slice none 0 0,.slice none 0 0] bF bF 0 bF,
 rr 26 qy12 1 bF [] bT 107 24 [.slice none 0 0] bF bF 0 bF,
 rr 27 qy20 1 bF [] bT 65 24 [.slice none 0 0] bF bF 0 bF,
 rr 28 qy14 1 bF [] bT 134 24 [.slice none 0 0] bF bF 0 bF,
 rr 29 qy28 8 bT [(0,25),(3,26),(4,27),(5,3),(6,3),(7,28)] bF 0 144 [vO,.slice none 0 0,.slice none 0 0,.slice none 0 0,.slice none 0 0,vO,vO,.slice none 0 0] bF bF 0 bF,
 rr 30 qy28 8 bT [(0,25),(3,26),(4,27),(5,3),(6,3),(7,28)] bF 0 144 [vO,.slice none 0 0,.slice none 0 0,.slice none 0 0,.slice none 0 0,vO,vO,.slice none 0 0] bF bF 0 bF,
 rr 31 (.slice .int) 1 bF [] bT 3 24 [.slice none 0 0] bF bF 0 bF,
 rr 32 qy6 1 bF [] bT 87 24 [.slice none 0 0] bF bF 0 bF,
 rr 33 qy21 10 bT [(0,3),(1,3),(2,3),(3,3),(4,3),(5,3),(6,3),(7,3),(8,31),(9,32)] bF 0 112 [vO,vO,vO,vO,vO,vO,vO,vO,.slice none 0 0,.slice none 0 0] bF bF 0 bF,
 rr 34 qy21 10 bT [(0,3),(1,3),(2,3),(3,3),(4,3),(5,3),(6,3),(7,3),(8,31),(9,32)] bF 0 112 [vO,vO,vO,vO,vO,vO,vO,vO,.slice none 0 0,.slice none 0 0] bF bF 0 bF,
 rr 35 qy7 1 bF [] bT 95 24 [.slice none 0 0] bF bF 0 bF,
 rr 36 qy31 21 bT [(0,30),(8,31),(9,31),(10,34),(20,35)] bF 0 328 [vO,.slice none 0 0,.slice none 0 0,.slice none 0 0,.slice none 0 0,vO,vO,.slice none 0 0,.slice none 0 0,.slice none 0 0,vO,vO,vO,vO,vO,vO,vO,vO,.slice none 0 0,.slice none 0 0,.slice none 0 0] bF bF 0 bF,
 rr 37 qy31 21 bT [(0,30),(8,31),(9,31),(10,34),(20,35)] bF 0 328 [vO,.slice none 0 0,.slice none 0 0,.slice none 0 0,.slice none 0 0,vO,vO,.slice none 0 0,.slice none 0 0,.slice none 0 0,vO,vO,vO,vO,vO,vO,vO,vO,.slice none 0 0,.slice none 0 0,.slice none 0 0] bF bF 0 bF,
 rr 38 qy4 3 bT [(0,3),(1,3),(2,3)] bF 0 24 [vO,vO,vO] bT bF 0 bT,
 rr 39 qy4 3 bT [(0,3),(1,3),(2,3)] bF 0 24 [vO,vO,vO] bT bF 0 bT,
 rf 40,
 rf 41,
 rf 42,
 rr 43 .int 1 bF [] bF 0 8 [vO] bF bF 0 bT,
 rf 45,
 rf 46,
 rf 47,
 rf 49,
 rf 51,
 rf 52,
 rf 53,
 rr 54 qy15 1 bF [] bT 61 24 [.slice none 0 0] bF bF 0 bF,
 rf 56,
 rf 57,
 rf 58,
 rf 59,
 rr 60 qy13 6 bT [(0,3),(1,3),(2,3),(3,3),(4,3),(5,3)] bF 0 48 [vO,vO,vO,vO,vO,vO] bT bF 0 bT,
 rr 61 qy13 6 bT [(0,3),(1,3),(2,3),(3,3),(4,3),(5,3)] bF 0 48 [vO,vO,vO,vO,vO,vO] bT bF 0 bT,
 rr 62 qy13 6 bT [(0,3),(1,3),(2,3),(3,3),(4,3),(5,3)] bF 0 48 [vO,vO,vO,vO,vO,vO] bT bF 0 bT,
 rr 63 qy13 6 bT [(0,3),(1,3),(2,3),(3,3),(4,3),(5,3)] bF 0 48 [vO,vO,vO,vO,vO,vO] bT bF 0 bT,
 rr 64 qy18 9 bT [(0,63),(6,3),(7,3),(8,3)] bF 0 72 [vO,vO,vO,vO,vO,vO,vO,vO,vO] bT bF 0 bT,
 rr 65 qy18 9 bT [(0,63),(6,3),(7,3),(8,3)] bF 0 72 [vO,vO,vO,vO,vO,vO,vO,vO,vO] bT bF 0 bT,
 rf 67,
 rf 68,
 rf 69,
 rf 70,
 rr 71 qy27 1 bF [] bF 79 8 [.map none] bF bT 3 bF,
 rr 72 qy32 22 bT [(0,37),(21,71)] bF 0 336 [vO,.slice none 0 0,.slice none 0 0,.slice none 0 0,.slice none 0 0,vO,vO,.slice none 0 0,.slice none 0 0,.slice none 0 0,vO,vO,vO,vO,vO,vO,vO,vO,.slice none 0 0,.slice none 0 0,.slice none 0 0,.map none] bF bF 0 bF,
 rr 73 qy32 22 bT [(0,37),(21,71)] bF 0 336 [vO,.slice none 0 0,.slice none 0 0,.slice none 0 0,.slice none 0 0,vO,vO,.slice none 0 0,.slice none 0 0,.slice none 0 0,vO,vO,vO,vO,vO,vO,vO,vO,.slice none 0 0,.slice none 0 0,.slice none 0 0,.map none] bF bF 0 bF,
 rf 75,
 rf 76,
 rf 77,
 rf 78,
 {rr 79 qy26 1 bF [] bF 0 8 [.pointer none] bF bF 0 bF with pt:=true},
 rf 80,
 rf 81,
 rf 82,
 rf 83,
 rr 84 qy25 26 bT [(0,65),(9,34),(19,3),(20,3),(21,31),(22,3),(23,3),(24,4),(25,3)] bF 0 256 [vO,vO,vO,vO,vO,vO,vO,vO,vO,vO,vO,vO,vO,vO,vO,vO,vO,.slice none 0 0,.slice none 0 0,vO,vO,.slice none 0 0,vO,vO,.bool false,vO] bF bF 0 bF,
 rr 85 qy25 26 bT [(0,65),(9,34),(19,3),(20,3),(21,31),(22,3),(23,3),(24,4),(25,3)] bF 0 256 [vO,vO,vO,vO,vO,vO,vO,vO,vO,vO,vO,vO,vO,vO,vO,vO,vO,.slice none 0 0,.slice none 0 0,vO,vO,.slice none 0 0,vO,vO,.bool false,vO] bF bF 0 bF,
 rr 86 qy0 2 bT [(0,3),(1,3)] bF 0 16 [vO,vO] bT bF 0 bT,
 rr 87 qy0 2 bT [(0,3),(1,3)] bF 0 16 [vO,vO] bT bF 0 bT,
 rf 88,
 rf 89,
 rf 90,
 rf 91,
 rr 92 (.uint .u64) 1 bF [] bF 0 8 [.int .u64 0] bF bF 0 bF,
 rf 93,
 rr 94 qy4 3 bT [(0,3),(1,3),(2,3)] bF 0 24 [vO,vO,vO] bT bF 0 bT,
 rr 95 qy4 3 bT [(0,3),(1,3),(2,3)] bF 0 24 [vO,vO,vO] bT bF 0 bT,
 rf 96,
 rf 97,
 rf 98,
 rf 99,
 rr 100 qy10 1 bF [] bF 95 8 [.map none] bF bT 3 bF,
 rf 102,
 rf 103,
 rf 104,
 rf 105,
 rf 106,
 rr 107 qy6 1 bF [] bT 131 24 [.slice none 0 0] bF bF 0 bF,
 rf 108,
 rf 109,
 rf 110,
 rf 111,
 rf 112,
 rf 113,
 rf 115,
 rf 116,
 rf 117,
 rf 118,
 rf 119,
 rf 120,
 rf 121,
 rf 122,
 rf 123,
 rf 124,
 rf 125,
 rf 126,
 rr 127 qy15 1 bF [] bT 63 24 [.slice none 0 0] bF bF 0 bF,
 rf 129,
 rr 130 qy0 2 bT [(0,3),(1,3)] bF 0 16 [vO,vO] bT bF 0 bT,
 rr 131 qy0 2 bT [(0,3),(1,3)] bF 0 16 [vO,vO] bT bF 0 bT,
 rf 132,
 rr 133 qy9 5 bT [(0,3),(1,3),(2,3),(3,3),(4,3)] bF 0 40 [vO,vO,vO,vO,vO] bT bF 0 bT,
 rr 134 qy9 5 bT [(0,3),(1,3),(2,3),(3,3),(4,3)] bF 0 40 [vO,vO,vO,vO,vO] bT bF 0 bT,
 rr 135 qy16 6 bT [(0,31),(1,3),(2,3),(3,31),(4,4),(5,3)] bF 0 80 [.slice none 0 0,vO,vO,.slice none 0 0,.bool false,vO] bF bF 0 bF,
 rr 136 qy16 6 bT [(0,31),(1,3),(2,3),(3,31),(4,4),(5,3)] bF 0 80 [.slice none 0 0,vO,vO,.slice none 0 0,.bool false,vO] bF bF 0 bF,
 {rr 137 qy30 1 bF [] bF 0 8 [.pointer none] bF bF 0 bF with pt:=true},
 rf 139,
 rf 140,
 rf 141,
 rf 142,
 rf 143,
 rr 144 qy5 3 bT [(0,3),(1,3),(2,4)] bF 0 24 [vO,vO,.bool false] bT bF 0 bT,
 rr 145 qy5 3 bT [(0,3),(1,3),(2,4)] bF 0 24 [vO,vO,.bool false] bT bF 0 bT,
 rf 146,
 rf 147,
 rf 148,
 rf 149,
 rf 150,
 rf 151,
 rf 152,
 rf 153,
 rf 154,
 rf 155,
 rf 156,
 rr 157 (.map .int .int) 1 bF [] bF 3 8 [.map none] bF bT 3 bF,
 rf 158,
 rf 159,
 rf 160,
 rf 161,
 rf 162,
 rf 163,
 rf 164,
 rf 165,
 rr 166 qy3 1 bF [] bT 31 24 [.slice none 0 0] bF bF 0 bF,
 rr 167 qy29 11 bT [(0,30),(8,31),(9,166),(10,31)] bF 0 216 [vO,.slice none 0 0,.slice none 0 0,.slice none 0 0,.slice none 0 0,vO,vO,.slice none 0 0,.slice none 0 0,.slice none 0 0,.slice none 0 0] bF bF 0 bF,
 rr 168 qy29 11 bT [(0,30),(8,31),(9,166),(10,31)] bF 0 216 [vO,.slice none 0 0,.slice none 0 0,.slice none 0 0,.slice none 0 0,vO,vO,.slice none 0 0,.slice none 0 0,.slice none 0 0,.slice none 0 0] bF bF 0 bF,
 rf 169,
 rf 170,
 rf 171,
 rf 172,
 rf 173,
 rf 174,
 rf 175,
 rf 176,
 rf 177,
 rf 178,
 rf 179,
 rf 180,
 rf 181,
 rr 182 .int 1 bF [] bF 0 8 [vO] bF bF 0 bT,
 rf 184,
 rf 185,
 rf 186,
 rf 187,
 rf 188,
 rr 189 (.uint .u32) 1 bF [] bF 0 4 [.int .u32 0] bF bF 0 bF,
 rf 190,
 rr 191 (.uint .u64) 1 bF [] bF 0 8 [.int .u64 0] bF bF 0 bF,
 {rr 192 qy24 1 bF [] bF 0 8 [.pointer none] bF bF 0 bF with pt:=true},
 rf 194,
 rr 195 (.uint .u64) 1 bF [] bF 0 8 [.int .u64 0] bF bF 0 bF,
 rf 196,
 rr 197 qy17 1 bF [] bF 134 8 [.map none] bF bT 199 bF,
 rr 198 qy0 2 bT [(0,3),(1,3)] bF 0 16 [vO,vO] bT bF 0 bT,
 rr 199 qy0 2 bT [(0,3),(1,3)] bF 0 16 [vO,vO] bT bF 0 bT,
 rf 200,
 rf 201,
 rf 202,
 rf 203,
 rf 204,
 rf 205,
 rf 206,
 rf 207,
 rf 208,
 rf 209,
 rf 210,
 rf 211,
 rf 212,
 rr 213 (.uint .u64) 1 bF [] bF 0 8 [.int .u64 0] bF bF 0 bF,
 rf 214,
 rf 215,
 rf 216,
 {rr 217 (.ptr .int) 1 bF [] bF 0 8 [.pointer none] bF bF 0 bF with pt:=true},
 rf 218,
 rr 219 qy23 12 bT [(0,25),(3,63),(9,145)] bF 0 128 [vO,.slice none 0 0,.slice none 0 0,vO,vO,vO,vO,vO,vO,vO,vO,.bool false] bF bF 0 bF,
 rr 220 qy23 12 bT [(0,25),(3,63),(9,145)] bF 0 128 [vO,.slice none 0 0,.slice none 0 0,vO,vO,vO,vO,vO,vO,vO,vO,.bool false] bF bF 0 bF,
 rf 221,
 rf 222,
 rf 223,
 rf 224,
 rf 225,
 rf 226,
 rf 227,
 rf 228,
 rf 229,
 rf 230,
 {rr 231 qy2 1 bF [] bF 0 8 [.pointer none] bF bF 0 bF with pt:=true},
 rf 233,
 rf 234,
 rf 235,
 rf 236,
 rf 237,
 rf 238,
 rf 239,
 rf 240,
 rf 241,
 rf 242,
 rf 243,
 rf 244,
 rf 245,
 rf 246,
 rf 247,
 rf 248,
 rf 249,
 rf 251,
 rf 252,
 rf 253,
 rf 254,
 rf 256,
 rf 258,
 rf 259,
 rf 260,
 rf 261,
 rf 262,
 rf 263,
 rf 264,
 rf 265,
 rf 266,
 rf 267,
 rr 271 .unit 0 bT [(0,270)] bF 0 0 [] bF bF 0 bF,
 rr 272 .unit 0 bT [(0,270)] bF 0 0 [] bF bF 0 bF,
 rr 273 (.uint .u8) 1 bF [] bF 0 1 [.int .u8 0] bF bF 0 bF,
 rr 274 (.uint .u8) 1 bF [] bF 0 1 [.int .u8 0] bF bF 0 bF,
 rf 275,
 {rr 276 qy1 1 bF [] bF 0 8 [.pointer none] bF bF 0 bF with pt:=true},
 rr 277 (.uint .i32) 1 bF [] bF 0 4 [.int .i32 0] bF bF 0 bF,
 rr 278 (.uint .i32) 1 bF [] bF 0 4 [.int .i32 0] bF bF 0 bF,
 rr 279 .unit 11 bT [(0,12),(1,12),(2,189),(3,273),(4,5),(5,5),(6,274),(7,275),(8,276),(9,277),(10,278)] bF 0 48 [.int .u64 0,.int .u64 0,.int .u32 0,.int .u8 0,.int .u8 0,.int .u8 0,.int .u8 0,.nilFunc,.pointer none,.int .i32 0,.int .i32 0] bF bF 0 bF,
 rr 280 .unit 11 bT [(0,12),(1,12),(2,189),(3,273),(4,5),(5,5),(6,274),(7,275),(8,276),(9,277),(10,278)] bF 0 48 [.int .u64 0,.int .u64 0,.int .u32 0,.int .u8 0,.int .u8 0,.int .u8 0,.int .u8 0,.nilFunc,.pointer none,.int .i32 0,.int .i32 0] bF bF 0 bF,
 rf 281,
 rf 283]
def strs:List Nat:=[9,10,11]
noncomputable abbrev PR:Program:=Tryz.prog
theorem Y3:ti.all (jer PR)=true:=by kernel_rfl
def jbO (P:Program) (k:Nat):Bool:=match P.underlying k with|some .string=>true|_=>false
theorem VP {P:Program} {l:List Nat} (a:l.all (jbO P)=true) (T:Nat) (h:cd l T=true):P.underlying T=some .string:=by
 have:=jU.1 a T ((yt _ _).1 h);unfold jbO at this
 split at this
 assumption
 cases this
theorem jbP:strs.all (jbO PR)=true:=by kernel_rfl
theorem QG:∀T,cd strs T=true->PR.underlying T=some .string:=VP jbP
theorem mixed:PR.follows .mixedOrders=true:=by kernel_rfl
def jeN (n:Nat) (fs:List (Nat×wS)):Ctx:=⟨n,ti,fs,fun _ _ _ _=>none,strs,false⟩
def ctx (n:Nat) (fs:List (Nat×wS)) (os:List (Nat×vi)):Ctx:=⟨n,ti,fs,jeH (jeN n fs) os,strs,false⟩
def nZ:List (Nat×wS)->Prop
 |[]=>True
 |p::r=>(p.2.own=false->wZ PR p.1 p.2)/\nZ r
def dK:List (Nat×vi)->Prop
 |[]=>True
 |p::r=>ac PR p.1 p.2/\dK r
theorem fh:∀{l:List (Nat×wS)},nZ l->∀f s,wM l f=some s->s.own=false->wZ PR f s
 |[],_,f,s,h,_=>by simp[wM] at h
 | (j,x)::r,hk,f,s,h,ho=>by
  simp only[wM] at h
  cases a:Nat.beq j f with
  |true=>rw[a] at h;simp at h;subst h;have:=jb a;subst this;exact hk.1 ho
  |false=>rw[a] at h;exact fh hk.2 f s h ho
theorem pC:∀{l:List (Nat×vi)},dK l->∀f s,wM l f=some s->ac PR f s
 |[],_,f,s,h=>by simp[wM] at h
 | (j,x)::r,hk,f,s,h=>by
  simp only[wM] at h
  cases a:Nat.beq j f with
  |true=>rw[a] at h;simp at h;subst h;have:=jb a;subst this;exact hk.1
  |false=>rw[a] at h;exact pC hk.2 f s h
theorem VQ {n:Nat} {fs:List (Nat×wS)} (h:nZ fs):(jeN n fs).ok PR:=
 ⟨Qo Y3,fh h,QG,rfl,fun _ _ _ _ _ a=>by cases a⟩
theorem oP {n:Nat} {fs:List (Nat×wS)} {os:List (Nat×vi)} (h:nZ fs) (b:dK os):(ctx n fs os).ok PR:=
 ⟨Qo Y3,fh h,QG,rfl,fun _ _ _ _ _ a=>R2 (VQ h) (pC b) a⟩
def gd (t:Ty) (σ:St) (s:Nat):t.Data:=match σ.get s with
 | .dat a d=>(match qQ a t d with|some x=>x|none=>t.dflt)
 |_=>t.dflt
def gr (t:Ty) (σ:St) (o:Nat):List t.Data:=match σ.obj o with
 |some (.row _ a _ _ l)=>(match qQ (.slice a) (.slice t) l with|some l'=>l'|none=>[])
 |_=>[]
def gfn (ps rs:List Ty) (σ:St) (s:Nat):(Ty.st ps).Data->(Ty.st rs).Data:=match σ.get s with
 | .fn a b _ F=>if h:a=ps/\b=rs then h.1▸h.2▸F else fun _=>(Ty.st rs).dflt
 |_=>fun _=>(Ty.st rs).dflt
def qh (fn:Func):Code:=match fn.body with|some c=>c|none=> .skip
theorem jfc {f:Nat} {fn:Func} {n:Nat} {fs:List (Nat×wS)} {os:List (Nat×vi)} {s:wS} {A:Ann} (h:jc6 (ctx n fs os) A fn (qh fn) s) (d:PR.funcs[f]? =some fn) (c:fn.body=some (qh fn)) (a:(fn.name== "runtime.NumGoroutine")=false)
 (e:fn.ntmps=n) (b:Nat.ble s.ps.length n=true) (hk:nZ fs) (g:dK os):wZ PR f s:=
 jdr (oP hk g) mixed d c a e (jy b) A h
theorem jdD {f:Nat} {fn:Func} {n:Nat} {fs:List (Nat×wS)} {os:List (Nat×vi)} {s:vi} {A:Ann} (h:Vu (ctx n fs os) A fn (qh fn) s) (e:PR.funcs[f]? =some fn) (d:fn.body=some (qh fn)) (a:(fn.name== "runtime.NumGoroutine")=false)
 (g:fn.ntmps=n) (c:Nat.ble s.ps.length n=true) (b:ao (Nd s.ps 0)=true) (hk:nZ fs) (i:dK os):ac PR f s:=
 jdu (oP hk i) mixed e d a g (jy c) b A h
abbrev qF:Prop:=false=false
theorem tZ:True:=True.intro
theorem iZ6 {x:Int} (a: -9223372036854775808<=x:=by omega) (b:x<=9223372036854775807:=by omega):wn x:=⟨a,b⟩
theorem kcC {f:Nat} {s:wS} {fs:List (Nat×wS)} (h:wZ PR f s) (hk:nZ fs):nZ ((f,s)::fs):=⟨fun _=>h,hk⟩
theorem kcN:nZ []:=trivial
theorem koC {f:Nat} {s:vi} {fs:List (Nat×vi)} (h:ac PR f s) (hk:dK fs):dK ((f,s)::fs):=⟨h,hk⟩
theorem koN:dK []:=trivial
theorem vl (A:Ann) {f:Nat} {fn:Func} {fs:List (Nat×wS)} {os:List (Nat×vi)} {s:wS} {P:Prop} (h:P) (e:PR.funcs[f]? =some fn) (hk:nZ fs) (g:dK os) (d:jc6 (ctx fn.ntmps fs os) A fn (qh fn) s=P:=by kernel_rfl) (c:fn.body=some (qh fn):=by kernel_rfl) (a:(fn.name== "runtime.NumGoroutine")=false:=by kernel_rfl) (b:Nat.ble s.ps.length fn.ntmps=true:=by kernel_rfl):wZ PR f s:=jfc (d.mpr h) e c a rfl b hk g
theorem wL {f:Nat} {fn:Func} {fs:List (Nat×wS)} {os:List (Nat×vi)} {s:wS} {P:Prop} (h:P) (e:PR.funcs[f]? =some fn) (hk:nZ fs) (g:dK os) (d:jc6 (ctx fn.ntmps fs os) (fun _=>none) fn (qh fn) s=P:=by kernel_rfl) (c:fn.body=some (qh fn):=by kernel_rfl) (a:(fn.name== "runtime.NumGoroutine")=false:=by kernel_rfl) (b:Nat.ble s.ps.length fn.ntmps=true:=by kernel_rfl):wZ PR f s:=jfc (d.mpr h) e c a rfl b hk g
theorem sF (A:Ann) {f:Nat} {fn:Func} {fs:List (Nat×wS)} {os:List (Nat×vi)} {s:vi} {P:Prop} (h:P) (g:PR.funcs[f]? =some fn) (hk:nZ fs) (i:dK os) (e:Vu (ctx fn.ntmps fs os) A fn (qh fn) s=P:=by kernel_rfl) (d:fn.body=some (qh fn):=by kernel_rfl) (a:(fn.name== "runtime.NumGoroutine")=false:=by kernel_rfl) (c:Nat.ble s.ps.length fn.ntmps=true:=by kernel_rfl) (b:ao (Nd s.ps 0)=true:=by kernel_rfl):ac PR f s:=jdD (e.mpr h) g d a rfl c b hk i
theorem CT {f:Nat} {fn:Func} {fs:List (Nat×wS)} {os:List (Nat×vi)} {s:vi} {P:Prop} (h:P) (g:PR.funcs[f]? =some fn) (hk:nZ fs) (i:dK os) (e:Vu (ctx fn.ntmps fs os) (fun _=>none) fn (qh fn) s=P:=by kernel_rfl) (d:fn.body=some (qh fn):=by kernel_rfl) (a:(fn.name== "runtime.NumGoroutine")=false:=by kernel_rfl) (c:Nat.ble s.ps.length fn.ntmps=true:=by kernel_rfl) (b:ao (Nd s.ps 0)=true:=by kernel_rfl):ac PR f s:=jdD (e.mpr h) g d a rfl c b hk i
def Mv (n:Nat) (fs:List (Nat×wS)) (os:List (Nat×vi)) (cs:List (Nat×px)) (vs:List (Nat×HR)):Ctx:=⟨n,ti,fs,jeM (jeN n fs) os cs vs,strs,false⟩
def VR:List (Nat×px)->Prop
 |[]=>True
 |p::r=>J2 PR p.1 p.2/\VR r
def VS:List (Nat×HR)->Prop
 |[]=>True
 |p::r=>VOK PR p.1 p.2/\VS r
theorem CU:∀{l:List (Nat×px)},VR l->∀f s,wM l f=some s->J2 PR f s
 |[],_,f,s,h=>by simp[wM] at h
 | (j,x)::r,hk,f,s,h=>by
  simp only[wM] at h
  cases a:Nat.beq j f with
  |true=>rw[a] at h;simp at h;subst h;have:=jb a;subst this;exact hk.1
  |false=>rw[a] at h;exact CU hk.2 f s h
theorem CV:∀{l:List (Nat×HR)},VS l->∀f s,wM l f=some s->VOK PR f s
 |[],_,f,s,h=>by simp[wM] at h
 | (j,x)::r,hk,f,s,h=>by
  simp only[wM] at h
  cases a:Nat.beq j f with
  |true=>rw[a] at h;simp at h;subst h;have:=jb a;subst this;exact hk.1
  |false=>rw[a] at h;exact CV hk.2 f s h
theorem Nv {n:Nat} {fs:List (Nat×wS)} {os:List (Nat×vi)} {cs:List (Nat×px)} {vs:List (Nat×HR)} (h:nZ fs) (c:dK os) (a:VR cs) (d:VS vs):(Mv n fs os cs vs).ok PR:=
 ⟨Qo Y3,fh h,QG,rfl,fun _ _ _ _ _ b=>R4 (VQ h) (pC c) (CU a) (CV d) b⟩
theorem jdE {f:Nat} {fn:Func} {n:Nat} {fs:List (Nat×wS)} {os:List (Nat×vi)} {s:px} {A:Ann} (h:VI (ctx n fs os) A fn (qh fn) s) (d:PR.funcs[f]? =some fn) (c:fn.body=some (qh fn)) (a:(fn.name== "runtime.NumGoroutine")=false)
 (e:fn.ntmps=n) (b:Nat.ble s.ps.length n=true) (hk:nZ fs) (g:dK os):J2 PR f s:=
 jdA (oP hk g) mixed d c a e (jy b) A h
end Go.X
namespace Go.X
open U
namespace L
theorem qI {α:Type} [Inhabited α] {l:List α} {i:Nat} (h:i<l.length):nth l i=l[i]:=by
 unfold nth;simp[h]
theorem wO {α:Type} [Inhabited α] {l:List α} {i:Nat} (h:i<l.length):l.take (i+1)=l.take i++[nth l i]:=by
 rw[qI h];exact List.take_succ_eq_append_getElem h
theorem wi {α:Type} [Inhabited α] {l:List α} {i:Nat} (h:i<l.length):nth l i∈l:=by
 rw[qI h];exact kP h
theorem mem_iff {α:Type} [Inhabited α] {l:List α} {x:α}:x∈l↔∃i,i<l.length/\nth l i=x:=by
 constructor;intro h;obtain⟨i,hi,e⟩:=List.getElem_of_mem h;exact⟨i,hi,by rw[qI hi,e]⟩;rintro⟨i,hi,rfl⟩;exact wi hi
theorem all_false {α:Type} [Inhabited α] {l:List α} {i:Nat} {p:α->Bool} (h:i<l.length) (a:p (nth l i)=false):l.all p=false:=by
 rw[zU];exact⟨nth l i,wi h,by simp[a]⟩
theorem F0 {x:Int} (a: -9223372036854775808<=x) (b:x<=9223372036854775807):wn x:=⟨a,b⟩
end L
namespace BT
theorem Bz (k:Nat):(2:Int)^k=((2^k:Nat):Int):=by simp
theorem div_nat (n k:Nat):(n:Int)/2^k=((n/2^k:Nat):Int):=by simp
theorem pow63 {k:Nat} (h:k<=62):2^k<2^63:=Nat.pow_lt_pow_right (by decide) (by omega)
theorem ofInt_nat {n:Nat} (a:n<2^63):(BitVec.ofInt 64 (n:Int)).toNat=n:=by
 simp only[BitVec.toNat_ofInt];omega
theorem wrap_nat {n:Nat} (h:n<2^63):IntKind.i64.wrap (n:Int)=(n:Int):=by
 unfold IntKind.wrap;simp[IntKind.signed,IntKind.bits];omega
theorem wrapU_nat {n:Nat} (h:n<2^63):IntKind.u64.wrap (n:Int)=(n:Int):=by
 unfold IntKind.wrap;simp[IntKind.signed,IntKind.bits];omega
theorem band_nat {a b:Nat} (c:a<2^63) (d:b<2^63):fZ (a:Int) (b:Int)=((a&&&b:Nat):Int):=by
 unfold fZ;rw[BitVec.toNat_and,ofInt_nat c,ofInt_nat d];exact wrap_nat (kE Nat.and_le_left c)
theorem uand_nat {a b:Nat} (c:a<2^63) (d:b<2^63):gM (a:Int) (b:Int)=((a&&&b:Nat):Int):=by
 unfold gM;rw[BitVec.toNat_and,ofInt_nat c,ofInt_nat d];exact wrapU_nat (kE Nat.and_le_left c)
theorem bor_nat {a b:Nat} (c:a<2^63) (d:b<2^63):bor (a:Int) (b:Int)=((a|||b:Nat):Int):=by
 unfold bor;rw[BitVec.toNat_or,ofInt_nat c,ofInt_nat d,wrap_nat (kw c d)]
def qd (s:Int):Prop:=0<=s/\s<2^62
def has (s:Int) (p:Nat):Bool:=s.toNat.testBit p
theorem nat_of {s:Int} (h:qd s):∃n:Nat,s=(n:Int)/\n<2^62:=⟨s.toNat,by unfold qd at h;omega,by unfold qd at h;omega⟩
theorem lt63 {n:Nat} (h:n<2^62):n<2^63:=by omega
theorem has_shr {s:Int} (h:qd s) (p:Nat):decide (fZ (s/2^p) 1=1)=has s p:=by
 obtain⟨n,rfl,b⟩:=nat_of h;unfold has;rw[jw,div_nat];have a:n/2^p<2^63:=kE (Nat.div_le_self _ _) (lt63 b);rw[show(1:Int)=((1:Nat):Int) from rfl,band_nat a (by decide),kF,kz];exact decide_eq_decide.2 ⟨fun h=>by omega,fun h=>by omega⟩
theorem has_ushr {s:Int} (h:qd s) (p:Nat):decide (gM (s/2^p) 1=1)=has s p:=by
 obtain⟨n,rfl,b⟩:=nat_of h;unfold has;rw[jw,div_nat];have a:n/2^p<2^63:=kE (Nat.div_le_self _ _) (lt63 b);rw[show(1:Int)=((1:Nat):Int) from rfl,uand_nat a (by decide),kF,kz];exact decide_eq_decide.2 ⟨fun h=>by omega,fun h=>by omega⟩
theorem bit_num {s:Int} (h:qd s) (p:Nat):fZ (s/2^p) 1=if has s p=true then 1 else 0:=by
 obtain⟨n,rfl,b⟩:=nat_of h;unfold has;rw[jw,div_nat];have a:n/2^p<2^63:=kE (Nat.div_le_self _ _) (lt63 b);rw[show(1:Int)=((1:Nat):Int) from rfl,band_nat a (by decide),kF,kz]
 split
 rename_i h;have:=ja h;omega;rename_i h;have:¬(n/2^p%2=1):=fun e=>h (jD e);omega
theorem tY (p:Nat):has 0 p=false:=by unfold has;simp
theorem BA (k p:Nat):has ((2:Int)^k) p=decide (k=p):=by
 unfold has;rw[Bz,jw,Nat.testBit_two_pow]
theorem has_bor {a b:Int} (c:qd a) (d:qd b) (p:Nat):has (bor a b) p=(has a p||has b p):=by
 obtain⟨n,rfl,f⟩:=nat_of c;obtain⟨m,rfl,e⟩:=nat_of d;unfold has;rw[bor_nat (lt63 f) (lt63 e)];simp only[jw,k8]
theorem bor_set {a b:Int} (e:qd a) (f:qd b):qd (bor a b):=by
 obtain⟨n,rfl,d⟩:=nat_of e;obtain⟨m,rfl,c⟩:=nat_of f;rw[bor_nat (lt63 d) (lt63 c)];have:n|||m<2^62:=kw d c;unfold qd;omega
theorem ED:qd 0:=by unfold qd;omega
theorem ld {k:Nat} (h:k<=61):qd ((2:Int)^k):=by
 rw[Bz];have:2^k<2^62:=Nat.pow_lt_pow_right (by decide) (by omega);obtain⟨q,a⟩:∃q,q=2^k:=⟨_,rfl⟩;rw[<-a] at this⊢;unfold qd;omega
theorem ext {a b:Int} (c:qd a) (d:qd b) (h:∀p,has a p=has b p):a=b:=by
 obtain⟨n,rfl,f⟩:=nat_of c;obtain⟨m,rfl,e⟩:=nat_of d;have:n=m:=kf (fun i=>by have:=h i;unfold has at this;simpa using this);rw[this]
theorem has_lt {s:Int} {k:Nat} (c:0<=s) (h:s<2^k) {p:Nat} (b:has s p=true):p<k:=by
 obtain⟨n,rfl⟩:∃n:Nat,s=(n:Int):=⟨s.toNat,by omega⟩;rw[Bz] at h;unfold has at b;rw[jw] at b;have d:=Nat.ge_two_pow_of_testBit b;rcases Nat.lt_or_ge p k with a|a;exact a;have:=Nat.pow_le_pow_right (n:=2) (by decide) a;omega
theorem lt_of_has {s:Int} {k:Nat} (a:qd s) (h:∀p,has s p=true->p<k):s<2^k:=by
 obtain⟨n,rfl,b⟩:=nat_of a;rw[Bz];have:n<2^k:=Nat.lt_pow_two_of_testBit n (fun i hi=>by
  cases e:n.testBit i with
  |false=>rfl
  |true=>have:=h i (by unfold has;simpa using e);omega)
 omega
theorem or_two {n p:Nat} (h:n.testBit p=false):n+2^p=n|||2^p:=by
 have f:n=2^(p+1)*(n/2^(p+1))+n%2^(p+1):=(Nat.div_add_mod _ _).symm;have c:n%2^(p+1)<2^p:=by
  have b:n%2^(p+1)<2^(p+1):=Nat.mod_lt _ (Nat.pow_pos (by decide));rcases Nat.lt_or_ge (n%2^(p+1)) (2^p) with a|a
  .exact a
  .exfalso;have:(n%2^(p+1)).testBit p=true:=Nat.testBit_of_two_pow_le_and_two_pow_add_one_gt a b;rw[Nat.testBit_mod_two_pow,h] at this;simp at this
 apply kf;intro i;rw[k8,Nat.testBit_two_pow];have e:n+2^p=2^(p+1)*(n/2^(p+1))+(2^p+n%2^(p+1)):=(by omega);have g:2^p+n%2^(p+1)<2^(p+1):=zC (Nat.add_lt_add_left c _) (by rw[Nat.pow_succ];omega);rw[e,kN _ g]
 conv=>rhs;rw[f,kN _ (Nat.mod_lt _ (Nat.pow_pos (by decide)))]
 have e2:2^p+n%2^(p+1)=2^p*1+n%2^(p+1):=(by omega);by_cases hi:i<p+1
 .rw[je hi,je hi,e2,kN _ c];by_cases d:i<p
  .rw[je d,zt (by omega),kQ]
  .have:i=p:=(by omega);subst this;rw[jd d,Nat.sub_self,jD rfl,kX];simp
 .rw[jd hi,jd hi,zt (by omega),kQ]
theorem add_two {s:Int} (b:qd s) {p:Nat} (c:p<=61) (h:has s p=false):s+2^p=bor s (2^p):=by
 obtain⟨n,rfl,a⟩:=nat_of b;rw[Bz,bor_nat (lt63 a) (pow63 (by omega))];unfold has at h;rw[jw] at h;rw[<-or_two h];omega
def size (s:Int):Int:=(((List.range 62).countP (fun p=>has s p):Nat):Int)
theorem size_zero:size 0=0:=by
 unfold size;have:(List.range 62).countP (fun p=>has 0 p)=0:=zX.2 (fun p _=>by rw[tY];simp);rw[this];rfl
theorem BB (s:Int):0<=size s/\size s<=62:=by
 have:=List.countP_le_length (l:=List.range 62) (p:=fun p=>has s p);rw[zO] at this;unfold size;omega
theorem has_half {s:Int} (a:qd s) (p:Nat):has (s/2) p=has s (p+1):=by
 obtain⟨n,rfl,b⟩:=nat_of a;unfold has;have:((n:Int)/2).toNat=n/2:=(by omega);rw[this,jw,kA]
theorem size_half {s:Int} (d:qd s):size s=s%2+size (s/2):=by
 obtain⟨n,e,i⟩:=nat_of d;have b:has (s/2) 61=false:=by
  rw[has_half d];subst e;unfold has;rw[jw];exact Nat.testBit_lt_two_pow i
 have j:(List.range 62)=0::(List.range 61).map (·+1):=by
  rw[show(62:Nat)=61+1 from rfl,List.range_succ_eq_map]
 have c:(List.range 62)=List.range 61++[61]:=(by rw[show(62:Nat)=61+1 from rfl,zf]);have f:(has s 0=true)↔s%2=1:=by
  subst e;unfold has;rw[jw,Nat.testBit_zero];simp only[jp];omega
 have g:(List.range 62).countP (fun p=>has (s/2) p)=(List.range 61).countP (fun p=>has s (p+1)):=by
  rw[c,zL];simp only[kh,List.countP_nil,b];simp only[has_half d];simp
 unfold size;rw[g]
 conv=>lhs;rw[j]
 rw[kh,List.countP_map];have h:((fun p=>has s p)∘fun(x:Nat)=>x+1)=fun p=>has s (p+1):=rfl
 rw[h];by_cases a:has s 0=true
 .rw[je a];have:=f.1 a;omega
 .rw[jd a];have:¬s%2=1:=fun e=>a (f.2 e);omega
end BT
namespace BT
theorem uor_nat {a b:Nat} (c:a<2^63) (d:b<2^63):uor (a:Int) (b:Int)=((a|||b:Nat):Int):=by
 unfold uor;rw[BitVec.toNat_or,ofInt_nat c,ofInt_nat d,wrapU_nat (kw c d)]
theorem has_uor {a b:Int} (c:qd a) (d:qd b) (p:Nat):has (uor a b) p=(has a p||has b p):=by
 obtain⟨n,rfl,f⟩:=nat_of c;obtain⟨m,rfl,e⟩:=nat_of d;unfold has;rw[uor_nat (lt63 f) (lt63 e)];simp only[jw,k8]
theorem uor_set {a b:Int} (e:qd a) (f:qd b):qd (uor a b):=by
 obtain⟨n,rfl,d⟩:=nat_of e;obtain⟨m,rfl,c⟩:=nat_of f;rw[uor_nat (lt63 d) (lt63 c)];have:n|||m<2^62:=kw d c;unfold qd;omega
theorem pred_odd (k:Nat):(2*k+1)&&&(2*k+1-1)=2*k:=by
 apply kf;intro i;rw[Nat.testBit_and,Nat.add_sub_cancel];cases i with
 |zero=>simp
 |succ i=>
  rw[kA,kA];have:(2*k+1)/2=k:=(by omega);have a:(2*k)/2=k:=(by omega);rw[this,a,Bool.and_self]
theorem pred_even (k:Nat) (_:k≠0):(2*k)&&&(2*k-1)=2*(k&&&(k-1)):=by
 apply kf;intro i;rw[Nat.testBit_and];cases i with
 |zero=>simp
 |succ i=>
  rw[kA,kA,kA];have:(2*k)/2=k:=(by omega);have a:(2*k-1)/2=k-1:=(by omega);have b:(2*(k&&&(k-1)))/2=k&&&(k-1):=(by omega);rw[this,a,b,Nat.testBit_and]
theorem size_dbl {k:Nat} (h:k<2^61):size ((2*k:Nat):Int)=size (k:Int):=by
 rw[size_half (s:=((2*k:Nat):Int)) (by unfold qd;omega)];have a:((2*k:Nat):Int)%2=0:=(by omega);have b:((2*k:Nat):Int)/2=(k:Int):=(by omega);rw[a,b];omega
theorem size_odd {k:Nat} (h:k<2^61):size ((2*k+1:Nat):Int)=1+size (k:Int):=by
 rw[size_half (s:=((2*k+1:Nat):Int)) (by unfold qd;omega)];have a:((2*k+1:Nat):Int)%2=1:=(by omega);have b:((2*k+1:Nat):Int)/2=(k:Int):=(by omega);rw[a,b]
theorem pred_nat:∀(n:Nat),n≠0->n<2^62->(n&&&(n-1))<n/\size ((n&&&(n-1):Nat):Int)+1=size (n:Int)
 |n,b,d=>by
  rcases Nat.mod_two_eq_zero_or_one n with e|e
  obtain⟨k,rfl⟩:∃k,n=2*k:=⟨n/2,by omega⟩
  have hk:k≠0:=by omega
  obtain⟨c,a⟩:=pred_nat k hk (by omega)
  rw[pred_even k hk]
  exact⟨by omega,by rw[size_dbl (by omega),size_dbl (by omega)];exact a⟩
  obtain⟨k,rfl⟩:∃k,n=2*k+1:=⟨n/2,by omega⟩
  rw[pred_odd]
  exact⟨by omega,by rw[size_dbl (by omega),size_odd (by omega)];omega⟩
termination_by n=>n
theorem pred {s:Int} (d:qd s) (h:s≠0):qd (gM s (s-1))/\gM s (s-1)<s/\size (gM s (s-1))+1=size s:=by
 obtain⟨n,rfl,a⟩:=nat_of d;have b:n≠0:=(by omega);have e:(n:Int)-1=((n-1:Nat):Int):=(by omega);rw[e,uand_nat (lt63 a) (by omega)];obtain⟨f,c⟩:=pred_nat n b a;exact⟨by unfold qd;omega,by omega,c⟩
end BT
namespace U
def fQ {α:Type} (eq:α->α->Bool) (p:α):List α->List α
 |[]=>[]
 |y::r=>if eq y p=true then fQ eq y r else y::fQ eq y r
def bU {α:Type} (eq:α->α->Bool):List α->List α
 |[]=>[]
 |x::r=>x::fQ eq x r
def jcQ {α:Type} (eq:α->α->Bool) (l:List α) (i:Nat):Prop:=1<=i/\i<=l.length/\bU eq (l.take i)=l.take i
def oT {α:Type} (eq:α->α->Bool) (l:List α) (n:Nat):Int:=((bU eq (l.take n)).length:Int)
def PL {α:Type} (eq:α->α->Bool) (l:List α) (i k:Nat) (r:List α):Prop:=1<=k/\i+k<=l.length/\r.length=l.length/\bU eq (l.take (i+k))=r.take (bU eq (l.take (i+k))).length/\r.drop (i+k-1)=l.drop (i+k-1)/\(bU eq (l.take (i+k))).length<i+k
end U
namespace L
theorem nodup_len {α:Type}:∀(a b:List α),a.Nodup->(∀x∈a,x∈b)->a.length<=b.length
 |[],_,_,_=>by simp
 |x::a,b,hn,h=>by
  obtain⟨e,f,rfl⟩:=List.append_of_mem (h x (by simp))
  rw[zr] at hn
  have:=nodup_len a (e++f) hn.2 (fun y d=>by
   have:=h y (by simp[d])
   rw[jr,jj] at this
   rw[jr]
   rcases this with c|c|c
   exact .inl c
   subst c;exact absurd d hn.1
   exact .inr c)
  simp at this⊢
  omega
theorem F3 {α:Type} [DecidableEq α]:∀{a b:List α},a.Nodup->b.Nodup->(∀n,n∈a↔n∈b)->a.Perm b
 |[],b,_,_,h=>by
  have:b=[]:=by
   cases b with
   |nil=>rfl
   |cons x r=>exact absurd ((h x).2 (by simp)) (by simp)
  rw[this]
 |x::r,b,ha,hb,h=>by
  have i:x∈b:=(h x).1 (by simp);have f:=List.perm_cons_erase i;refine(List.Perm.cons x (F3 (zr.1 ha).2 (hb.erase x) (fun n=> ?_))).trans f.symm;rw[hb.mem_erase_iff];constructor;intro c;exact⟨fun e=>by subst e;exact(zr.1 ha).1 c,(h n).1 (jl _ c)⟩;rintro⟨d,c⟩;rcases jj.1 ((h n).2 c) with e|g;exact absurd e d;exact g
theorem nodup_inj {α β:Type} {f:α->β}:∀{l:List α},(l.map f).Nodup->∀{x y:α},x∈l->y∈l->f x=f y->x=y
 |[],_,_,_,h,_,_=>by simp at h
 |a::r,hn,x,y,hx,hy,e=>by
  simp only[zx,zr] at hn
  rcases jj.1 hx with rfl|c
  rcases jj.1 hy with rfl|b
  rfl
  exact absurd (j6.2 ⟨y,b,e.symm⟩) hn.1
  rcases jj.1 hy with rfl|b
  exact absurd (j6.2 ⟨x,c,e⟩) hn.1
  exact nodup_inj hn.2 c b e
theorem nth_take {α:Type} [Inhabited α] {l:List α} {i n:Nat} (h:i<n):nth (l.take n) i=nth l i:=by
 unfold nth;rw[zc,zc,jQ h]
theorem nth_drop {α:Type} [Inhabited α] {l r:List α} {a n:Nat} (h:l.drop a=r.drop a) (b:a<=n):nth l n=nth r n:=by
 have e:=jE (fun x=>x[n-a]?) h;simp only[zh] at e;rw[show a+(n-a)=n by omega] at e;unfold nth;rw[zc,zc,e]
theorem nth_map {α β:Type} [Inhabited α] [Inhabited β] {f:α->β} {l:List α} {i:Nat} (h:i<l.length):nth (l.map f) i=f (nth l i):=by
 rw[qI (by simpa using h),qI h];simp
theorem br {α:Type} [Inhabited α] {l:List α} {i j:Nat} {x:α} (h:i<l.length):nth (l.set i x) j=if i=j then x else nth l j:=by
 unfold nth;rw[zc,zc,kr]
 split
 rename_i e;subst e;simp[h];rfl
theorem BC {α:Type} [Inhabited α] {n i:Nat} {x:α} (h:i<n):nth (List.replicate n x) i=x:=by
 unfold nth;rw[zc,kD,je h];rfl
theorem ext_nth {α:Type} [Inhabited α] {a b:List α} (h:a.length=b.length) (d:∀i,i<a.length->nth a i=nth b i):a=b:=by
 apply List.ext_getElem h;intro i c e;rw[<-qI c,<-qI e];exact d i c
theorem range_map_nth {α:Type} [Inhabited α] (l:List α):(List.range l.length).map (nth l)=l:=by
 apply ext_nth;simp;intro i hi;rw[nth_map (by simpa using hi)];congr 1;rw[qI (by simpa using hi)];simp
section
variable {α:Type} [Inhabited α] {eq:α->α->Bool}
theorem compT_snoc (y:α):∀(r:List α) (p:α),fQ eq p (r++[y])=fQ eq p r++(if eq y (nth (p::r) r.length)=true then[] else[y])
 |[],p=>rfl
 |z::r,p=>by
  have e:nth (p::z::r) (z::r).length=nth (z::r) r.length:=rfl
  rw[e]
  simp only[j0,fQ]
  split
  exact compT_snoc y r z
  rw[compT_snoc y r z];rfl
theorem comp_snoc (y:α) {l:List α} (h:l≠[]):bU eq (l++[y])=bU eq l++(if eq y (nth l (l.length-1))=true then[] else[y]):=by
 cases l with
 |nil=>exact absurd rfl h
 |cons x r=>
  show x::fQ eq x (r++[y])=_;rw[compT_snoc];have:(x::r).length-1=r.length:=(by simp);rw[this];rfl
theorem comp_take {l:List α} {n:Nat} (b:1<=n) (a:n<l.length):bU eq (l.take (n+1))=bU eq (l.take n)++(if eq (nth l n) (nth l (n-1))=true then[] else[nth l n]):=by
 rw[L.wO a,comp_snoc];have e:(l.take n).length-1=n-1:=(by rw[jT];omega);rw[e,nth_take (by omega)];intro e;have:=jE List.length e;rw[jT,zq] at this;omega
end
theorem comp_short {α:Type} {eq:α->α->Bool} {l:List α} (h:l.length<2):bU eq l=l:=by
 match l,h with
 |[],_=>rfl
 |[x],_=>rfl
theorem comp_len {α:Type} {eq:α->α->Bool} (l:List α):(bU eq l).length<=l.length:=by
 have:∀(r:List α) (p:α),(fQ eq p r).length<=r.length:=by
  intro r
  induction r with
  |nil=>intro p;simp[fQ]
  |cons y r a=>
   intro p;unfold fQ
   split
   have:=a y;simp;omega;have:=a y;simp;omega
 cases l with
 |nil=>simp[bU]
 |cons x r=>have:=this r x;simp[bU];omega
theorem inv9_next {α:Type} [Inhabited α] {eq:α->α->Bool} {l r:List α} {i k:Nat} (hi:1<=i) (h:PL eq l i k r) (g:i+k<l.length):
 (eq (nth r (i+k)) (nth r (i+k-1))=false->oT eq l (i+(k+1))=oT eq l (i+k)+1/\PL eq l i (k+1) (r.set (oT eq l (i+k)).toNat (nth r (i+k))))/\
 (eq (nth r (i+k)) (nth r (i+k-1))=true->oT eq l (i+(k+1))=oT eq l (i+k)/\PL eq l i (k+1) r):=by
 obtain⟨s,t,j,d,e,p⟩:=h;have o:nth r (i+k)=nth l (i+k):=nth_drop e (by omega);have e2:nth r (i+k-1)=nth l (i+k-1):=nth_drop e (by omega);have a:=comp_take (eq:=eq) (l:=l) (n:=i+k) (by omega) g;rw[show i+k+1=i+(k+1) by omega] at a;have m:r.drop (i+k)=l.drop (i+k):=by
  have:=jE (List.drop 1) e;rw[List.drop_drop,List.drop_drop,show i+k-1+1=i+k by omega] at this;exact this
 rw[o,e2];obtain⟨c,b⟩:∃c,c=bU eq (l.take (i+k)):=⟨_,rfl⟩;rw[<-b] at a d p;have q:(oT eq l (i+k))=(c.length:Int):=(by unfold oT;rw[<-b]);rw[q];refine⟨fun f=> ?_,fun f=> ?_⟩;rw[jd (by rw[f];simp)] at a;refine⟨by unfold oT;rw[a];simp,by omega,by omega,by simpa using j,?_,?_,?_⟩;rw[a];simp only[jw,jL,jY,zq];rw[List.take_add_one,List.getElem?_set_self (by omega)];rw[List.take_set_of_le (by omega),<-d];rfl;rw[show i+(k+1)-1=i+k by omega];simp only[jw];rw[List.drop_set_of_lt (by omega)];exact m;rw[a];simp;omega;rw[je f,j7] at a;refine⟨by unfold oT;rw[a],by omega,by omega,j,?_,?_,?_⟩;rw[a];exact d;rw[show i+(k+1)-1=i+k by omega];exact m;rw[a];omega
theorem compT_sub {α:Type} {eq:α->α->Bool}:∀(r:List α) (p x:α),x∈fQ eq p r->x∈r
 |[],_,_,h=>by simp[fQ] at h
 |y::r,p,x,h=>by
  unfold fQ at h
  split at h
  exact jl _ (compT_sub r y x h)
  rcases jj.1 h with rfl|h
  simp
  exact jl _ (compT_sub r y x h)
theorem comp_sub {α:Type} {eq:α->α->Bool} {l:List α} {x:α} (h:x∈bU eq l):x∈l:=by
 cases l with
 |nil=>simp[bU] at h
 |cons y r=>
  unfold bU at h;rcases jj.1 h with rfl|h;simp;exact jl _ (compT_sub r y x h)
theorem compT_mem {α:Type} [DecidableEq α]:∀(r:List α) (p x:α),x∈r->x=p\/x∈fQ (fun a b=>decide (a=b)) p r
 |y::r,p,x,h=>by
  unfold fQ
  rcases jj.1 h with rfl|h
  by_cases e:x=p
  exact .inl e
  rw[jd (by simpa using e)];right;simp
  rcases compT_mem r y x h with rfl|c
  by_cases e:x=p
  exact .inl e
  rw[jd (by simpa using e)];right;simp
  right
  split
  exact c
  exact jl _ c
theorem comp_mem {α:Type} [DecidableEq α] {l:List α} {x:α}:x∈bU (fun a b=>decide (a=b)) l↔x∈l:=by
 refine⟨comp_sub,fun h=> ?_⟩;cases l with
 |nil=>simp at h
 |cons y r=>
  unfold bU;rcases jj.1 h with rfl|h;simp;rcases compT_mem r y x h with rfl|c;simp;exact jl _ c
theorem comp_asc {α:Type} [DecidableEq α] {lt:α->α->Bool}:∀{l:List α},yg lt l->R5 lt l->(bU (fun a b=>decide (a=b)) l).Pairwise (fun a b=>lt a b=true):=by
 have i:∀(r:List α) (p:α),yg lt (p::r)->R5 lt (p::r)->(p::fQ (fun a b=>decide (a=b)) p r).Pairwise (fun a b=>lt a b=true):=by
  intro r
  induction r with
  |nil=>intro p _ _;exact List.pairwise_singleton _ _
  |cons y r n=>
   intro p f j;have d:=zA.1 j;have k:yg lt (y::r):=f.sub (fun z c=>jl _ c);have hi:=n y k d.2;unfold fQ;by_cases e:y=p;rw[je (by simpa using e)];subst e;exact hi;rw[jd (by simpa using e)];refine zA.2 ⟨fun z c=> ?_,hi⟩;have g:lt p y=true:=by
    cases h:lt p y with
    |true=>rfl
    |false=>exact absurd (f.total p y (by simp) (by simp) h (d.1 y (by simp))).symm e
   rcases jj.1 c with rfl|c;exact g;have m:=compT_sub r y z c;exact f.trans p y z (by simp) (by simp) (by simp[m]) g ((zA.1 hi).1 z c)
 intro l f j;cases l with
 |nil=>exact List.Pairwise.nil
 |cons p r=>exact i r p f j
theorem asc_nodup {α:Type} {lt:α->α->Bool} {l:List α} (hi:∀x,lt x x=false) (h:l.Pairwise (fun a b=>lt a b=true)):l.Nodup:=
 h.imp (fun{a b} h e=>by subst e;rw[hi] at h;cases h)
theorem filter_take {α:Type} [Inhabited α] {p:α->Bool} {l:List α} {i:Nat} (h:i<l.length):(l.take (i+1)).filter p=(l.take i).filter p++(if p (nth l i)=true then[nth l i] else[]):=by
 rw[wO h,kW];congr 1;by_cases e:p (nth l i)=true<;>simp[e]
theorem yj {p:Nat->Bool} {n:Nat}:(List.range (n+1)).filter p=(List.range n).filter p++(if p n=true then[n] else[]):=by
 rw[zf,kW];congr 1;by_cases e:p n=true<;>simp[e]
end L
end Go.X
namespace Go.X
open U
abbrev tSp:Ty:= .st [.int,.int]
abbrev tPe:Ty:= .st [.slice .int,.int,.int,.slice .int,.bool,.int]
abbrev tLw:Ty:= .st [.int,.int,.bool]
abbrev tCr:Ty:= .st [.int,.slice tPe,.slice tLw]
abbrev tJb:Ty:= .st [.int,.int,.int,.int,.int,.int]
abbrev tBk:Ty:= .st [tJb,.int,.int,.int]
abbrev tSh:Ty:= .st [.int,.int,.int,.int,.int]
abbrev tDy:Ty:= .st [tCr,.slice (.slice tSp),.slice tBk,.int,.int,.slice tSh]
abbrev SpD:Type:=Int×Int×Unit
abbrev PeD:Type:=List Int×Int×Int×List Int×Bool×Int×Unit
abbrev LwD:Type:=Int×Int×Bool×Unit
abbrev CrD:Type:=Int×List PeD×List LwD×Unit
abbrev JbD:Type:=Int×Int×Int×Int×Int×Int×Unit
abbrev BkD:Type:=JbD×Int×Int×Int×Unit
abbrev ShD:Type:=Int×Int×Int×Int×Int×Unit
abbrev DyD:Type:=CrD×List (List SpD)×List BkD×Int×Int×List ShD×Unit
namespace U
def lo (s:SpD):Int:=s.1
def hi (s:SpD):Int:=s.2.1
def wa (n a b:Int):Bool:=decide (a<=n)&&decide (n<=b)
def lv (p:PeD):List Int:=p.1
def fd (p:PeD):Int:=p.2.1
def cl (p:PeD):Int:=p.2.2.1
def vj (p:PeD):List Int:=p.2.2.2.1
def jcR (p:PeD):Bool:=p.2.2.2.2.1
def fe (p:PeD):Int:=p.2.2.2.2.2.1
def Uu (l:LwD):Int:=l.1
def jcS (l:LwD):Int:=l.2.1
def jey (l:LwD):Bool:=l.2.2.1
def la (c:CrD):Int:=c.1
def wj (c:CrD):List PeD:=c.2.1
def yX (c:CrD):List LwD:=c.2.2.1
def Mw (j:JbD):Int:=j.1
def G8 (j:JbD):Int:=j.2.1
def Yh (j:JbD):Int:=j.2.2.1
def PM (j:JbD):Int:=j.2.2.2.1
def eE (j:JbD):Int:=j.2.2.2.2.1
def jad (j:JbD):Int:=j.2.2.2.2.2.1
def gL (b:BkD):JbD:=b.1
def Uf (b:BkD):Int:=b.2.1
def wJ (b:BkD):Int:=b.2.2.1
def gm (b:BkD):Int:=b.2.2.2.1
def gA (s:ShD):Int:=s.1
def EG (s:ShD):Int:=s.2.1
def X1 (s:ShD):Int:=s.2.2.1
def lV (s:ShD):Int:=s.2.2.2.1
def ar (s:ShD):Int:=s.2.2.2.2.1
def wt (d:DyD):CrD:=d.1
def qa (d:DyD):List (List SpD):=d.2.1
def wq (d:DyD):List BkD:=d.2.2.1
def A5 (d:DyD):Int:=d.2.2.2.1
def jae (d:DyD):Int:=d.2.2.2.2.1
def qc (d:DyD):List ShD:=d.2.2.2.2.2.1
def fR (L:Int) (p:PeD):Bool:=decide (((lv p).length:Int)=L/\0<=fd p/\fd p<=255/\0<=cl p/\cl p<=255/\(vj p).length<=10/\0<=fe p/\fe p<=1000)&&((lv p).all (fun n=>wa n 0 5)&&(vj p).all (fun n=>wa n 0 99))
def fS (l:LwD):Bool:=wa (Uu l) 1 5&&wa (jcS l) 1 8
def wu (c:CrD):Bool:=decide (2<=la c/\la c<=5/\(wj c).length<=8/\(yX c).length=4)&&((wj c).all (fR (la c))&&(yX c).all fS)
def qb (c:CrD) (j:JbD):Bool:=decide (0<=Mw j/\Mw j<=la c-1/\0<=G8 j/\G8 j<=la c-1/\Mw j≠G8 j/\0<=Yh j/\Yh j<=99/\0<=PM j/\PM j<=7/\0<=eE j/\eE j<=3/\1<=jad j/\jad j<=8)
def vH (c:CrD) (j:JbD):Int:=if wu c=false then 30 else if qb c j=false then 31 else 0
def tM (s:SpD):Bool:=decide (0<=lo s/\lo s<=hi s/\hi s<=300)
def cR (n:Nat) (r:List SpD):Bool:=decide (r.length=n)&&r.all tM
def nc (n:Nat) (b:BkD):Bool:=decide (0<=Uf b/\Uf b<=(n:Int)-1/\0<=wJ b/\wJ b<gm b/\gm b<=1440)
def nf (nb a:Nat) (s:ShD):Bool:=decide (0<=gA s/\gA s<=99/\0<=EG s/\EG s<=9999/\1<=X1 s/\X1 s<=2/\0<=lV s/\lV s<=(nb:Int)-1/\0<=ar s/\ar s<=(a:Int)-1)
def qD (d:DyD):Bool:=decide ((wq d).length<=4/\1<=(qa d).length/\(qa d).length<=5/\0<=A5 d/\A5 d<=300/\0<=jae d/\jae d<=1440/\(qc d).length<=30)&&
 ((qa d).all (cR (qa d).length)&&((wq d).all (nc (qa d).length)&&(qc d).all (nf (wq d).length (wj (wt d)).length)))
def Er (a b:ShD):Bool:=decide (gA a=gA b)&& !decide (a=b)
def Bv (l:List ShD) (i:Nat):Bool:=(l.take i).any (Er (nth l i))
def aC (l:List ShD) (n:Nat):Bool:=(List.range n).any (Bv l)
def b8 (l:List ShD):Bool:=aC l l.length
def I8 (d:DyD):Bool:=(wq d).all (fun b=>qb (wt d) (gL b))
def gN (d:DyD):Int:=if wu (wt d)=false then 30 else if I8 d=false then 31 else if qD d=false then 50 else if b8 (qc d)=true then 51 else 0
def ng (l:List ShD) (i:Nat):Bool:= !((l.take i).any (fun x=>decide (x=nth l i)))
def cS (l:List ShD) (n m:Nat):List ShD:=((List.range n).filter (fun i=>decide (gA (nth l i)=(m:Int))&&ng l i)).map (nth l)
def vS (l:List ShD) (n:Nat):List ShD:=(List.range n).flatMap (cS l l.length)
def wg (l:List ShD):List ShD:=vS l 100
def cT (p:PeD) (a:Int):Bool:=(vj p).any (fun t=>decide (t=a))
def qf (s n:Int):Bool:=decide (fZ (s/2^n.toNat) 1=1)
def qN (c:CrD) (j:JbD) (p:Int):Bool:= !(cT (nth (wj c) p.toNat) (Yh j))&&qf (fd (nth (wj c) p.toNat)) (PM j)&&qf (cl (nth (wj c) p.toNat)) (eE j)
def bk (d:DyD) (b:Int):BkD:=nth (wq d) b.toNat
def PN (d:DyD) (a b:Int):Int:=hi (nth (nth (qa d) (Uf (bk d a)).toNat) (Uf (bk d b)).toNat)
def aq (d:DyD) (a b:Int):Bool:=decide (wJ (bk d a)<wJ (bk d b)\/(wJ (bk d a)=wJ (bk d b)/\a<b))
def bL (d:DyD) (a b:Int):Int:=wJ (bk d b)-gm (bk d a)-A5 d-PN d a b
def w9 (d:DyD) (a b:Int):Bool:=if aq d b a=true then decide (0<=bL d b a) else decide (0<=bL d a b)
def I9 (d:DyD) (l:List Int):Int:=(l.map (fun b=>gm (bk d b)-wJ (bk d b))).foldl (·+·) 0
def jaX (d:DyD) (l:List Int):Bool:=(List.range l.length).all (fun i=>(l.take i).all (fun b=>w9 d (nth l i) b))
def gx (d:DyD) (p:Int) (l:List Int):Bool:=l.all (fun b=>qN (wt d) (gL (bk d b)) p)&&(jaX d l&&decide (I9 d l<=jae d))
def vd (a b:ShD):Bool:=decide (EG b<EG a\/(EG a=EG b/\gA b<gA a))
def Bw (l:List ShD) (s:ShD):Bool:=decide (X1 s=1)&& !(l.any (fun t=>decide (lV t=lV s)&&decide (ar t=ar s)&&vd t s))
def jcT (a b:ShD):Bool:=vd b a
def oC (t:List Int) (p:Int) (n:Nat):List Int:=((List.range n).filter (fun b=>qf (nth t b) p)).map (fun(b:Nat)=>(b:Int))
def on (t:List Int) (p:Int):List Int:=oC t p t.length
def cy (d:DyD) (x:List Int×List Int) (s:ShD):List Int×List Int:=
 if gx d (ar s) (on x.1 (ar s)++[lV s])=true then(x.1.set (lV s).toNat (nth x.1 (lV s).toNat+2^(ar s).toNat),x.2) else(x.1,x.2++[gA s])
def lu (c:CrD) (t:Int) (d a b:Int):Bool:=(List.range (wj c).length).any (fun i=>qf t (i:Int)&&decide (d<=nth (lv (nth (wj c) i)) a.toNat)&&decide (d<=nth (lv (nth (wj c) i)) b.toNat))
def dp (c:CrD) (j:JbD):LwD:=nth (yX c) (eE j).toNat
end U
inductive Rch (J:Nat->Nat->Bool) (n s:Nat):Nat->Prop where
 |base:Rch J n s s
 |step {a b:Nat}:Rch J n s a->b<n->J a b=true->Rch J n s b
theorem Rch.lt {J:Nat->Nat->Bool} {n s t:Nat} (a:s<n) (h:Rch J n s t):t<n:=by
 cases h with
 |base=>exact a
 |step _ h _=>exact h
theorem Rch.trans {J:Nat->Nat->Bool} {n s t u:Nat} (a:Rch J n s t) (b:Rch J n t u):Rch J n s u:=by
 induction b with
 |base=>exact a
 |step _ c d e=>exact .step e c d
theorem Rch.symm {J:Nat->Nat->Bool} {n s t:Nat} (c:∀a b,J a b=J b a) (f:s<n) (h:Rch J n s t):Rch J n t s:=by
 induction h with
 |base=>exact .base
 |step d i e g=>
  rename_i a b;have:Rch J n b a:= .step .base (d.lt f) (by rw[c];exact e);exact this.trans g
theorem Rch.closed {J:Nat->Nat->Bool} {n s t:Nat} {S:Nat->Prop} (i:s<n) (c:S s) (f:∀a b,a<n->S a->b<n->J a b=true->S b) (h:Rch J n s t):S t:=by
 induction h with
 |base=>exact c
 |step d e g j=>exact f _ _ (d.lt i) j e g
namespace U
def nU (J:Nat->Nat->Bool) (r a:Nat) (out:List Int) (b:Nat):List Int:=if nth out a=(r:Int)/\nth out b<0/\J a b=true then out.set b ((r:Int)+1) else out
def yF (J:Nat->Nat->Bool) (r a:Nat) (out:List Int) (k:Nat):List Int:=(List.range k).foldl (nU J r a) out
def ya (J:Nat->Nat->Bool) (n r:Nat) (out:List Int) (k:Nat):List Int:=(List.range k).foldl (fun o a=>yF J r a o n) out
def ga (n s:Nat):List Int:=(List.replicate n (-1:Int)).set s 0
def qR (J:Nat->Nat->Bool) (n s k:Nat):List Int:=(List.range k).foldl (fun o r=>ya J n r o n) (ga n s)
def tN (J:Nat->Nat->Bool) (q:Nat) (x:List Int×List Int) (b:Nat):List Int×List Int:=if nth x.1 b<0/\J q b=true then(x.1.set b (nth x.1 q+1),x.2++[(b:Int)]) else x
def tO (J:Nat->Nat->Bool) (q:Nat) (x:List Int×List Int) (k:Nat):List Int×List Int:=(List.range k).foldl (tN J q) x
def aD (J:Nat->Nat->Bool) (n:Nat) (x:List Int×List Int):List Int×List Int:=match x.2 with
 |[]=>x
 |q::_=>((tO J q.toNat x n).1,(tO J q.toNat x n).2.drop 1)
def aP (J:Nat->Nat->Bool) (n s:Nat):Nat->List Int×List Int
 |0=>(ga n s,[(s:Int)])
 |k+1=>aD J n (aP J n s k)
def jef (J:Nat->Nat->Bool) (n s:Nat):List Int:=(aP J n s (n+1)).1
end U
theorem pD (n s:Nat):(ga n s).length=n:=by unfold ga;simp
theorem CW {n s x:Nat} (a:s<n) (b:x<n):nth (ga n s) x=if s=x then 0 else-1:=by
 unfold ga;rw[L.br (by simpa using a),L.BC b]
structure Uq (J:Nat->Nat->Bool) (n s r a b:Nat) (out:List Int):Prop where
 len:out.length=n
 val:∀x,x<n->nth out x= -1\/(0<=nth out x/\nth out x<=(r:Int)+1)
 top:(a=0/\b=0)->∀x,x<n->nth out x<=(r:Int)
 zero:0<=nth out s
 rch:∀x,x<n->0<=nth out x->Rch J n s x
 lev:∀x,x<n->0<nth out x->∃y,y<n/\nth out y=nth out x-1
 cls:∀x y,x<n->y<n->0<=nth out x->(nth out x<(r:Int)\/(nth out x=(r:Int)/\(x<a\/(x=a/\y<b))))->J x y=true->0<=nth out y
theorem VT {J:Nat->Nat->Bool} {n s r a b:Nat} {out:List Int} (_:s<n) (t:a<n) (u:b<n) (h:Uq J n s r a b out):Uq J n s r a (b+1) (nU J r a out b):=by
 unfold nU
 split
 rename_i q;obtain⟨c1,c2,v⟩:=q;have p:b<out.length:=(by rw[h.len];exact u);have c:∀j,nth (out.set b ((r:Int)+1)) j=if b=j then(r:Int)+1 else nth out j:=fun j=>L.br p
 have o:b≠a:=fun e=>by subst e;omega
 refine⟨by simpa using h.len,fun x g=> ?_,fun e=>by omega,?_,fun x g f=> ?_,fun x g f=> ?_,fun x y g k f d l=> ?_⟩;rw[c];split;right;omega;exact h.val x g;rw[c];split;omega;exact h.zero;rw[c] at f
 split at f
 rename_i e;subst e;exact .step (h.rch a t (by omega)) u v;exact h.rch x g f;rw[c] at f⊢
 split at f
 rename_i e;subst e;rw[je rfl];exact⟨a,t,by rw[c,jd o];omega⟩;rename_i e;rw[jd e];obtain⟨y,k,e2⟩:=h.lev x g f;refine⟨y,k,?_⟩;rw[c,jd (fun e=>by subst e;omega)];exact e2;rw[c] at f d⊢
 split
 omega;rename_i z
 split at f
 rename_i e;rw[je e] at d;omega;rename_i e;rw[jd e] at d;refine h.cls x y g k f ?_ l;rcases d with d|⟨d,i|⟨i,w⟩⟩;exact .inl d;exact .inr ⟨d,.inl i⟩;exact .inr ⟨d,.inr ⟨i,by omega⟩⟩;rename_i q;refine⟨h.len,h.val,fun e=>by omega,h.zero,h.rch,h.lev,fun x y g k f d l=> ?_⟩;rcases d with d|⟨d,i|⟨i,w⟩⟩;exact h.cls x y g k f (.inl d) l;exact h.cls x y g k f (.inr ⟨d,.inl i⟩) l;by_cases e:y=b;subst e;subst i;rcases kB (nth out y) 0 with m|m;exact absurd ⟨d,m,l⟩ q;exact m;exact h.cls x y g k f (.inr ⟨d,.inr ⟨i,by omega⟩⟩) l
theorem jaA {J:Nat->Nat->Bool} {n s r a:Nat} {out:List Int} (c:s<n) (b:a<n) (h:Uq J n s r a 0 out):∀k,k<=n->Uq J n s r a k (yF J r a out k)
 |0,_=>h
 |k+1,hk=>by
  have:=VT c b (show k<n by omega) (jaA c b h k (by omega))
  unfold yF at this⊢
  rw[zf,jS];exact this
theorem jbQ {J:Nat->Nat->Bool} {n s r a:Nat} {out:List Int} (_:0<n) (h:Uq J n s r a n out):Uq J n s r (a+1) 0 out:=by
 refine⟨h.len,h.val,fun e=>by omega,h.zero,h.rch,h.lev,fun x y i c d b g=>h.cls x y i c d ?_ g⟩;rcases b with b|⟨b,f|⟨f,j⟩⟩;exact .inl b;by_cases e:x=a;exact .inr ⟨b,.inr ⟨e,c⟩⟩;exact .inr ⟨b,.inl (by omega)⟩;omega
theorem jaB {J:Nat->Nat->Bool} {n s r:Nat} {out:List Int} (a:s<n) (h:Uq J n s r 0 0 out):∀k,k<=n->Uq J n s r k 0 (ya J n r out k)
 |0,_=>h
 |k+1,hk=>by
  have:=jbQ (by omega) (jaA a (show k<n by omega) (jaB a h k (by omega)) n (jk _))
  unfold ya at this⊢
  rw[zf,jS];exact this
theorem jbR {J:Nat->Nat->Bool} {n s r:Nat} {out:List Int} (h:Uq J n s r n 0 out):Uq J n s (r+1) 0 0 out:=by
 refine⟨h.len,fun x a=> ?_,fun _ x a=> ?_,h.zero,h.rch,h.lev,fun x y a i d b g=>h.cls x y a i d ?_ g⟩;rcases h.val x a with e|⟨c,e2⟩;exact .inl e;exact .inr ⟨c,by omega⟩;rcases h.val x a with e|⟨c,e2⟩<;>omega
 rcases b with b|⟨b,f|⟨f,j⟩⟩;by_cases e:nth out x=(r:Int);exact .inr ⟨e,.inl a⟩;exact .inl (by omega);omega;omega
theorem jaC {J:Nat->Nat->Bool} {n s:Nat} (c:s<n):∀k,Uq J n s k 0 0 (qR J n s k)
 |0=>by
  have hi:∀x,x<n->nth (qR J n s 0) x=if s=x then 0 else-1:=fun x a=>CW c a
  refine⟨pD n s,fun x a=> ?_,fun _ x a=> ?_,by rw[hi s c,je rfl];omega,fun x a b=> ?_,fun x a b=> ?_,fun x y a g b f d=> ?_⟩
  rw[hi x a];split<;>simp
  rw[hi x a];split<;>simp
  rw[hi x a] at b
  split at b
  rename_i e;subst e;exact .base
  omega
  rw[hi x a] at b;split at b<;>omega
  omega
 |k+1=>by
  have:=jbR (jaB c (jaC (J:=J) c k) n (jk _))
  unfold qR at this⊢
  rw[zf,jS];exact this
theorem VU {J:Nat->Nat->Bool} {n s r a b:Nat} {out:List Int} (h:Uq J n s r a b out):∀(k:Nat) x,x<n->nth out x=(k:Int)->∀j,j<=k->∃y,y<n/\nth out y=(j:Int)
 |0,x,c,e,j,d=>⟨x,c,by rw[e];omega⟩
 |k+1,x,c,e,j,d=>by
  by_cases f:j=k+1
  exact⟨x,c,by rw[e];omega⟩
  obtain⟨y,g,e2⟩:=h.lev x c (by omega)
  exact VU h k y g (by rw[e2];omega) j (by omega)
theorem jdF {J:Nat->Nat->Bool} {n s x:Nat} (o:s<n) (u:x<n):nth (qR J n s n) x<0↔¬Rch J n s x:=by
 have h:=jaC (J:=J) o n;have i:∀y,y<n->nth (qR J n s n) y<(n:Int):=by
  intro y p;have c:=h.top ⟨rfl,rfl⟩ y p;rcases kB (nth (qR J n s n) y) (n:Int) with l|l;exact l;exfalso;have e:nth (qR J n s n) y=(n:Int):=(by omega);have d:=VU h n y p e;have:=L.nodup_len ((List.range (n+1)).map (fun(j:Nat)=>(j:Int))) (qR J n s n) (List.Pairwise.map _ (fun a b f=>by intro e2;exact f (by omega)) List.nodup_range) (fun z v=>by
   obtain⟨j,g,rfl⟩:=j6.1 v;obtain⟨w,t,q⟩:=d j (by have:=jG.1 g;omega);rw[<-q];exact L.wi (by rw[h.len];exact t))
  rw[h.len] at this;simp at this;omega
 constructor;intro A k;have:=k.closed (S:=fun y=>0<=nth (qR J n s n) y) o h.zero (fun a b m c r g=>h.cls a b m r c (.inl (i a m)) g);have this:0<=nth (qR J n s n) x:=this;omega;intro k;rcases kB (nth (qR J n s n) x) 0 with c|c;exact c;exact absurd (h.rch x u c) k
def J9 (out:List Int):Nat:=out.countP (fun z=>decide (z<0))
theorem HT:∀{out:List Int} {b:Nat} {v:Int},b<out.length->nth out b<0->0<=v->J9 (out.set b v)+1=J9 out
 |[],b,v,h,_,_=>by simp at h
 |z::r,0,v,_,a,h2=>by
  have a:z<0:=a
  unfold J9
  rw[List.set_cons_zero,kh,kh,jd (by simpa using h2),je (by simpa using a)]
 |z::r,b+1,v,h,a,h2=>by
  have:=HT (out:=r) (b:=b) (v:=v) (by simpa using h) a h2
  unfold J9 at this⊢
  rw[List.set_cons_succ,kh,kh]
  omega
structure jeO (J:Nat->Nat->Bool) (n s:Nat) (ex:Nat->Nat->Prop) (x:List Int×List Int):Prop where
 len:x.1.length=n
 low:∀y,y<n->-1<=nth x.1 y/\nth x.1 y<=(n:Int)*2
 zero:0<=nth x.1 s
 rch:∀y,y<n->0<=nth x.1 y->Rch J n s y
 que:∀q,q∈x.2->0<=q/\q<(n:Int)/\0<=nth x.1 q.toNat
 cls:∀y z,y<n->z<n->0<=nth x.1 y->(y:Int)∉x.2\/ex y z->J y z=true->0<=nth x.1 z
def Nw (n:Nat) (x:List Int×List Int):Prop:=∀y,y<n->nth x.1 y+(J9 x.1:Int)<=(n:Int)-1
theorem GK (J:Nat->Nat->Bool) (q:Nat) (x:List Int×List Int) (k:Nat):tO J q x (k+1)=tN J q (tO J q x k) k:=by
 unfold tO;rw[zf,jS];rfl
structure InI (J:Nat->Nat->Bool) (n s q k:Nat) (x0 x:List Int×List Int):Prop where
 i:jeO J n s (fun y z=>y=q/\z<k) x
 le:Nw n x
 mu:J9 x.1+x.2.length=J9 x0.1+x0.2.length
 pre:∃l,x.2=x0.2++l
 keep:∀y,y<n->0<=nth x0.1 y->nth x.1 y=nth x0.1 y
theorem jbS {J:Nat->Nat->Bool} {n s q k:Nat} {x0 x:List Int×List Int} (M:s<n) (p:q<n) (w:0<=nth x0.1 q) (hk:k<n) (h:InI J n s q k x0 x):InI J n s q (k+1) x0 (tN J q x k):=by
 have G:nth x.1 q=nth x0.1 q:=h.keep q p w;unfold tN
 split
 rename_i t;obtain⟨c1,c2⟩:=t;have m:k<x.1.length:=(by rw[h.i.len];exact hk);have b:∀j,nth (x.1.set k (nth x.1 q+1)) j=if k=j then nth x.1 q+1 else nth x.1 j:=fun j=>L.br m
 have E:=HT (v:=nth x.1 q+1) m c1 (by omega);have F:=h.le q p;have u:k≠q:=fun e=>by subst e;omega
 obtain⟨l,C⟩:=h.pre;refine⟨⟨by simpa using h.i.len,fun y d=> ?_,?_,fun y d c=> ?_,fun z f=> ?_,fun y z d f c a g=> ?_⟩,fun y d=> ?_,?_,⟨l++[(k:Int)],by simp only[C,jM]⟩,fun y d c=> ?_⟩;simp only;rw[b];split;have:=h.i.low q p;omega;exact h.i.low y d;simp only;rw[b];split;omega;exact h.i.zero;simp only at c⊢;rw[b] at c
 split at c
 rename_i e;subst e;exact .step (h.i.rch q p (by omega)) hk c2;exact h.i.rch y d c;simp only at f⊢;rcases jr.1 f with f|f;obtain⟨H,I,K⟩:=h.i.que z f;refine⟨H,I,?_⟩;rw[b];split;omega;exact K;simp at f;subst f;refine⟨by omega,by omega,?_⟩;rw[jw,b,je rfl];omega;simp only at c a⊢;rw[b] at c⊢
 split
 omega;rename_i B;by_cases e:k=y;subst e;rcases a with a|⟨a,_⟩;exact absurd (jg _ (by simp)) a;exact absurd a u;rw[jd e] at c;refine h.i.cls y z d f c ?_ g;rcases a with a|⟨o,A⟩;exact .inl (fun D=>a (jh _ D));exact .inr ⟨o,by omega⟩;simp only;rw[b];split;omega;have:=h.le y d;omega;have:=h.mu;simp only[jL,jY,zq];omega;have:=h.keep y d c;simp only;rw[b,jd (fun e=>by subst e;omega)];exact this;rename_i t;refine⟨⟨h.i.len,h.i.low,h.i.zero,h.i.rch,h.i.que,fun y z d f c a g=> ?_⟩,h.le,h.mu,h.pre,h.keep⟩;rcases a with a|⟨o,A⟩;exact h.i.cls y z d f c (.inl a) g;by_cases e:z=k;subst e;subst o;rcases kB (nth x.1 z) 0 with r|r;exact absurd ⟨r,g⟩ t;exact r;exact h.i.cls y z d f c (.inr ⟨o,by omega⟩) g
theorem VV {J:Nat->Nat->Bool} {n s q:Nat} {x:List Int×List Int} (e:s<n) (d:q<n) (b:0<=nth x.1 q) (hi:jeO J n s (fun _ _=>False) x) (a:Nw n x):∀k,k<=n->InI J n s q k x (tO J q x k)
 |0,_=>⟨⟨hi.len,hi.low,hi.zero,hi.rch,hi.que,fun y z i j f c g=>hi.cls y z i j f (by rcases c with h|⟨_,h⟩;exact .inl h;omega) g⟩,a,rfl,⟨[],by simp[tO]⟩,fun _ _ _=>rfl⟩
 |k+1,hk=>by rw[GK];exact jbS e d b (by omega) (VV e d b hi a k (by omega))
structure jc9 (J:Nat->Nat->Bool) (n s:Nat) (x:List Int×List Int):Prop where
 i:jeO J n s (fun _ _=>False) x
 le:Nw n x
theorem Y4 {J:Nat->Nat->Bool} {n s:Nat} {x:List Int×List Int} (k:s<n) (h:jc9 J n s x):jc9 J n s (aD J n x)/\(x.2≠[]->J9 (aD J n x).1+(aD J n x).2.length+1=J9 x.1+x.2.length):=by
 obtain⟨st,o⟩:=x;cases o with
 |nil=>exact⟨h,fun h=>absurd rfl h⟩
 |cons q r=>
  obtain⟨p,t,m⟩:=h.i.que q (by simp);have hi:=VV k (q:=q.toNat) (by omega) m h.i h.le n (jk _);obtain⟨l,d⟩:=hi.pre;have e2:(aD J n (st,q::r))=((tO J q.toNat (st,q::r) n).1,r++l):=by
   show((tO J q.toNat (st,q::r) n).1,(tO J q.toNat (st,q::r) n).2.drop 1)=_;rw[d];rfl
  rw[e2];have b:=hi.mu;rw[d] at b;refine⟨⟨⟨hi.i.len,hi.i.low,hi.i.zero,hi.i.rch,fun z c=>hi.i.que z (by rw[d];simp only at c⊢;exact jl _ c),fun y z j c f a g=> ?_⟩,hi.le⟩,fun _=> ?_⟩;rcases a with a|a;by_cases e:y=q.toNat;exact hi.i.cls y z j c f (.inr ⟨e,c⟩) g;refine hi.i.cls y z j c f (.inl ?_) g;rw[d];intro b;rcases jj.1 b with e2|b;omega;exact a b;exact a.elim;simp only[j0,jY] at b⊢;omega
theorem QH {J:Nat->Nat->Bool} {n s:Nat} (f:s<n):jc9 J n s (aP J n s 0)/\J9 (aP J n s 0).1+(aP J n s 0).2.length=n:=by
 have hi:∀x,x<n->nth (ga n s) x=if s=x then 0 else-1:=fun x i=>CW f i
 have h:J9 (ga n s)+1=n:=by
  have:=HT (out:=List.replicate n (-1:Int)) (b:=s) (v:=0) (by simpa using f) (by rw[L.BC f];decide) (by decide);unfold ga;rw[this];unfold J9;rw[List.countP_replicate];simp
 refine⟨⟨⟨pD n s,fun y d=> ?_,?_,fun y d c=> ?_,fun q g=> ?_,fun y z d k c a j=> ?_⟩,fun y d=> ?_⟩,?_⟩;show-1<=nth (ga n s) y/\_;rw[show nth (aP J n s 0).1 y=_ from hi y d,hi y d];split<;>omega
 show 0<=nth (ga n s) s;rw[hi s f,je rfl];omega;have c:0<=nth (ga n s) y:=c;rw[hi y d] at c
 split at c
 rename_i e;subst e;exact .base;omega;have g:q∈[(s:Int)]:=g;simp at g;subst g;refine⟨by omega,by omega,?_⟩;show 0<=nth (ga n s) (s:Int).toNat;rw[jw,hi s f,je rfl];omega;have c:0<=nth (ga n s) y:=c;rw[hi y d] at c
 split at c
 rename_i e;subst e;rcases a with a|a;exact absurd (show(s:Int)∈[(s:Int)] by simp) a;exact a.elim;omega;show nth (ga n s) y+(J9 (ga n s):Int)<=(n:Int)-1;rw[hi y d];split<;>omega
 show J9 (ga n s)+1=n;exact h
theorem CX {J:Nat->Nat->Bool} {n s:Nat} (b:s<n):∀k,jc9 J n s (aP J n s k)/\((aP J n s k).2=[]\/J9 (aP J n s k).1+(aP J n s k).2.length+k=n)
 |0=>⟨(QH b).1,.inr (QH b).2⟩
 |k+1=>by
  obtain⟨d,a⟩:=CX b k
  obtain⟨f,g⟩:=Y4 b d
  refine⟨f,?_⟩
  by_cases e:(aP J n s k).2=[]
  left
  show(aD J n (aP J n s k)).2=[]
  unfold aD
  split
  exact e
  rename_i c;rw[e] at c;cases c
  right
  have:=g e
  rcases a with a|a
  exact absurd a e
  show J9 (aD J n (aP J n s k)).1+(aD J n (aP J n s k)).2.length+(k+1)=n
  omega
theorem jbT {J:Nat->Nat->Bool} {n s:Nat} (a:s<n):(aP J n s (n+1)).2=[]:=by
 rcases(CX (J:=J) a (n+1)).2 with h|h;exact h;omega
theorem Y5 {J:Nat->Nat->Bool} {n s k:Nat} (h:(aP J n s k).2=[]):∀m,k<=m->aP J n s m=aP J n s k:=by
 intro m c
 induction m with
 |zero=>have:k=0:=by omega
        subst this;rfl
 |succ m b=>
  by_cases e:k=m+1;rw[e];have e2:=b (by omega);show aD J n (aP J n s m)=_;rw[e2];unfold aD
  split
  rfl;rename_i a;rw[h] at a;cases a
theorem jdG {J:Nat->Nat->Bool} {n s x:Nat} (e:s<n) (l:x<n):nth (jef J n s) x<0↔¬Rch J n s x:=by
 have h:=(CX (J:=J) e (n+1)).1;have j:=jbT (J:=J) e;constructor;intro m d;have:=d.closed (S:=fun y=>0<=nth (jef J n s) y) e h.i.zero (fun a b f c g k=>h.i.cls a b f g c (.inl (by rw[j];simp)) k);have this:0<=nth (jef J n s) x:=this;omega;intro d;rcases kB (nth (jef J n s) x) 0 with c|c;exact c;exact absurd (h.i.rch x l c) d
theorem jbU {J:Nat->Nat->Bool} {n a b:Nat} (e:∀x y,J x y=J y x) (c:a<n) (d:b<n):nth (qR J n a n) b<0↔nth (jef J n b) a<0:=by
 rw[jdF c d,jdG d c];exact not_congr ⟨fun h=>h.symm e c,fun h=>h.symm e d⟩
namespace U
def yT {α:Type} (p:α->Bool) (l:List α):Int:=match l.findIdx? p with|some i=>(i:Int)|none=> -1
def wc {α:Type} (F:α×Unit->Bool×Unit) (g:α):Bool:=(F (g,())).1
end U
def gfb (t:Ty) (σ:St) (s:Nat):(Ty.st [t]).Data->(Ty.st [.bool]).Data:=gfn [t] [.bool] σ s
theorem vZ:∀(l:List Prop) {k:Prop},wz l->k->asks l k
 |[],_,_,hk=>hk
 |_::r,_,h,hk=>⟨h.1,vZ r h.2 hk⟩
theorem yc {α:Type} [Inhabited α] {l:List α} {p:α->Bool} {i:Nat} (h:i<l.length) (a:∀b:Nat,b<i->p (nth l b)=false) (c:p (nth l i)=true):yT p l=i:=by
 have:l.findIdx? p=some i:=by
  rw[zK];refine⟨h,by rw[<-L.qI h];exact c,fun j d=> ?_⟩;have:=a j d;rw[L.qI (by omega)] at this;simp[this]
 unfold yT;rw[this]
theorem q6 {α:Type} [Inhabited α] {l:List α} {p:α->Bool} {i:Nat} (h:l.length<=i) (a:∀b:Nat,b<i->p (nth l b)=false):yT p l= -1:=by
 have:l.findIdx? p=none:=by
  rw[z7];intro x c;obtain⟨k,hk,rfl⟩:=L.mem_iff.1 c;exact a k (by omega)
 unfold yT;rw[this]
theorem iI {α:Type} (p:α->Bool) (l:List α):decide (0<=yT p l)=l.any p:=by
 rw[jZ];unfold yT;simp only[jp]
 split
 rename_i i e;rw[zK] at e;obtain⟨h,a,_⟩:=e;exact⟨fun _=>za.2 ⟨_,kP h,a⟩,fun _=>by omega⟩;rename_i e;rw[z7] at e;refine⟨fun h=>by omega,fun h=> ?_⟩;obtain⟨x,b,a⟩:=za.1 h;have:=e x b;exact absurd (a.symm.trans this) (by simp)
theorem sG {α:Type} (F:α×Unit->Bool×Unit) (l:List α):(!l.any (wc fun(x:α×Unit)=>(!wc F x.fst,())))=l.all (wc F):=by
 induction l with
 |nil=>rfl
 |cons a r b=>
  simp only[List.any_cons,List.all_cons,Bool.not_or,b];have:(!wc (fun(x:α×Unit)=>(!wc F x.fst,())) a)=wc F a:=by
   show(!(!wc F a))=_;rw[Bool.not_not]
  rw[this]
open Go.Proofs
namespace U
def tP (s n:Int):Bool:=decide (gM (s/2^n.toNat) 1=1)
def jdb (b:Bool):Int:=if b=true then 1 else 0
def Me (c:CrD) (f g:Int->Bool) (p:PeD):Bool:=((((((decide (((lv p).length:Int)=la c)&&(lv p).all f)&&wa (fd p) 0 255)&&wa (cl p) 0 255)&&decide (((vj p).length:Int)<=10))&&(vj p).all g)&&wa (fe p) 0 1000)
end U
def Nx:wS:=⟨[.val .int,.val .int,.val .int],[.bool],false,fun _=>[],fun d=>(wa d.1 d.2.1 d.2.2.1,())⟩
def Ny:Prop:=∀(d:Int×Int×Int×Unit),(decide (d.2.1<=d.1)&&decide (d.1<=d.2.2.1),())=(wa d.1 d.2.1 d.2.2.1,())
def mB:wS:=⟨[.val (.uint .u64),.val .int],[.bool],false,fun d=>[0<=d.2.1,d.2.1<=64],fun d=>(tP d.1 d.2.1,())⟩
def Ka:Prop:=∀(d:Int×Int×Unit),0<=d.2.1->d.2.1<=64->0<=d.2.1/\d.2.1<=64/\(decide (gM (d.1/(2:Int)^d.2.1.toNat) (1:Int)=1),())=(tP d.1 d.2.1,())
def gI:wS:=⟨[.val (.uint .u64)],[.int],false,fun d=>[BT.qd d.1],fun d=>(BT.size d.1,())⟩
def HU:Ann:=fun r=>match r with
 |1=>some fun σ=>{X:=Int×Int,sl:=fun x=>[(0,.dat (.uint .u64) x.1),(2,.dat .int x.2)],ob:=fun _=>[],inv:=fun x=>BT.qd x.1/\x.2+BT.size x.1=BT.size (gd (.uint .u64) σ 0),mu:=fun x=>x.1.toNat}
 |_=>none
def HV:Prop:=∀(d:Int×Unit),BT.qd d.1->(∃(x:Int×Int),((d.1=x.1/\0=x.2/\True)/\True)/\BT.qd x.1/\x.2+BT.size x.1=BT.size d.1)/\∀(x:Int×Int),BT.qd x.1/\x.2+BT.size x.1=BT.size d.1->(decide (x.1≠0)=true->wn (x.2+1)/\0<=x.1-1/\x.1-1<=18446744073709551615/\∃(a:Int×Int),((gM x.1 (x.1-1)=a.1/\x.2+1=a.2/\True)/\True)/\(BT.qd a.1/\a.2+BT.size a.1=BT.size d.1)/\a.1.toNat<x.1.toNat)/\(decide (x.1≠0)=false->(x.2,())=(BT.size d.1,()))
def R6:wS:=⟨[.val .bool],[.int],false,fun _=>[],fun d=>(jdb d.1,())⟩
def R7:Prop:=∀(d:Bool×Unit),(d.1=true->((1:Int),())=(jdb d.1,()))/\(d.1=false->((0:Int),())=(jdb d.1,()))
def pE:wS:=⟨[.val (.slice .int),.fn [.int] [.bool]],[.int],false,fun d=>[∀g∈d.1,wz (d.2.1.pre (g,()))],fun d=>(yT (wc (α:=Int) d.2.1.F) d.1,())⟩
def pF:Ann:=fun r=>match r with
 |2=>some fun σ=>{X:=Nat,sl:=fun i=>[(8,.dat .int (i:Int))],ob:=fun _=>[],inv:=fun i=>i<=(gd (.slice .int) σ 0).length/\∀b:Nat,b<i->wc (gfb .int σ 1) (nth (gd (.slice .int) σ 0) b)=false,mu:=fun i=>(gd (.slice .int) σ 0).length-i}
 |_=>none
def pG:Prop:=∀(d:List Int×FnD [Ty.int] [Ty.bool]×Unit),(∀(g:Int),g∈d.1->wz (d.2.1.1 (g,())))->d.1.length<4611686018427387904->(∃(x:Nat),((0=(x:Int)/\True)/\True)/\x<=d.1.length/\∀(b:Nat),b<x->wc d.2.1.2 (nth d.1 b)=false)/\∀(x:Nat),(x<=d.1.length/\∀(b:Nat),b<x->wc d.2.1.2 (nth d.1 b)=false)->(decide ((x:Int)<d.1.length)=true->0<=(x:Int)/\(x:Int)<d.1.length/\asks (d.2.1.1 (nth d.1 (x:Int).toNat,())) (((d.2.1.2 (nth d.1 (x:Int).toNat,())).1=true->((x:Int),())=(yT (wc d.2.1.2) d.1,()))/\((d.2.1.2 (nth d.1 (x:Int).toNat,())).1=false->wn ((x:Int)+1)/\∃(a:Nat),(((x:Int)+1=(a:Int)/\True)/\True)/\(a<=d.1.length/\∀(b:Nat),b<a->wc d.2.1.2 (nth d.1 b)=false)/\d.1.length-a<d.1.length-x)))/\(decide ((x:Int)<d.1.length)=false->((-1:Int),())=(yT (wc d.2.1.2) d.1,()))
def lB:wS:=⟨[.val (.slice .int),.fn [.int] [.bool]],[.bool],false,fun d=>[∀g∈d.1,wz (d.2.1.pre (g,()))],fun d=>(d.1.any (wc (α:=Int) d.2.1.F),())⟩
def lC:Prop:=∀(d:List Int×FnD [Ty.int] [Ty.bool]×Unit),(∀(g:Int),g∈d.1->wz (d.2.1.1 (g,())))->(∀(g:Int),g∈d.1->wz (d.2.1.1 (g,())))/\(decide (0<=yT (wc d.2.1.2) d.1),())=(d.1.any (wc d.2.1.2),())
def pH:wS:=⟨[.val (.slice tLw),.fn [tLw] [.bool]],[.int],false,fun d=>[∀g∈d.1,wz (d.2.1.pre (g,()))],fun d=>(yT (wc (α:=LwD) d.2.1.F) d.1,())⟩
def pI:Ann:=fun r=>match r with
 |2=>some fun σ=>{X:=Nat,sl:=fun i=>[(8,.dat .int (i:Int))],ob:=fun _=>[],inv:=fun i=>i<=(gd (.slice tLw) σ 0).length/\∀b:Nat,b<i->wc (gfb tLw σ 1) (nth (gd (.slice tLw) σ 0) b)=false,mu:=fun i=>(gd (.slice tLw) σ 0).length-i}
 |_=>none
def pJ:Prop:=∀(d:List LwD×FnD [tLw] [Ty.bool]×Unit),(∀(g:LwD),g∈d.1->wz (d.2.1.1 (g,())))->d.1.length<4611686018427387904->(∃(x:Nat),((0=(x:Int)/\True)/\True)/\x<=d.1.length/\∀(b:Nat),b<x->wc d.2.1.2 (nth d.1 b)=false)/\∀(x:Nat),(x<=d.1.length/\∀(b:Nat),b<x->wc d.2.1.2 (nth d.1 b)=false)->(decide ((x:Int)<d.1.length)=true->0<=(x:Int)/\(x:Int)<d.1.length/\asks (d.2.1.1 (nth d.1 (x:Int).toNat,())) (((d.2.1.2 (nth d.1 (x:Int).toNat,())).1=true->((x:Int),())=(yT (wc d.2.1.2) d.1,()))/\((d.2.1.2 (nth d.1 (x:Int).toNat,())).1=false->wn ((x:Int)+1)/\∃(a:Nat),(((x:Int)+1=(a:Int)/\True)/\True)/\(a<=d.1.length/\∀(b:Nat),b<a->wc d.2.1.2 (nth d.1 b)=false)/\d.1.length-a<d.1.length-x)))/\(decide ((x:Int)<d.1.length)=false->((-1:Int),())=(yT (wc d.2.1.2) d.1,()))
def lD:wS:=⟨[.val (.slice tLw),.fn [tLw] [.bool]],[.bool],false,fun d=>[∀g∈d.1,wz (d.2.1.pre (g,()))],fun d=>(d.1.any (wc (α:=LwD) d.2.1.F),())⟩
def lE:Prop:=∀(d:List LwD×FnD [tLw] [Ty.bool]×Unit),(∀(g:LwD),g∈d.1->wz (d.2.1.1 (g,())))->(∀(g:LwD),g∈d.1->wz (d.2.1.1 (g,())))/\(decide (0<=yT (wc d.2.1.2) d.1),())=(d.1.any (wc d.2.1.2),())
def lF:wS:=⟨[.val (.slice tPe),.fn [tPe] [.bool]],[.int],false,fun d=>[∀g∈d.1,wz (d.2.1.pre (g,()))],fun d=>(yT (wc (α:=PeD) d.2.1.F) d.1,())⟩
def lG:Ann:=fun r=>match r with
 |2=>some fun σ=>{X:=Nat,sl:=fun i=>[(8,.dat .int (i:Int))],ob:=fun _=>[],inv:=fun i=>i<=(gd (.slice tPe) σ 0).length/\∀b:Nat,b<i->wc (gfb tPe σ 1) (nth (gd (.slice tPe) σ 0) b)=false,mu:=fun i=>(gd (.slice tPe) σ 0).length-i}
 |_=>none
def lH:Prop:=∀(d:List PeD×FnD [tPe] [Ty.bool]×Unit),(∀(g:PeD),g∈d.1->wz (d.2.1.1 (g,())))->d.1.length<4611686018427387904->(∃(x:Nat),((0=(x:Int)/\True)/\True)/\x<=d.1.length/\∀(b:Nat),b<x->wc d.2.1.2 (nth d.1 b)=false)/\∀(x:Nat),(x<=d.1.length/\∀(b:Nat),b<x->wc d.2.1.2 (nth d.1 b)=false)->(decide ((x:Int)<d.1.length)=true->0<=(x:Int)/\(x:Int)<d.1.length/\asks (d.2.1.1 (nth d.1 (x:Int).toNat,())) (((d.2.1.2 (nth d.1 (x:Int).toNat,())).1=true->((x:Int),())=(yT (wc d.2.1.2) d.1,()))/\((d.2.1.2 (nth d.1 (x:Int).toNat,())).1=false->wn ((x:Int)+1)/\∃(a:Nat),(((x:Int)+1=(a:Int)/\True)/\True)/\(a<=d.1.length/\∀(b:Nat),b<a->wc d.2.1.2 (nth d.1 b)=false)/\d.1.length-a<d.1.length-x)))/\(decide ((x:Int)<d.1.length)=false->((-1:Int),())=(yT (wc d.2.1.2) d.1,()))
def d6:wS:=⟨[.val (.slice tPe),.fn [tPe] [.bool]],[.bool],false,fun d=>[∀g∈d.1,wz (d.2.1.pre (g,()))],fun d=>(d.1.any (wc (α:=PeD) d.2.1.F),())⟩
def d7:Prop:=∀(d:List PeD×FnD [tPe] [Ty.bool]×Unit),(∀(g:PeD),g∈d.1->wz (d.2.1.1 (g,())))->(∀(g:PeD),g∈d.1->wz (d.2.1.1 (g,())))/\(decide (0<=yT (wc d.2.1.2) d.1),())=(d.1.any (wc d.2.1.2),())
def xX:wS:=⟨[.val .int,.rfn [.int] [.bool]],[.bool],false,fun d=>[wz (d.2.1.pre (d.1,()))],fun d=>(!(wc (α:=Int) d.2.1.F d.1),())⟩
def xY:Prop:=∀(d:Int×FnD [Ty.int] [Ty.bool]×Unit),wz (d.2.1.1 (d.1,()))->asks (d.2.1.1 (d.1,())) ((!(d.2.1.2 (d.1,())).1,())=(!wc d.2.1.2 d.1,()))
def EW:wS:=⟨[.val (.slice .int),.fn [.int] [.bool]],[.bool],false,fun d=>[∀g∈d.1,wz (d.2.1.pre (g,()))],fun d=>(d.1.all (wc (α:=Int) d.2.1.F),())⟩
def EX:Prop:=∀(d:List Int×FnD [Ty.int] [Ty.bool]×Unit),(∀(g:Int),g∈d.1->wz (d.2.1.1 (g,())))->(∀(g:Int),g∈d.1->wz [wz (d.2.1.1 (g,()))])/\(!d.1.any (wc fun(a:Int×Unit)=>(!wc d.2.1.2 a.1,())),())=(d.1.all (wc d.2.1.2),())
def xZ:wS:=⟨[.val tLw,.rfn [tLw] [.bool]],[.bool],false,fun d=>[wz (d.2.1.pre (d.1,()))],fun d=>(!(wc (α:=LwD) d.2.1.F d.1),())⟩
def x7:Prop:=∀(d:LwD×FnD [tLw] [Ty.bool]×Unit),wz (d.2.1.1 (d.1,()))->asks (d.2.1.1 (d.1,())) ((!(d.2.1.2 (d.1,())).1,())=(!wc d.2.1.2 d.1,()))
def EY:wS:=⟨[.val (.slice tLw),.fn [tLw] [.bool]],[.bool],false,fun d=>[∀g∈d.1,wz (d.2.1.pre (g,()))],fun d=>(d.1.all (wc (α:=LwD) d.2.1.F),())⟩
def EZ:Prop:=∀(d:List LwD×FnD [tLw] [Ty.bool]×Unit),(∀(g:LwD),g∈d.1->wz (d.2.1.1 (g,())))->(∀(g:LwD),g∈d.1->wz [wz (d.2.1.1 (g,()))])/\(!d.1.any (wc fun(a:LwD×Unit)=>(!wc d.2.1.2 a.1,())),())=(d.1.all (wc d.2.1.2),())
def pK:wS:=⟨[.val tPe,.rfn [tPe] [.bool]],[.bool],false,fun d=>[wz (d.2.1.pre (d.1,()))],fun d=>(!(wc (α:=PeD) d.2.1.F d.1),())⟩
def pL:Prop:=∀(d:PeD×FnD [tPe] [Ty.bool]×Unit),wz (d.2.1.1 (d.1,()))->asks (d.2.1.1 (d.1,())) ((!(d.2.1.2 (d.1,())).1,())=(!wc d.2.1.2 d.1,()))
def ur:wS:=⟨[.val (.slice tPe),.fn [tPe] [.bool]],[.bool],false,fun d=>[∀g∈d.1,wz (d.2.1.pre (g,()))],fun d=>(d.1.all (wc (α:=PeD) d.2.1.F),())⟩
def ut:Prop:=∀(d:List PeD×FnD [tPe] [Ty.bool]×Unit),(∀(g:PeD),g∈d.1->wz (d.2.1.1 (g,())))->(∀(g:PeD),g∈d.1->wz [wz (d.2.1.1 (g,()))])/\(!d.1.any (wc fun(a:PeD×Unit)=>(!wc d.2.1.2 a.1,())),())=(d.1.all (wc d.2.1.2),())
def Kb:wS:=⟨[.val .int],[.bool],false,fun _=>[],fun d=>(wa d.1 0 5,())⟩
def Kc:Prop:=∀(d:Int×Unit),(wa d.1 (0:Int) (5:Int),())=(wa d.1 (0:Int) (5:Int),())
def Kd:wS:=⟨[.val .int],[.bool],false,fun _=>[],fun d=>(wa d.1 0 99,())⟩
def Ke:Prop:=∀(d:Int×Unit),(wa d.1 (0:Int) (99:Int),())=(wa d.1 (0:Int) (99:Int),())
def Kf:wS:=⟨[.val tPe,.ref tCr,.rfn [.int] [.bool],.rfn [.int] [.bool]],[.bool],false,fun d=>[∀g∈U.lv d.1,wz (d.2.2.1.pre (g,())),∀g∈vj d.1,wz (d.2.2.2.1.pre (g,()))],fun d=>(Me d.2.1 (wc d.2.2.1.F) (wc d.2.2.2.1.F) d.1,())⟩
def Kg:Prop:=∀(d:PeD×CrD×FnD [Ty.int] [Ty.bool]×FnD [Ty.int] [Ty.bool]×Unit),(∀(g:Int),g∈U.lv d.1->wz (d.2.2.1.1 (g,())))->(∀(g:Int),g∈vj d.1->wz (d.2.2.2.1.1 (g,())))->d.1.1.length<4611686018427387904->(decide ((d.1.1.length:Int)=d.2.1.1)=true->∀(g:Int),g∈d.1.1->wz (d.2.2.1.1 (g,())))/\(((decide ((d.1.1.length:Int)=d.2.1.1)&&d.1.1.all (wc d.2.2.1.2)&&wa d.1.2.1 (0:Int) (255:Int)&&wa d.1.2.2.1 (0:Int) (255:Int))=true->d.1.2.2.2.1.length<4611686018427387904)->((decide ((d.1.1.length:Int)=d.2.1.1)&&d.1.1.all (wc d.2.2.1.2)&&wa d.1.2.1 (0:Int) (255:Int)&&wa d.1.2.2.1 (0:Int) (255:Int)&&decide ((d.1.2.2.2.1.length:Int)<=10))=true->∀(g:Int),g∈d.1.2.2.2.1->wz (d.2.2.2.1.1 (g,())))/\(decide ((d.1.1.length:Int)=d.2.1.1)&&d.1.1.all (wc d.2.2.1.2)&&wa d.1.2.1 (0:Int) (255:Int)&&wa d.1.2.2.1 (0:Int) (255:Int)&&decide ((d.1.2.2.2.1.length:Int)<=10)&&d.1.2.2.2.1.all (wc d.2.2.2.1.2)&&wa d.1.q4.2.1 (0:Int) (1000:Int),())=(Me d.2.1 (wc d.2.2.1.2) (wc d.2.2.2.1.2) d.1,()))
def Kh:wS:=⟨[.val tLw],[.bool],false,fun _=>[],fun d=>(fS d.1,())⟩
def Ki:Prop:=∀(d:LwD×Unit),(wa d.1.1 (1:Int) (5:Int)&&wa d.1.2.1 (1:Int) (8:Int),())=(fS d.1,())
def Kj:wS:=⟨[.val .int,.ref tCr],[.bool],false,fun d=>[wn (U.la d.2.1-1)],fun d=>(wa d.1 0 (U.la d.2.1-1),())⟩
def Kk:Prop:=∀(d:Int×CrD×Unit),wn (U.la d.2.1-1)->wn (d.2.1.1-1)/\(wa d.1 (0:Int) (d.2.1.1-1),())=(wa d.1 (0:Int) (U.la d.2.1-1),())
def R8:wS:=⟨[.val tCr,.val tJb],[.int],false,fun _=>[],fun d=>(vH d.1 d.2.1,())⟩
abbrev jjJ (d:CrD×JbD×Unit):=(!wa d.2.1.1 (0:Int) (U.la d.1-1)|| !wa d.2.1.2.1 (0:Int) (U.la d.1-1)||decide (d.2.1.1=d.2.1.2.1)|| !wa d.2.1.2.2.1 (0:Int) (99:Int)|| !wa d.2.1.2.2.2.1 (0:Int) (7:Int)|| !wa d.2.1.q4.1 (0:Int) (3:Int)|| !wa d.2.1.q4.2.1 (1:Int) (8:Int))
abbrev jhN (d:CrD×JbD×Unit):=(8<(d.1.2.1.length:Int))
abbrev jjK:=(wc fun(a:LwD×Unit)=>(fS a.1,()))
def R9:Prop:=∀(d:CrD×JbD×Unit),((!!wa d.1.1 (2:Int) (5:Int))=true->d.1.2.1.length<4611686018427387904)->((!(!wa d.1.1 (2:Int) (5:Int)||decide (jhN d)))=true->∀(g:PeD),g∈d.1.2.1->wz [∀(c:Int),c∈U.lv g->wz [],∀(c:Int),c∈vj g->wz []])/\(((!(!wa d.1.1 (2:Int) (5:Int)||decide (jhN d)|| !d.1.2.1.all (wc fun(b:PeD×Unit)=>(Me d.1 (wc fun(b:Int×Unit)=>(wa b.1 (0:Int) (5:Int),())) (wc fun(b:Int×Unit)=>(wa b.1 (0:Int) (99:Int),())) b.1,()))))=true->d.1.2.2.1.length<4611686018427387904)->((!(!wa d.1.1 (2:Int) (5:Int)||decide (jhN d)|| !d.1.2.1.all (wc fun(a:PeD×Unit)=>(Me d.1 (wc fun(a:Int×Unit)=>(wa a.1 (0:Int) (5:Int),())) (wc fun(a:Int×Unit)=>(wa a.1 (0:Int) (99:Int),())) a.1,()))||decide ((d.1.2.2.1.length:Int)≠4)))=true->∀(g:LwD),g∈d.1.2.2.1->wz [])/\((!wa d.1.1 (2:Int) (5:Int)||decide (jhN d)|| !d.1.2.1.all (wc fun(a:PeD×Unit)=>(Me d.1 (wc fun(a:Int×Unit)=>(wa a.1 (0:Int) (5:Int),())) (wc fun(a:Int×Unit)=>(wa a.1 (0:Int) (99:Int),())) a.1,()))||decide ((d.1.2.2.1.length:Int)≠4)|| !d.1.2.2.1.all jjK)=true->((30:Int),())=(vH d.1 d.2.1,()))/\((!wa d.1.1 (2:Int) (5:Int)||decide (jhN d)|| !d.1.2.1.all (wc fun(a:PeD×Unit)=>(Me d.1 (wc fun(a:Int×Unit)=>(wa a.1 (0:Int) (5:Int),())) (wc fun(a:Int×Unit)=>(wa a.1 (0:Int) (99:Int),())) a.1,()))||decide ((d.1.2.2.1.length:Int)≠4)|| !d.1.2.2.1.all jjK)=false->wn (U.la d.1-1)/\((!!wa d.2.1.1 (0:Int) (U.la d.1-1))=true->wn (U.la d.1-1))/\((jjJ d)=true->((31:Int),())=(vH d.1 d.2.1,()))/\((jjJ d)=false->((0:Int),())=(vH d.1 d.2.1,()))))
theorem Sa:Ny:=by
 intro d;rfl
theorem ae:wZ PR 152 Nx:=wL Sa Tryz.func152 kcN koN
theorem Nz:Ka:=by
 intro d a b;exact⟨a,b,rfl⟩
theorem Kl:wZ PR 235 mB:=wL Nz Tryz.func235 kcN koN
theorem Km:HV:=by
 rintro⟨s,⟨⟩⟩ e;refine⟨⟨(s,0),⟨⟨rfl,rfl,tZ⟩,tZ⟩,e,by simp⟩,?_⟩;rintro⟨x,n⟩ ⟨a,b⟩;have a:BT.qd x:=a;have g:=BT.BB s;have f:=BT.BB x;refine⟨fun h=> ?_,fun h=> ?_⟩;have h:x≠0:=ja h;obtain⟨d,i,j⟩:=BT.pred a h;have c:=a;unfold BT.qd at c;simp only at b⊢;exact⟨iZ6,by omega,by omega,(gM x (x-1),n+1),⟨⟨rfl,rfl,tZ⟩,tZ⟩,⟨d,(by omega:n+1+BT.size (gM x (x-1))=BT.size s)⟩,(by unfold BT.qd at d;omega:(gM x (x-1)).toNat<x.toNat)⟩;have h:x=0:=(by simpa using h);subst h;simp only[BT.size_zero] at b;simp only at b⊢;rw[show n=BT.size s by omega]
theorem HW:wZ PR 214 gI:=vl HU Km Tryz.func214 kcN koN
theorem VW:R7:=by
 rintro⟨b,⟨⟩⟩;exact⟨fun h=>by simp only at h;subst h;rfl,fun h=>by simp only at h;subst h;rfl⟩
theorem Sb:wZ PR 208 R6:=wL VW Tryz.func208 kcN koN
theorem sH:pG:=by
 rintro⟨l,f,⟨⟩⟩ a g;refine⟨⟨0,⟨⟨rfl,tZ⟩,tZ⟩,jm _,fun b c=>by omega⟩,fun i hi=>⟨fun h=> ?_,fun h=> ?_⟩⟩;have h:i<l.length:=(by simpa using h);simp only[jw] at*;refine⟨by omega,by omega,vZ _ (a _ (L.wi h)) ⟨fun c=> ?_,fun c=>⟨iZ6,i+1,⟨⟨by simp,tZ⟩,tZ⟩,⟨by omega,fun b d=> ?_⟩,by omega⟩⟩⟩;rw[yc (p:=wc (α:=Int) f.F) h hi.2 c];by_cases e:b=i;subst e;exact c;exact hi.2 b (by omega);have h:l.length<=i:=(by simpa using h);rw[q6 (p:=wc (α:=Int) f.F) h hi.2]
theorem pM:wZ PR 131 pE:=vl pF sH Tryz.func131 kcN koN
theorem mC:lC:=by
 rintro⟨l,f,⟨⟩⟩ a;refine⟨a,?_⟩;exact jE (·,()) (iI (wc (α:=Int) f.F) l)
theorem y5:wZ PR 84 lB:=wL mC Tryz.func84 (kcC pM kcN) koN
theorem sI:pJ:=by
 rintro⟨l,f,⟨⟩⟩ a g;refine⟨⟨0,⟨⟨rfl,tZ⟩,tZ⟩,jm _,fun b c=>by omega⟩,fun i hi=>⟨fun h=> ?_,fun h=> ?_⟩⟩;have h:i<l.length:=(by simpa using h);simp only[jw] at*;refine⟨by omega,by omega,vZ _ (a _ (L.wi h)) ⟨fun c=> ?_,fun c=>⟨iZ6,i+1,⟨⟨by simp,tZ⟩,tZ⟩,⟨by omega,fun b d=> ?_⟩,by omega⟩⟩⟩;rw[yc (p:=wc (α:=LwD) f.F) h hi.2 c];by_cases e:b=i;subst e;exact c;exact hi.2 b (by omega);have h:l.length<=i:=(by simpa using h);rw[q6 (p:=wc (α:=LwD) f.F) h hi.2]
theorem pN:wZ PR 217 pH:=vl pI sI Tryz.func217 kcN koN
theorem mD:lE:=by
 rintro⟨l,f,⟨⟩⟩ a;refine⟨a,?_⟩;exact jE (·,()) (iI (wc (α:=LwD) f.F) l)
theorem lI:wZ PR 190 lD:=wL mD Tryz.func190 (kcC pN kcN) koN
theorem mE:lH:=by
 rintro⟨l,f,⟨⟩⟩ a g;refine⟨⟨0,⟨⟨rfl,tZ⟩,tZ⟩,jm _,fun b c=>by omega⟩,fun i hi=>⟨fun h=> ?_,fun h=> ?_⟩⟩;have h:i<l.length:=(by simpa using h);simp only[jw] at*;refine⟨by omega,by omega,vZ _ (a _ (L.wi h)) ⟨fun c=> ?_,fun c=>⟨iZ6,i+1,⟨⟨by simp,tZ⟩,tZ⟩,⟨by omega,fun b d=> ?_⟩,by omega⟩⟩⟩;rw[yc (p:=wc (α:=PeD) f.F) h hi.2 c];by_cases e:b=i;subst e;exact c;exact hi.2 b (by omega);have h:l.length<=i:=(by simpa using h);rw[q6 (p:=wc (α:=PeD) f.F) h hi.2]
theorem lJ:wZ PR 216 lF:=vl lG mE Tryz.func216 kcN koN
theorem fi:d7:=by
 rintro⟨l,f,⟨⟩⟩ a;refine⟨a,?_⟩;exact jE (·,()) (iI (wc (α:=PeD) f.F) l)
theorem d8:wZ PR 188 d6:=wL fi Tryz.func188 (kcC lJ kcN) koN
theorem CY:xY:=by
 intro d h;exact vZ _ h rfl
theorem x8:wZ PR 187 xX:=wL CY Tryz.func187 kcN koN
theorem HX:EX:=by
 intro d h;exact⟨fun g a=>⟨h g a,tZ⟩,jE (·,()) (sG d.snd.fst.2 d.fst)⟩
theorem E0:wZ PR 155 EW:=wL HX Tryz.func155 (kcC y5 (kcC x8 kcN)) koN
theorem CZ:x7:=by
 intro d h;exact vZ _ h rfl
theorem x9:wZ PR 191 xZ:=wL CZ Tryz.func191 kcN koN
theorem HY:EZ:=by
 intro d h;exact⟨fun g a=>⟨h g a,tZ⟩,jE (·,()) (sG d.snd.fst.2 d.fst)⟩
theorem E1:wZ PR 159 EY:=wL HY Tryz.func159 (kcC lI (kcC x9 kcN)) koN
theorem sJ:pL:=by
 intro d h;exact vZ _ h rfl
theorem pO:wZ PR 189 pK:=wL sJ Tryz.func189 kcN koN
theorem Aa:ut:=by
 intro d h;exact⟨fun g a=>⟨h g a,tZ⟩,jE (·,()) (sG d.snd.fst.2 d.fst)⟩
theorem uu:wZ PR 158 ur:=wL Aa Tryz.func158 (kcC d8 (kcC pO kcN)) koN
theorem NA:Kc:=fun _=>rfl
theorem Kn:wZ PR 151 Kb:=wL NA Tryz.func151 (kcC ae kcN) koN
theorem NB:Ke:=fun _=>rfl
theorem Ko:wZ PR 153 Kd:=wL NB Tryz.func153 (kcC ae kcN) koN
theorem NC:Kg:=by
 unfold Kg Prod.q4;rintro⟨p,c,f,g,⟨⟩⟩ a b _;exact⟨fun _=>a,fun _=>⟨fun _=>b,rfl⟩⟩
theorem Kp:wZ PR 154 Kf:=wL NC Tryz.func154 (kcC ae (kcC E0 kcN)) koN
theorem ND:Ki:=fun _=>rfl
theorem Kq:wZ PR 156 Kh:=wL ND Tryz.func156 (kcC ae kcN) koN
theorem NE:Kk:=fun _ h=>⟨h,rfl⟩
theorem Kr:wZ PR 157 Kj:=wL NE Tryz.func157 (kcC ae kcN) koN
theorem jbV (c:CrD) (p:PeD):Me c (fun x=>wa x 0 5) (fun x=>wa x 0 99) p=fR (U.la c) p:=by
 rw[jZ];simp only[Me,fR,wa,ji,jp];constructor;rintro⟨⟨⟨⟨⟨⟨e,f⟩,a⟩,b⟩,k⟩,i⟩,d⟩;exact⟨⟨e,a.1,a.2,b.1,b.2,by omega,d.1,d.2⟩,f,i⟩;rintro⟨⟨e,a,g,b,h,k,d,j⟩,f,i⟩;exact⟨⟨⟨⟨⟨⟨e,f⟩,a,g⟩,b,h⟩,by omega⟩,i⟩,d,j⟩
theorem jbW (c:CrD):(((((!wa c.1 2 5||decide (8<((c.2.1.length:Nat):Int)))|| !c.2.1.all (fR (U.la c)))||decide (((c.2.2.1.length:Nat):Int)≠4))|| !c.2.2.1.all fS))= !wu c:=by
 unfold wu;show _= !(decide (2<=c.1/\c.1<=5/\c.2.1.length<=8/\c.2.2.1.length=4)&&(c.2.1.all (fR (U.la c))&&c.2.2.1.all fS));cases c.2.1.all (fR (U.la c))<;>cases c.2.2.1.all fS<;>simp only[wa,Bool.not_true,Bool.not_false,kX,kQ,Bool.and_true,kx,Bool.true_or]
 rw[jZ];simp only[zo,jN,km,jp,jH];omega
theorem jdH (c:CrD) (j:JbD):((((((!wa j.1 0 (U.la c-1)|| !wa j.2.1 0 (U.la c-1))||decide (j.1=j.2.1))|| !wa j.2.2.1 0 99)|| !wa j.2.2.2.1 0 7)|| !wa j.2.2.2.2.1 0 3)|| !wa j.2.2.2.2.2.1 1 8)= !qb c j:=by
 have key:(qb c j=false)↔¬(0<=j.1/\j.1<=U.la c-1/\0<=j.2.1/\j.2.1<=U.la c-1/\j.1≠j.2.1/\0<=j.2.2.1/\j.2.2.1<=99/\0<=j.2.2.2.1/\j.2.2.2.1<=7/\0<=j.2.2.2.2.1/\j.2.2.2.2.1<=3/\1<=j.2.2.2.2.2.1/\j.2.2.2.2.2.1<=8):=by
  unfold qb;exact jH
 rw[jZ,jN,key];simp only[wa,zo,jN,km,jp,jH];omega
theorem VX:R9:=by
 unfold R9 jjK jhN jjJ Prod.q4;rintro⟨c,j,⟨⟩⟩;have f:∀p,wc (fun(x:PeD×Unit)=>(Me c (wc fun(x:Int×Unit)=>(wa x.fst 0 5,())) (wc fun(x:Int×Unit)=>(wa x.fst 0 99,())) x.fst,())) p=fR (U.la c) p:=fun p=>jbV c p
 have e2:(wc fun(x:LwD×Unit)=>(fS x.fst,()))=fS:=rfl;have d:=jbW c;have e:=jdH c j;intro _;refine⟨fun _ g _=>⟨fun _ _=>tZ,fun _ _=>tZ,tZ⟩,fun _=> ?_⟩;simp only at d e⊢;rw[funext f,e2,d,e];refine⟨fun _ _ _=>tZ,fun h=> ?_,fun h=> ?_⟩;have h:wu c=false:=(by simpa using h);unfold vH;rw[je h];have h:wu c=true:=(by simpa using h);have i:2<=U.la c/\U.la c<=5:=by
  unfold wu at h;simp only[ji,jp] at h;exact⟨h.1.1,h.1.2.1⟩
 have b:wn (U.la c-1):=iZ6;refine⟨b,fun _=>b,fun a=> ?_,fun a=> ?_⟩;have a:qb c j=false:=(by simpa using a);unfold vH;rw[jd (by rw[h];simp),je a];have a:qb c j=true:=(by simpa using a);unfold vH;rw[jd (by rw[h];simp),jd (by rw[a];simp)]
theorem GM:wZ PR 115 R8:=wL VX Tryz.func115 (kcC ae (kcC uu (kcC E1 (kcC Kn (kcC Ko (kcC Kp (kcC Kq (kcC Kr kcN)))))))) koN
abbrev tTk:Ty:= .st [tCr,tJb,tLw]
abbrev TkD:Type:=CrD×JbD×LwD×Unit
namespace U
def tk (o:Option TkD):TkD:=wK (Ty.dflt tTk) o
def tc (t:TkD):CrD:=t.1
def tj (t:TkD):JbD:=t.2.1
def tl (t:TkD):LwD:=t.2.2.1
def G9 (c:CrD) (j:JbD):Option TkD:=if vH c j=0 then some (c,j,dp c j,()) else none
def cU (t:TkD):Prop:=wu (tc t)=true/\qb (tc t) (tj t)=true/\tl t=dp (tc t) (tj t)
def Ug (a b c:Bool):Int:=jdb a+2*jdb b+4*jdb c
def yB (t:TkD) (p:PeD):Int:=Ug (cT p (Yh (tj t))) (!qf (fd p) (PM (tj t))) (!qf (cl p) (eE (tj t)))
def tQ (t:TkD) (p:PeD):List (Int×Int):=[(0,jdb (!cT p (Yh (tj t)))),(1,fZ (fd p/2^(PM (tj t)).toNat) 1),(2,fZ (cl p/2^(eE (tj t)).toNat) 1)]
def bM (all left:List (Int×Int)) (out:Int):Prop:=BT.qd out/\left.Nodup/\(∀e∈left,e∈all)/\∀p:Nat,BT.has out p=true↔∃e∈all,e∉left/\e.2=0/\e.1.toNat=p
def gy (t:TkD) (s:Int) (n:Nat):List (Int×PeD×Unit):=((List.range n).filter (fun(i:Nat)=>tP s (i:Int))).map (fun(i:Nat)=>((i:Int),nth (wj (tc t)) i,()))
def xO (t:TkD) (s:Int):List (Int×PeD×Unit):=gy t s (wj (tc t)).length
def jn (t:TkD) (a b:Int) (x:Int×PeD×Unit):Bool:=decide (Uu (tl t)<=min (nth (lv x.2.1) a.toNat) (nth (lv x.2.1) b.toNat))
def nh (t:TkD) (s a b:Int):Bool:=(xO t s).any (jn t a b)
def aF (t:TkD) (a b:Int) (q:List (Int×PeD×Unit)):Bool:=match q.getLast? with|some x=>jn t a b x|none=>false
end U
def C4:wS:=⟨[.val (.slice .int),.val .int],[.int],false,fun _=>[],fun d=>(yT (fun x=>decide (x=d.2.1)) d.1,())⟩
def C6:Ann:=fun r=>match r with
 |2=>some fun σ=>{X:=Nat,sl:=fun i=>[(8,.dat .int (i:Int))],ob:=fun _=>[],inv:=fun i=>i<=(gd (.slice .int) σ 0).length/\∀b:Nat,b<i->decide (nth (gd (.slice .int) σ 0) b=gd .int σ 1)=false,mu:=fun i=>(gd (.slice .int) σ 0).length-i}
 |_=>none
def C7:Prop:=∀(d:List Int×Int×Unit),d.1.length<4611686018427387904->(∃(x:Nat),((0=(x:Int)/\True)/\True)/\x<=d.1.length/\∀(b:Nat),b<x->decide (nth d.1 b=d.2.1)=false)/\∀(x:Nat),(x<=d.1.length/\∀(b:Nat),b<x->decide (nth d.1 b=d.2.1)=false)->(decide ((x:Int)<d.1.length)=true->0<=(x:Int)/\(x:Int)<d.1.length/\(decide (d.2.1=nth d.1 (x:Int).toNat)=true->((x:Int),())=(yT (fun(c:Int)=>decide (c=d.2.1)) d.1,()))/\(decide (d.2.1=nth d.1 (x:Int).toNat)=false->wn ((x:Int)+1)/\∃(a:Nat),(((x:Int)+1=(a:Int)/\True)/\True)/\(a<=d.1.length/\∀(b:Nat),b<a->decide (nth d.1 b=d.2.1)=false)/\d.1.length-a<d.1.length-x))/\(decide ((x:Int)<d.1.length)=false->((-1:Int),())=(yT (fun(c:Int)=>decide (c=d.2.1)) d.1,()))
def sK:wS:=⟨[.val (.slice .int),.val .int],[.bool],false,fun _=>[],fun d=>(d.1.any (fun x=>decide (x=d.2.1)),())⟩
def sL:Prop:=∀(d:List Int×Int×Unit),(decide (0<=yT (fun(a:Int)=>decide (a=d.2.1)) d.1),())=(d.1.any fun(b:Int)=>decide (b=d.2.1),())
def VY:wS:=⟨[.val tCr,.val tJb],[.ptr tTk,.int],false,fun _=>[],fun d=>(G9 d.1 d.2.1,vH d.1 d.2.1,())⟩
def VZ:Prop:=∀(d:CrD×JbD×Unit),(decide (vH d.1 d.2.1≠0)=true->(none,vH d.1 d.2.1,())=(G9 d.1 d.2.1,vH d.1 d.2.1,()))/\(decide (vH d.1 d.2.1≠0)=false->0<=d.2.1.q4.1/\d.2.1.q4.1<(d.1.2.2.1.length:Int)/\(some (d.1,d.2.1,nth d.1.2.2.1 d.2.1.q4.1.toNat,()),(0:Int),())=(G9 d.1 d.2.1,vH d.1 d.2.1,()))
def LM (d:PD [.ref (.ptr tTk),.ref (.uint .u64)]) (xs:List (Ty.st [.int,tPe]).Data):Prop:=xs=xO (U.tk d.1) d.2.1
def Sc (d:PD [.ref (.ptr tTk),.ref (.uint .u64)]):Bo (YS [.int,tPe]):=fun r=>match r with
 |1=>some fun _ _=>{X:=Nat,sl:=fun i=>[(12,.dat .int (i:Int))],ob:=fun _=>[],ys:=fun i=>(gy (U.tk d.1) d.2.1 i,true),inv:=fun i=>i<=(wj (U.tc (U.tk d.1))).length,mu:=fun i=>(wj (U.tc (U.tk d.1))).length-i}
 |_=>none
abbrev jhO (d:Option (CrD×JbD×LwD×Unit)×Int×Unit):=(wK (((0:Int),[],[],()),((0:Int),(0:Int),(0:Int),(0:Int),(0:Int),(0:Int),()),((0:Int),(0:Int),false,()),()) d.1)
abbrev jf7 (d:Option (CrD×JbD×LwD×Unit)×Int×Unit):=(wj (U.tc (U.tk d.1)))
abbrev jhP (x:Nat)(d:Option (CrD×JbD×LwD×Unit)×Int×Unit):=((x:Int),nth (jhO d).1.2.1 (x:Int).toNat,())
abbrev ji1 (x:Nat)(a:Nat):=(((x:Int)+1=(a:Int)/\True)/\True)
def cH:Prop:=∀(d:Option (CrD×JbD×LwD×Unit)×Int×Unit) (l:Nat),d.1.isSome=true->(jf7 d).length<=60->d.1.isSome=true/\((jhO d).1.2.1.length<4611686018427387904->(∃(x:Nat),((0=(x:Int)/\True)/\True)/\([],true)=(gy (U.tk d.1) d.2.1 x,true)/\x<=(jf7 d).length)/\∀(x:Nat),x<=(jf7 d).length->(decide ((x:Int)<(jhO d).1.2.1.length)=true->0<=(x:Int)/\(x:Int)<(jhO d).1.2.1.length/\0<=(x:Int)/\(x:Int)<=64/\(tP d.2.1 (x:Int)=true->l=l/\(∃(rest:List (Int×PeD×Unit)),gy (U.tk d.1) d.2.1 x++[(jhP x d)]++rest=xO (U.tk d.1) d.2.1)/\(((tP d.2.1 (x:Int)&& !true)=true->true=true->gy (U.tk d.1) d.2.1 x++[(jhP x d)]=xO (U.tk d.1) d.2.1)/\((tP d.2.1 (x:Int)&& !true)=false->wn ((x:Int)+1)/\∃(a:Nat),(ji1 x a)/\(gy (U.tk d.1) d.2.1 x++[(jhP x d)],true)=(gy (U.tk d.1) d.2.1 a,true)/\a<=(jf7 d).length/\(jf7 d).length-a<(jf7 d).length-x))/\((tP d.2.1 (x:Int)&& !false)=true->false=true->gy (U.tk d.1) d.2.1 x++[(jhP x d)]=xO (U.tk d.1) d.2.1)/\((tP d.2.1 (x:Int)&& !false)=false->wn ((x:Int)+1)/\∃(a:Nat),(ji1 x a)/\(gy (U.tk d.1) d.2.1 x++[(jhP x d)],false)=(gy (U.tk d.1) d.2.1 a,true)/\a<=(jf7 d).length/\(jf7 d).length-a<(jf7 d).length-x))/\(tP d.2.1 (x:Int)=false->((tP d.2.1 (x:Int)&& !false)=true->true=true->gy (U.tk d.1) d.2.1 x=xO (U.tk d.1) d.2.1)/\((tP d.2.1 (x:Int)&& !false)=false->wn ((x:Int)+1)/\∃(a:Nat),(ji1 x a)/\(gy (U.tk d.1) d.2.1 x,true)=(gy (U.tk d.1) d.2.1 a,true)/\a<=(jf7 d).length/\(jf7 d).length-a<(jf7 d).length-x)))/\(decide ((x:Int)<(jhO d).1.2.1.length)=false->true=true->gy (U.tk d.1) d.2.1 x=xO (U.tk d.1) d.2.1))
theorem lK:(YV (ctx 28 [(235,mB)] []) (qh Tryz.f234) [.int,tPe] [.ref (.ptr tTk),.ref (.uint .u64)] LM (fun d=>[d.1.isSome=true,(wj (U.tc (U.tk d.1))).length<=60]) (fun d _=>Sc d) (fun d l=>hkY [.int,tPe] l [24] (fun q=>∃rest,LM d (q++rest)) (fun _=>none)))=cH:=by kernel_rfl
def wX:px:=⟨[.val (.ptr tTk),.val (.uint .u64)],fun _=>[],234,[.ptr tTk,.uint .u64],fun d=>(d.1,d.2.1,())⟩
def fj:Prop:=∀(d:Option (CrD×JbD×LwD×Unit)×Int×Unit),d=d
theorem n4:(VI (ctx 6 [] []) (fun _=>none) Tryz.f213 (qh Tryz.f213) wX)=fj:=by kernel_rfl
def QI (sv:SV):Option (Prop×(List (Ty.st [.int,tPe]).Data->Prop)):=match sv with
 | .clo 234 [.ep b t,.ep c s]=>(match qQ b (.ptr tTk) t,qQ c (.uint .u64) s with
  |some a,some d=>some ((a.isSome=true/\(wj (U.tc (U.tk a))).length<=60),fun xs=>xs=xO (U.tk a) d)
  |_,_=>none)
 |_=>none
def V0:JY [.int,tPe]:={ps:=[.ref (.ptr tTk),.ref .int,.ref .int,.own (.box 4 [.dat .bool]) true],slots:=[4,6,7,8],dst:=34,pre:=fun _=>[],G:=fun d q=>((d.2.2.2.1.1||aF (U.tk d.1) d.2.1 d.2.2.1 q,()),()),stop:=fun d q=>aF (U.tk d.1) d.2.1 d.2.2.1 q,seq:=QI}
def C8:Nat->Option ((ts:List Ty)×JY ts):=fun r=>match r with
 |3=>some ⟨[.int,tPe],V0⟩
 |_=>none
def lj:wS:=⟨[.val (.ptr tTk),.val (.uint .u64),.val .int,.val .int],[.bool],false,
 fun d=>[d.1.isSome=true,cU (U.tk d.1),0<=d.2.2.1,d.2.2.1<U.la (U.tc (U.tk d.1)),0<=d.2.2.2.1,d.2.2.2.1<U.la (U.tc (U.tk d.1))],fun d=>(nh (U.tk d.1) d.2.1 d.2.2.1 d.2.2.2.1,())⟩
abbrev jjL (d:Option (CrD×JbD×LwD×Unit)×Int×Int×Int×Unit)(x:Int×PeD×Unit):=((wK (((0:Int),[],[],()),((0:Int),(0:Int),(0:Int),(0:Int),(0:Int),(0:Int),()),((0:Int),(0:Int),false,()),()) d.1).2.2.1.1<=min (nth x.2.1.1 d.2.2.1.toNat) (nth x.2.1.1 d.2.2.2.1.toNat))
abbrev ji2 (d:Option (CrD×JbD×LwD×Unit)×Int×Int×Int×Unit):=(fun(a:List (Int×PeD×Unit))=>aF (U.tk d.1) d.2.2.1 d.2.2.2.1 a)
def lk:Prop:=∀(d:Option (CrD×JbD×LwD×Unit)×Int×Int×Int×Unit),d.1.isSome=true->cU (U.tk d.1)->0<=d.2.2.1->d.2.2.1<U.la (U.tc (U.tk d.1))->0<=d.2.2.2.1->d.2.2.2.1<U.la (U.tc (U.tk d.1))->(d.1.isSome=true/\(wj (U.tc (U.tk d.1))).length<=60)/\True/\(d.1,d.2.2.1,d.2.2.2.1,(false||aF (U.tk d.1) d.2.2.1 d.2.2.2.1 [],()),())=(d.1,d.2.2.1,d.2.2.2.1,(false,()),())/\(∀(q:List (Int×PeD×Unit)) (x:Int×PeD×Unit) (rest:List (Int×PeD×Unit)),q++x::rest=xO (U.tk d.1) d.2.1->y4 (ji2 d) q->0<=d.2.2.1/\d.2.2.1<(x.2.1.1.length:Int)/\0<=d.2.2.2.1/\d.2.2.2.1<(x.2.1.1.length:Int)/\d.1.isSome=true/\(decide (jjL d x)=true->aF (U.tk d.1) d.2.2.1 d.2.2.2.1 (q++[x])=true/\((true,()),())=((false||aF (U.tk d.1) d.2.2.1 d.2.2.2.1 (q++[x]),()),()))/\(decide (jjL d x)=false->aF (U.tk d.1) d.2.2.1 d.2.2.2.1 (q++[x])=false/\((false||aF (U.tk d.1) d.2.2.1 d.2.2.2.1 q,()),())=((false||aF (U.tk d.1) d.2.2.1 d.2.2.2.1 (q++[x]),()),())))/\(∀(xs:List (Int×PeD×Unit)),xs=xO (U.tk d.1) d.2.1->y4 (ji2 d) xs->(false,())=(nh (U.tk d.1) d.2.1 d.2.2.1 d.2.2.2.1,()))/\∀(q:List (Int×PeD×Unit)) (x:Int×PeD×Unit) (rest:List (Int×PeD×Unit)),q++x::rest=xO (U.tk d.1) d.2.1->y4 (ji2 d) q->aF (U.tk d.1) d.2.2.1 d.2.2.2.1 (q++[x])=true->(false||aF (U.tk d.1) d.2.2.1 d.2.2.2.1 (q++[x]),())=(nh (U.tk d.1) d.2.1 d.2.2.1 d.2.2.2.1,())
theorem pP:(QF (Mv 33 [] [] [(213,wX)] []) lj (fun _ _=>none) (hkC (Mv 33 [] [] [(213,wX)] []) (fun _=>none) C8 [] []) Tryz.f237 (qh Tryz.f237))=lk:=by kernel_rfl
theorem E2:C7:=by
 rintro⟨l,x,⟨⟩⟩ d;refine⟨⟨0,⟨⟨rfl,tZ⟩,tZ⟩,jm _,fun b a=>by omega⟩,fun i hi=>⟨fun h=> ?_,fun h=> ?_⟩⟩;have h:i<l.length:=(by simpa using h);simp only[jw] at*;refine⟨by omega,by omega,fun a=> ?_,fun a=>⟨iZ6,i+1,⟨⟨by simp,tZ⟩,tZ⟩,⟨by omega,fun b c=> ?_⟩,by omega⟩⟩;rw[yc (p:=fun y=>decide (y=x)) h hi.2 (by have:=ja a;rw[<-this];exact jD rfl)];by_cases e:b=i;subst e;exact zt (fun e=>jc a e.symm);exact hi.2 b (by omega);have h:l.length<=i:=(by simpa using h);rw[q6 (p:=fun y=>decide (y=x)) h hi.2]
theorem C9:wZ PR 184 C4:=vl C6 E2 Tryz.func184 kcN koN
theorem uv:sL:=by
 rintro⟨l,x,⟨⟩⟩;exact jE (·,()) (iI (fun y=>decide (y=x)) l)
theorem dL:wZ PR 144 sK:=wL uv Tryz.func144 (kcC C9 kcN) koN
theorem pQ {c:CrD} {j:JbD} (h:vH c j=0):wu c=true/\qb c j=true:=by
 unfold vH at h
 split at h
 omega
 split at h
 omega;rename_i a b;exact⟨by simpa using a,by simpa using b⟩
theorem w8 {c:CrD} (h:wu c=true):2<=U.la c/\U.la c<=5/\(wj c).length<=8/\(yX c).length=4/\(∀p∈wj c,fR (U.la c) p=true)/\∀l∈yX c,fS l=true:=by
 unfold wu at h;simp only[ji,jp,jU] at h;exact⟨h.1.1,h.1.2.1,h.1.2.2.1,h.1.2.2.2,h.2.1,h.2.2⟩
theorem mF {c:CrD} {j:JbD} (h:qb c j=true):(0<=Mw j/\Mw j<U.la c)/\(0<=G8 j/\G8 j<U.la c)/\Mw j≠G8 j/\(0<=PM j/\PM j<=7)/\(0<=eE j/\eE j<=3)/\(1<=jad j/\jad j<=8):=by
 unfold qb at h;have h:=ja h;obtain⟨d,m,e,n,f,_,_,g,i,k,l,a,b⟩:=h;exact⟨⟨d,by omega⟩,⟨e,by omega⟩,f,⟨g,i⟩,⟨k,l⟩,a,b⟩
theorem V1 {c:CrD} {j:JbD} (h:vH c j=0):G9 c j=some (c,j,dp c j,())/\cU (c,j,dp c j,()):=by
 obtain⟨a,b⟩:=pQ h;exact⟨by unfold G9;rw[je h],a,b,rfl⟩
theorem Y6:VZ:=by
 unfold VZ Prod.q4;rintro⟨c,j,⟨⟩⟩;refine⟨fun h=> ?_,fun h=> ?_⟩;have h:vH c j≠0:=ja h;simp only;unfold G9;rw[jd h];have h:vH c j=0:=(by simpa using h);obtain⟨b,d⟩:=pQ h;obtain⟨_,_,_,a,_⟩:=w8 b;obtain⟨_,_,_,_,hk,_⟩:=mF d;have hk:0<=j.2.2.2.2.1/\j.2.2.2.2.1<=3:=hk;have a:c.2.2.1.length=4:=a;refine⟨hk.1,by simp only;omega,?_⟩;simp only;rw[(V1 h).1,h];rfl
theorem Ks:wZ PR 179 VY:=wL Y6 Tryz.func179 (kcC GM kcN) koN
theorem uw (t:TkD) (s:Int) (n:Nat):gy t s (n+1)=gy t s n++(if tP s (n:Int)=true then[((n:Int),nth (wj (U.tc t)) n,())] else[]):=by
 unfold gy;rw[L.yj,zw]
 split<;>simp
theorem V2 (t:TkD) (s:Int) {n m:Nat} (h:n<=m):∃rest,gy t s n++rest=gy t s m:=by
 induction m with
 |zero=>
  have:n=0:=(by omega);subst this;exact⟨[],by simp⟩
 |succ m b=>
  by_cases e:n=m+1;subst e;exact⟨[],by simp⟩;obtain⟨r,a⟩:=b (by omega);rw[uw,<-a];exact⟨r++_,by rw[jM]⟩
theorem sM:cH:=by
 unfold cH ji1 jhP jf7 jhO;rintro⟨(_|t),s,⟨⟩⟩ l i e;cases i;have e:(wj (U.tc t)).length<=60:=e;refine⟨rfl,fun _=>⟨⟨0,⟨⟨rfl,tZ⟩,tZ⟩,rfl,jm _⟩,fun x g=> ?_⟩⟩;have g:x<=(wj (U.tc t)).length:=g;have c:U.tk (some t)=t:=rfl;refine⟨fun h=> ?_,fun h=> ?_⟩;have h:x<(wj (U.tc t)).length:=by
  have:=ja h;have this:(x:Int)<(wj (U.tc t)).length:=this;omega
 have j:(x:Int)<(wj (U.tc t)).length:=(by omega);refine⟨by omega,j,by omega,by omega,fun b=> ?_,fun b=> ?_⟩;have d:gy t s (x+1)=gy t s x++[((x:Int),nth (wj (U.tc t)) x,())]:=(by rw[uw,je b]);obtain⟨r,f⟩:=V2 t s (show x+1<=(wj (U.tc t)).length by omega);refine⟨rfl,⟨r,by rw[d] at f;exact f⟩,⟨fun a=>absurd a (by rw[Bool.not_true,kx];simp),fun _=>⟨iZ6,x+1,⟨⟨by omega,tZ⟩,tZ⟩,?_,(show x+1<=(wj (U.tc t)).length by omega),(show(wj (U.tc t)).length-(x+1)<(wj (U.tc t)).length-x by omega)⟩⟩,
  fun _ a=>(by cases a),fun a=> ?_⟩
 rw[c,d];rfl;rw[Bool.not_false,Bool.and_true] at a;exact absurd b (by simp only at a⊢;rw[a];simp);have d:gy t s (x+1)=gy t s x:=by
  rw[uw,jd (by simp only at b⊢;rw[b];simp),j7]
 refine⟨fun a=> ?_,fun _=>⟨iZ6,x+1,⟨⟨by omega,tZ⟩,tZ⟩,?_,(show x+1<=(wj (U.tc t)).length by omega),(show(wj (U.tc t)).length-(x+1)<(wj (U.tc t)).length-x by omega)⟩⟩;rw[Bool.not_false,Bool.and_true] at a;exact absurd a (by simp only at b⊢;rw[b];simp);rw[c,d];have h:(wj (U.tc t)).length<=x:=by
  have:=jc h;have this:¬(x:Int)<(wj (U.tc t)).length:=this;omega
 intro _;rw[show x=(wj (U.tc t)).length by omega];rfl
theorem NF {H:Imm} {lb:Array Value} {d:PD [.ref (.ptr tTk),.ref (.uint .u64)]} (g:pvs PR H [.ref (.ptr tTk),.ref (.uint .u64)] lb.toList d) (a:d.1.isSome=true) (b:(wj (U.tc (U.tk d.1))).length<=60):YT PR H [.int,tPe] (LM d) (.func (.func 234) #[] lb):=
 jaz (C:=ctx 28 [(235,mB)] []) (oP ⟨fun _=>Kl,tZ⟩ trivial) mixed Tryz.func234 (by kernel_rfl) (by kernel_rfl) (by kernel_rfl) (by kernel_rfl) (by decide) (lK.mpr sM) (fun d l B0 R h c e f=>jdB c f) g ⟨a,b,tZ⟩
theorem Ab:fj:=by intro d;rfl
theorem fo:J2 PR 213 wX:=jdE (n4.mpr Ab) Tryz.func213 (by kernel_rfl) (by kernel_rfl) (by kernel_rfl) (by kernel_rfl) trivial trivial
theorem jbX:∀(f:Nat) (p:Nat×pA),wM ([]:List (Nat×Nat×pA)) f=some p->ROK PR f p.2:=fun _ _ h=>by cases h
theorem Kt {sv:SV} {h:Prop} {L:List (Ty.st [.int,tPe]).Data->Prop} {v:Value} {ρ:Env} (a:QI sv=some (h,L)) (b:h) (g:SV.den PR ρ sv v):YT PR ρ.H [.int,tPe] L v:=by
 unfold QI at a
 split at a
 case h_2=>cases a
 rename_i n t o s
 split at a
 case h_2=>cases a
 rename_i u q m f;simp only[jz,Prod.mk.injEq] at a;obtain⟨rfl,rfl⟩:=a;obtain⟨e,rfl⟩:=wo m;subst e;obtain⟨e2,rfl⟩:=wo f;subst e2;simp only[SV.den,SV.denL] at g;obtain⟨lb,rfl,x,r,l,i,y,p,c,j,k⟩:=g;exact NF (d:=(t,s,())) (by rw[l,c,k];exact⟨i,j,rfl⟩) b.1 b.2
theorem sN (t:TkD) (a b:Int) (q:List (Int×PeD×Unit)) (x:Int×PeD×Unit):aF t a b (q++[x])=U.jn t a b x:=by
 unfold aF;rw[List.getLast?_append];simp
theorem NG {t:TkD} {a b:Int} {q:List (Int×PeD×Unit)} (h:y4 (fun q=>aF t a b q) q):q.any (U.jn t a b)=false:=by
 rw[zi];intro x c;obtain⟨u,v,rfl⟩:=List.append_of_mem c;have:=h u x v rfl;simp only[sN] at this;rw[this];simp
theorem Sd {t:TkD} {s:Int} {x:Int×PeD×Unit} (h:x∈xO t s):x.2.1∈wj (U.tc t):=by
 unfold xO gy at h;obtain⟨i,hi,rfl⟩:=j6.1 h;have:=jG.1 (jX.1 hi).1;exact L.wi this
theorem jbY {n:Int} {p:PeD} (h:fR n p=true):((U.lv p).length:Int)=n:=by
 unfold fR at h;simp only[ji,jp] at h;exact h.1.1
theorem Da:lk:=by
 unfold lk ji2 jjL;rintro⟨(_|t),s,a,b,⟨⟩⟩ r l v f w g;cases r;obtain⟨c1,c2,A⟩:=l;have c1:wu (U.tc t)=true:=c1;obtain⟨B,C,D,E,p,F⟩:=w8 c1;have k:(wj (U.tc t)).length<=60:=(by omega);have c:U.tk (some t)=t:=rfl;refine⟨⟨rfl,k⟩,tZ,rfl,fun q x rest i e=> ?_,fun xs j e=> ?_,fun q x rest i e d=> ?_⟩;have z:x∈xO t s:=(by rw[c] at i;rw[<-i];simp);have o:=jbY (p _ (Sd z));have o:((x.2.1.1.length:Nat):Int)=U.la (U.tc t):=o;have f:a<U.la (U.tc t):=f;have g:b<U.la (U.tc t):=g;have m:aF t a b q=false:=by
  cases n:q.getLast? with
  |none=>unfold aF;rw[n]
  |some y=>
   obtain⟨u,rfl⟩:=List.getLast?_eq_some_iff.1 n;have:=e u y [] rfl;exact this
 refine⟨v,by simp only;omega,w,by simp only;omega,rfl,fun h=> ?_,fun h=> ?_⟩;have h:U.jn t a b x=true:=h;have:aF t a b (q++[x])=true:=(by rw[sN];exact h);rw[c];simp only;exact⟨this,by rw[this];rfl⟩;have h:U.jn t a b x=false:=h;have:aF t a b (q++[x])=false:=(by rw[sN];exact h);rw[c];simp only;exact⟨this,by rw[this,m]⟩;rw[c] at j e;subst j;have:=NG e;simp only;rw[c];unfold nh;rw[this];rw[c] at i d⊢;simp only at d⊢;rw[d];unfold nh;rw[<-i];rw[sN] at d;simp[d]
theorem Ku:(Mv 33 [] [] [(213,wX)] []).ok PR:=Nv trivial trivial ⟨fo,tZ⟩ trivial
theorem Ac:wZ PR 237 lj:=
 VN (body:=qh Tryz.f237) (C:=Mv 33 [] [] [(213,wX)] []) (hk:=hkC (Mv 33 [] [] [(213,wX)] []) (fun _=>none) C8 [] []) Ku mixed Tryz.func237 (by kernel_rfl) (by kernel_rfl) (by kernel_rfl) (by decide)
  (fun B=>GI Ku mixed (fun k ts rs sv d L v ρ hk c a b=>by
   unfold C8 at hk
   split at hk
   case h_2=>cases hk
   simp only[jz] at hk
   cases hk
   exact Kt c a b) jbX B) (pP.mpr Da)
namespace U
def aM (x:Int) (N n:Nat):List Int:=List.replicate n x++List.replicate (N-n) 0
def Mx (t:TkD) (c:Int) (a b:Nat):Bool:=nh t c (a:Int) (b:Int)
def lc (t:TkD) (a:Int):List Int:=jef (Mx t a) (la (tc t)).toNat (G8 (tj t)).toNat
def qi (t:TkD) (a:Int) (k:Nat):List Int×List Int:=aP (Mx t a) (la (tc t)).toNat (G8 (tj t)).toNat k
def aa (t:TkD) (a:Int) (x:List Int×List Int) (i:Nat):List Int×List Int:=tO (Mx t a) (nth x.2 0).toNat x i
def jdc (t:TkD) (a:Int) (x:List Int×List Int) (lo:Nat):Prop:=jc9 (Mx t a) (la (tc t)).toNat (G8 (tj t)).toNat x/\x.2≠[]/\x.2.length<=10/\lo<=10
end U
def glo (σ:St) (s:Nat):Nat:=match σ.get s with
 | .osl _ _ lo _=>lo
 |_=>0
def HZ:wS:=⟨[.val (.uint .u64),.val (.uint .u64)],[.uint .u64,.uint .u64],false,fun d=>[0<=d.1,d.1<=1000,0<=d.2.1,d.2.1<=1000],fun d=>((0:Int),d.1*d.2.1,())⟩
abbrev jgL (d:Int×Int×Unit):=(d.1/(2:Int)^Int.toNat 32*gM d.2.1 (4294967295:Int)+gM d.1 (4294967295:Int)*gM d.2.1 (4294967295:Int)/(2:Int)^Int.toNat 32)
abbrev jf8 (d:Int×Int×Unit):=(d.2.1/(2:Int)^Int.toNat 32)
abbrev ji3 (d:Int×Int×Unit):=(gM (jgL d) (4294967295:Int)+gM d.1 (4294967295:Int)*(jf8 d))
def H2:Prop:=∀(d:Int×Int×Unit),0<=d.1->d.1<=1000->0<=d.2.1->d.2.1<=1000->(0:Int)<=32/\(32:Int)<=64/\(0:Int)<=32/\(32:Int)<=64/\0<=gM d.1 (4294967295:Int)*gM d.2.1 (4294967295:Int)/\gM d.1 (4294967295:Int)*gM d.2.1 (4294967295:Int)<=18446744073709551615/\0<=d.1/(2:Int)^Int.toNat 32*gM d.2.1 (4294967295:Int)/\d.1/(2:Int)^Int.toNat 32*gM d.2.1 (4294967295:Int)<=18446744073709551615/\(0:Int)<=32/\(32:Int)<=64/\0<=d.1/(2:Int)^Int.toNat 32*gM d.2.1 (4294967295:Int)+gM d.1 (4294967295:Int)*gM d.2.1 (4294967295:Int)/(2:Int)^Int.toNat 32/\d.1/(2:Int)^Int.toNat 32*gM d.2.1 (4294967295:Int)+gM d.1 (4294967295:Int)*gM d.2.1 (4294967295:Int)/(2:Int)^Int.toNat 32<=18446744073709551615/\(0:Int)<=32/\(32:Int)<=64/\0<=gM d.1 (4294967295:Int)*(jf8 d)/\gM d.1 (4294967295:Int)*(jf8 d)<=18446744073709551615/\0<=gM (jgL d) (4294967295:Int)+gM d.1 (4294967295:Int)*(jf8 d)/\gM (jgL d) (4294967295:Int)+gM d.1 (4294967295:Int)*(jf8 d)<=18446744073709551615/\0<=d.1/(2:Int)^Int.toNat 32*(jf8 d)/\d.1/(2:Int)^Int.toNat 32*(jf8 d)<=18446744073709551615/\0<=d.1/(2:Int)^Int.toNat 32*(jf8 d)+(jgL d)/(2:Int)^Int.toNat 32/\d.1/(2:Int)^Int.toNat 32*(jf8 d)+(jgL d)/(2:Int)^Int.toNat 32<=18446744073709551615/\(0:Int)<=32/\(32:Int)<=64/\0<=d.1/(2:Int)^Int.toNat 32*(jf8 d)+(jgL d)/(2:Int)^Int.toNat 32+(ji3 d)/(2:Int)^Int.toNat 32/\d.1/(2:Int)^Int.toNat 32*(jf8 d)+(jgL d)/(2:Int)^Int.toNat 32+(ji3 d)/(2:Int)^Int.toNat 32<=18446744073709551615/\0<=d.1*d.2.1/\d.1*d.2.1<=18446744073709551615/\(d.1/(2:Int)^Int.toNat 32*(jf8 d)+(jgL d)/(2:Int)^Int.toNat 32+(ji3 d)/(2:Int)^Int.toNat 32,d.1*d.2.1,())=((0:Int),d.1*d.2.1,())
def NH:wS:=⟨[.val (.uint .u64),.val (.uint .u64)],[.uint .u64,.uint .u64],false,fun d=>[0<=d.1,d.1<=1000,0<=d.2.1,d.2.1<=1000],fun d=>((0:Int),d.1*d.2.1,())⟩
def NI:Prop:=∀(d:Int×Int×Unit),0<=d.1->d.1<=1000->0<=d.2.1->d.2.1<=1000->(false=true->False)/\(qF->0<=d.1/\d.1<=1000/\0<=d.2.1/\d.2.1<=1000/\((0:Int),d.1*d.2.1,())=((0:Int),d.1*d.2.1,()))
def Ad:vi:=⟨[.val (.slice .int),.val .int],[.cl (.row 3 .int .no)],fun d=>[d.1.length=1,0<=d.2.1,d.2.1<=1000],fun d=>((List.replicate d.2.1.toNat (nth d.1 0),()),())⟩
def Ae:Ann:=fun r=>match r with
 |8=>some fun σ=>{X:=Nat,sl:=fun n=>[(8,.dat .int (n:Int))],ob:=fun n=>[(7,some (.row 3 .int false .no (aM (nth (gd (.slice .int) σ 0) 0) (gd .int σ 1).toNat n)))],inv:=fun n=>n<=(gd .int σ 1).toNat/\(1<=n\/(gd .int σ 1).toNat=0),mu:=fun n=>(gd .int σ 1).toNat-n}
 |_=>none
abbrev jgf (d:List Int×Int×Unit):=(d.1.length:Int)
abbrev jhQ (d:List Int×Int×Unit):=(List.replicate ((jgf d)*d.2.1).toNat (0:Int))
abbrev jhR (d:List Int×Int×Unit)(x:Nat):=(aM (nth d.1 0) d.2.1.toNat x)
abbrev jg6 (d:List Int×Int×Unit)(x:Nat):=(↑(jhR d x).length:Int)
abbrev ji4 (x:Nat)(d:List Int×Int×Unit):=(List.take ((x:Int).toNat-Int.toNat 0) (List.drop (Int.toNat 0) (jhR d x)))
abbrev jiu (d:List Int×Int×Unit)(x:Nat):=((jg6 d x).toNat-(x:Int).toNat)
abbrev jjM (d:List Int×Int×Unit):=(decide ((0:Int)<0)||decide (9223372036854775807<(jgf d)*d.2.1))
def Af:Prop:=∀(d:List Int×Int×Unit),d.1.length=1->0<=d.2.1->d.2.1<=1000->(decide (d.2.1<0)=true->False)/\(decide (d.2.1<0)=false->d.1.length<4611686018427387904->0<=(jgf d)/\(jgf d)<=18446744073709551615/\0<=d.2.1/\d.2.1<=18446744073709551615/\0<=(jgf d)/\(jgf d)<=1000/\0<=d.2.1/\d.2.1<=1000/\((jjM d)=true->False)/\((jjM d)=false->wn ((jgf d)*d.2.1)/\0<=(jgf d)*d.2.1/\(jgf d)*d.2.1=(jgf d)*d.2.1/\((jgf d)*d.2.1).toNat*8<=140737488355328/\0+(jhQ d).length<=(jhQ d).length/\(∃(x:Nat),(((↑(List.take (jhQ d).length d.1).length:Int)=(x:Int)/\True)/\Uo (jhQ d) 0 (jhQ d).length d.1=aM (nth d.1 0) d.2.1.toNat x/\True)/\x<=d.2.1.toNat/\(1<=x\/d.2.1.toNat=0))/\∀(x:Nat),x<=d.2.1.toNat/\(1<=x\/d.2.1.toNat=0)->(jhR d x).length<4611686018427387904->(decide ((x:Int)<(jg6 d x))=true->0<=(x:Int)/\(x:Int)<=(jg6 d x)/\(jg6 d x)<=(jg6 d x)/\(0:Int)<=0/\0<=(x:Int)/\(x:Int)<=(jg6 d x)/\(x:Int).toNat+(jiu d x)<=(jhR d x).length/\wn ((x:Int)+(List.take (jiu d x) (ji4 x d)).length)/\∃(a:Nat),(((x:Int)+(List.take (jiu d x) (ji4 x d)).length=(a:Int)/\True)/\Uo (jhR d x) (x:Int).toNat (jiu d x) (ji4 x d)=aM (nth d.1 0) d.2.1.toNat a/\True)/\(a<=d.2.1.toNat/\(1<=a\/d.2.1.toNat=0))/\d.2.1.toNat-a<d.2.1.toNat-x)/\(decide ((x:Int)<(jg6 d x))=false->(aM (nth d.1 0) d.2.1.toNat x,())=(List.replicate d.2.1.toNat (nth d.1 0),())/\()=())))
def gJ:wS:=⟨[.val (.ptr tTk),.val (.uint .u64)],[.slice .int],false,fun d=>[d.1.isSome=true,cU (U.tk d.1)],fun d=>(lc (U.tk d.1) d.2.1,())⟩
def H3:Ann:=fun r=>match r with
 |4=>some fun σ=>{X:=Nat×List Int,sl:=fun x=>[(6,.osl 6 .int x.2.length (qi (U.tk (gd (.ptr tTk) σ 0)) (gd (.uint .u64) σ 1) x.1).2.length)],ob:=fun x=>[(5,some (.row 3 .int false .no (qi (U.tk (gd (.ptr tTk) σ 0)) (gd (.uint .u64) σ 1) x.1).1)),(6,some (.row 3 .int false .no (x.2++(qi (U.tk (gd (.ptr tTk) σ 0)) (gd (.uint .u64) σ 1) x.1).2)))],inv:=fun x=>x.2.length<=x.1/\x.1<=(U.la (U.tc (U.tk (gd (.ptr tTk) σ 0)))).toNat,mu:=fun x=>(U.la (U.tc (U.tk (gd (.ptr tTk) σ 0)))).toNat+1-x.1}
 |7=>some fun σ=>{X:=Nat×List Int,sl:=fun x=>[(28,.any),(35,.dat .int (x.1:Int)),(6,.osl 6 .int x.2.length (aa (U.tk (gd (.ptr tTk) σ 0)) (gd (.uint .u64) σ 1) (gr .int σ 5,(gr .int σ 6).drop (glo σ 6)) x.1).2.length)],ob:=fun x=>[(5,some (.row 3 .int false .no (aa (U.tk (gd (.ptr tTk) σ 0)) (gd (.uint .u64) σ 1) (gr .int σ 5,(gr .int σ 6).drop (glo σ 6)) x.1).1)),(6,some (.row 3 .int false .no (x.2++(aa (U.tk (gd (.ptr tTk) σ 0)) (gd (.uint .u64) σ 1) (gr .int σ 5,(gr .int σ 6).drop (glo σ 6)) x.1).2)))],inv:=fun x=>x.1<=(gr .int σ 5).length/\x.2.length<=glo σ 6/\jdc (U.tk (gd (.ptr tTk) σ 0)) (gd (.uint .u64) σ 1) (gr .int σ 5,(gr .int σ 6).drop (glo σ 6)) (glo σ 6),mu:=fun x=>(gr .int σ 5).length-x.1}
 |2000011=>some fun _=>{X:=Unit,sl:=fun _=>[],ob:=fun _=>[],inv:=fun _=>True,mu:=fun _=>0}
 |_=>none
abbrev jgA (d:Option (CrD×JbD×LwD×Unit)×Int×Unit):=(wK (((0:Int),[],[],()),((0:Int),(0:Int),(0:Int),(0:Int),(0:Int),(0:Int),()),((0:Int),(0:Int),false,()),()) d.1)
abbrev jfM (d:Option (CrD×JbD×LwD×Unit)×Int×Unit)(x:Nat×List Int):=(qi (U.tk d.1) d.2.1 x.1)
abbrev jhn (d:Option (CrD×JbD×LwD×Unit)×Int×Unit)(x:Nat×List Int):=((jfM d x).1,List.drop x.2.length (x.2++(jfM d x).2))
abbrev jfD (d:Option (CrD×JbD×LwD×Unit)×Int×Unit)(x:Nat×List Int)(a:Nat×List Int):=(aa (U.tk d.1) d.2.1 (jhn d x) a.1)
abbrev jgn (d:Option (CrD×JbD×LwD×Unit)×Int×Unit)(x:Nat×List Int)(a:Nat×List Int):=(nth (jfD d x a).1 (a.1:Int).toNat<0)
abbrev jgM (a:Nat×List Int):=(a.2.length+Int.toNat 0)
abbrev jho (d:Option (CrD×JbD×LwD×Unit)×Int×Unit)(x:Nat×List Int)(a:Nat×List Int):=(aa (U.tk d.1) d.2.1 (jhn d x) a.1)
def H4:Prop:=∀(d:Option (CrD×JbD×LwD×Unit)×Int×Unit),d.1.isSome=true->cU (U.tk d.1)->d.1.isSome=true/\[(-1:Int)].length=1/\(0:Int)<=(jgA d).1.1/\(jgA d).1.1<=1000/\d.1.isSome=true/\(0:Int)<=(jgA d).2.1.2.1/\(jgA d).2.1.2.1<(↑(List.replicate (jgA d).1.1.toNat (nth [(-1:Int)] 0)).length:Int)/\d.1.isSome=true/\(∃(x:Nat×List Int),(((x.2.length=0/\(jfM d x).2.length=[(jgA d).2.1.2.1].length)/\True)/\(List.replicate (jgA d).1.1.toNat (nth [(-1:Int)] 0)).set (jgA d).2.1.2.1.toNat 0=(jfM d x).1/\[(jgA d).2.1.2.1]=x.2++(jfM d x).2/\True)/\x.2.length<=x.1/\x.1<=(U.la (U.tc (U.tk d.1))).toNat)/\∀(x:Nat×List Int),x.2.length<=x.1/\x.1<=(U.la (U.tc (U.tk d.1))).toNat->(jfM d x).2.length<4611686018427387904->(decide ((0:Int)<(jfM d x).2.length)=true->(jfM d x).1.length<4611686018427387904->(∃(a:Nat×List Int),((0=(a.1:Int)/\(x.2.length=a.2.length/\(jfM d x).2.length=(jfD d x a).2.length)/\True)/\(jfM d x).1=(jfD d x a).1/\x.2++(jfM d x).2=a.2++(jfD d x a).2/\True)/\a.1<=(jfM d x).1.length/\a.2.length<=x.2.length/\jdc (U.tk d.1) d.2.1 (jhn d x) x.2.length)/\∀(a:Nat×List Int),a.1<=(jfM d x).1.length/\a.2.length<=x.2.length/\jdc (U.tk d.1) d.2.1 (jhn d x) x.2.length->(decide ((a.1:Int)<(jfM d x).1.length)=true->0<=(a.1:Int)/\(a.1:Int)<(jfD d x a).1.length/\(decide (jgn d x a)=true->(0:Int)<=0)/\(decide (jgn d x a)=true->(0:Int)<(jfD d x a).2.length)/\(decide (jgn d x a)=true->d.1.isSome=true)/\(decide (jgn d x a)=true->cU (U.tk d.1))/\(decide (jgn d x a)=true->0<=nth (a.2++(jfD d x a).2) (jgM a))/\(decide (jgn d x a)=true->nth (a.2++(jfD d x a).2) (jgM a)<U.la (U.tc (U.tk d.1)))/\(decide (jgn d x a)=true->0<=(a.1:Int))/\(decide (jgn d x a)=true->(a.1:Int)<U.la (U.tc (U.tk d.1)))/\((decide (jgn d x a)&&nh (U.tk d.1) d.2.1 (nth (a.2++(jfD d x a).2) (jgM a)) (a.1:Int))=true->(0:Int)<=0/\(0:Int)<(jfD d x a).2.length/\0<=nth (a.2++(jfD d x a).2) (jgM a)/\nth (a.2++(jfD d x a).2) (jgM a)<(↑(jfD d x a).1.length:Int)/\wn (nth (jfD d x a).1 (nth (a.2++(jfD d x a).2) (jgM a)).toNat+1)/\0<=(a.1:Int)/\(a.1:Int)<(jfD d x a).1.length/\a.2.length+(jfD d x a).2.length=(a.2++(jfD d x a).2).length/\0<(jfD d x a).2.length/\a.2.length+(jfD d x a).2.length+[(a.1:Int)].length<4611686018427387904/\((jfD d x a).2.length+[(a.1:Int)].length)*8<=140737488355328/\∀(pre:List Int),pre.length<=a.2.length->wn ((a.1:Int)+1)/\∃(b:Nat×List Int),(((a.1:Int)+1=(b.1:Int)/\(pre.length=b.2.length/\(jfD d x a).2.length+[(a.1:Int)].length=(jho d x b).2.length)/\True)/\pre++List.drop a.2.length (a.2++(jfD d x a).2)++[(a.1:Int)]=b.2++(jho d x b).2/\(jfD d x a).1.set (a.1:Int).toNat (nth (jfD d x a).1 (nth (a.2++(jfD d x a).2) (jgM a)).toNat+1)=(jho d x b).1/\True)/\(b.1<=(jfM d x).1.length/\b.2.length<=x.2.length/\jdc (U.tk d.1) d.2.1 (jhn d x) x.2.length)/\(jfM d x).1.length-b.1<(jfM d x).1.length-a.1)/\((decide (jgn d x a)&&nh (U.tk d.1) d.2.1 (nth (a.2++(jfD d x a).2) (jgM a)) (a.1:Int))=false->wn ((a.1:Int)+1)/\∃(b:Nat×List Int),(((a.2.length=b.2.length/\(jfD d x a).2.length=(jho d x b).2.length)/\(a.1:Int)+1=(b.1:Int)/\True)/\a.2++(jfD d x a).2=b.2++(jho d x b).2/\(jfD d x a).1=(jho d x b).1/\True)/\(b.1<=(jfM d x).1.length/\b.2.length<=x.2.length/\jdc (U.tk d.1) d.2.1 (jhn d x) x.2.length)/\(jfM d x).1.length-b.1<(jfM d x).1.length-a.1))/\(decide ((a.1:Int)<(jfM d x).1.length)=false->(0:Int)<=1/\(1:Int)<=(jfD d x a).2.length/\(↑(jfD d x a).2.length:Int)<=(jfD d x a).2.length/\∃(b:Nat×List Int),(((a.2.length+Int.toNat 1=b.2.length/\(↑(jfD d x a).2.length:Int).toNat-Int.toNat 1=(qi (U.tk d.1) d.2.1 b.1).2.length)/\True)/\(jfD d x a).1=(qi (U.tk d.1) d.2.1 b.1).1/\a.2++(jfD d x a).2=b.2++(qi (U.tk d.1) d.2.1 b.1).2/\True)/\(b.2.length<=b.1/\b.1<=(U.la (U.tc (U.tk d.1))).toNat)/\(U.la (U.tc (U.tk d.1))).toNat+1-b.1<(U.la (U.tc (U.tk d.1))).toNat+1-x.1))/\(decide ((0:Int)<(jfM d x).2.length)=false->((jfM d x).1,())=(lc (U.tk d.1) d.2.1,()))
theorem H5 {x:Int} (a:0<=x) (b:x<=4294967295):gM x 4294967295=x:=by
 obtain⟨n,rfl⟩:∃n:Nat,x=(n:Int):=⟨x.toNat,by omega⟩;rw[show(4294967295:Int)=((4294967295:Nat):Int) from rfl,BT.uand_nat (by omega) (by omega),show(4294967295:Nat)=2^32-1 from rfl,Nat.and_two_pow_sub_one_eq_mod,kO (by omega)]
theorem Kv:H2:=by
 unfold H2 ji3 jf8 jgL;rintro⟨x,y,⟨⟩⟩ b c a d;simp only at b c a d;have f:=H5 b (by omega);have g:=H5 a (by omega);have e:=H5 (x:=0) (by omega) (by omega);have h:x/2^Int.toNat 32=0:=kG b (by show x<2^32;omega);have i:y/2^Int.toNat 32=0:=kG a (by show y<2^32;omega);have k:0<=x*y:=Int.mul_nonneg b a;have l:x*y<=1000*1000:=Int.mul_le_mul c d a (by omega);have c1:x*y/2^Int.toNat 32=0:=kG k (by show x*y<2^32;omega);have j:(0:Int)/2^Int.toNat 32=0:=Int.zero_ediv _;simp only[f,g,h,i,Int.zero_mul,Int.mul_zero,Int.add_zero,c1,e,j]
 and_intros<;>first|omega|rfl|trivial
theorem H6:wZ PR 250 HZ:=wL Kv Tryz.func250 kcN koN
theorem Se:NI:=by
 rintro⟨x,y,⟨⟩⟩ a b c d;exact⟨fun h=>(by cases h),fun _=>⟨a,b,c,d,rfl⟩⟩
theorem NJ:wZ PR 245 NH:=wL Se Tryz.func245 (kcC H6 kcN) koN
theorem H7 {x:Int} {N n:Nat} (h:n<=N):(aM x N n).length=N:=by
 unfold aM;simp;omega
theorem Kw {x:Int} {N n:Nat} (_:n<=N):(aM x N n).take n=List.replicate n x:=by
 unfold aM;rw[List.take_append_of_le_length (by simp),zv (by simp)]
theorem V3 {x:Int} {N n:Nat} (h:n<=N):Uo (aM x N n) n (N-n) (List.replicate n x)=aM x N (n+min (N-n) n):=by
 unfold Uo;rw[Kw h,List.take_replicate,zu];unfold aM;rw[List.drop_append,zu,List.drop_of_length_le (by simp),jV,List.drop_replicate,<-List.replicate_append_replicate];congr 2;omega
theorem Db:Af:=by
 unfold Af jjM jiu ji4 jg6 jhR jhQ jgf;rintro⟨l,n,⟨⟩⟩ b g e;simp only at b g e;obtain⟨N,rfl⟩:∃N:Nat,n=(N:Int):=⟨n.toNat,by omega⟩;obtain⟨y,rfl⟩:∃y,l=[y]:=by
  cases l with
  |nil=>simp at b
  |cons y r=>cases r with
   |nil=>exact⟨y,rfl⟩
   |cons z r=>simp at b
 have c:(([y].length:Nat):Int)*(N:Int)=(N:Int):=(by simp);have f:nth [y] 0=y:=rfl
 dsimp only
 refine⟨fun h=> ?_,fun _ _=>⟨by simp,by simp,by omega,by omega,by simp,by simp,by omega,e,fun h=> ?_,fun _=> ?_⟩⟩;have:=ja h;omega;rw[c] at h;have h:(9223372036854775807:Int)<(N:Int):=(by simpa using h);omega;rw[c,f];simp only[jw,zu];refine⟨iZ6,by omega,tZ,by omega,by omega,⟨min 1 N,⟨⟨?_,tZ⟩,?_,tZ⟩,by omega,by omega⟩,fun x a i=>⟨fun h=> ?_,fun h=> ?_⟩⟩;rw[jT];simp only[jY,zq];omega;rcases zQ N with d|d;subst d;rfl;obtain⟨M,rfl⟩:∃M,N=M+1:=⟨N-1,by omega⟩;have:min 1 (M+1)=1:=(by omega);rw[this];simp[Uo,aM,List.replicate_succ];have h:=ja h;rw[H7 a.1] at h;simp only[H7 a.1,Int.toNat_zero,List.drop_zero,ky,Kw a.1,List.take_replicate,zu];refine⟨by omega,by omega,by omega,by omega,by omega,by omega,by omega,iZ6,x+min (N-x) x,⟨⟨by omega,tZ⟩,V3 a.1,tZ⟩,⟨by omega,by omega⟩,by omega⟩;have h:=jc h;rw[H7 a.1] at h;have h:x=N:=(by have:=a.1;omega);subst h;refine⟨?_,tZ⟩;unfold aM;rw[Nat.sub_self];simp
theorem Ag:ac PR 236 Ad:=sF Ae Db Tryz.func236 (kcC NJ kcN) koN
theorem jbZ {a b:List Int}:nth (a++b) (a.length+Int.toNat 0)=nth b 0:=by
 unfold nth;simp only[zc,Int.toNat_zero,zM];rw[jx (jk _),Nat.sub_self]
theorem Kx {t:TkD} {s:Int} (a:cU t):2<=U.la (U.tc t)/\U.la (U.tc t)<=5/\0<=G8 (U.tj t)/\G8 (U.tj t)<U.la (U.tc t):=by
 obtain⟨c1,c2,_⟩:=a;obtain⟨b,c,_⟩:=w8 c1;obtain⟨_,⟨d,e⟩,_⟩:=mF c2;exact⟨b,c,d,e⟩
theorem Ky:H4:=by
 unfold H4 jho jgM jgn jfD jhn jfM jgA;rintro⟨(_|t),s,⟨⟩⟩ h0 m;cases h0;have m:cU t:=m;obtain⟨l1,l2,j1,j2⟩:=Kx (s:=s) m;have w:U.tk (some t)=t:=rfl;obtain⟨n,A⟩:∃n,n=(U.la (U.tc t)).toNat:=⟨_,rfl⟩;obtain⟨v,hv⟩:∃v,v=(G8 (U.tj t)).toNat:=⟨_,rfl⟩;have Z:v<n:=(by omega);have X:∀k,jc9 (Mx t s) n v (qi t s k)/\((qi t s k).2=[]\/J9 (qi t s k).1+(qi t s k).2.length+k=n):=by
  intro k;rw[A,hv] at*;exact CX Z k
 refine⟨rfl,rfl,(by omega:0<=U.la (U.tc t)),(by omega:U.la (U.tc t)<=1000),rfl,j1,?_,rfl,⟨(0,[]),⟨⟨⟨rfl,rfl⟩,tZ⟩,rfl,?_,tZ⟩,jk _,jm _⟩,fun x hx S=>⟨fun j T=> ?_,fun h=> ?_⟩⟩;show G8 (U.tj t)<(((List.replicate (U.la (U.tc t)).toNat (nth [(-1:Int)] 0)).length:Nat):Int);rw[zu];omega;show[G8 (U.tj t)]=[]++[(((G8 (U.tj t)).toNat:Nat):Int)];rw[jV,Int.toNat_of_nonneg j1];obtain⟨k,pre⟩:=x;obtain⟨W,H⟩:=hx;simp only[w,List.drop_left] at W H j T S⊢;rw[<-A] at H⊢;obtain⟨B,o⟩:=X k;have j:0<(qi t s k).2.length:=(by have:=ja j;omega);have d:(qi t s k).2≠[]:=fun e=>by rw[e] at j;simp at j
 have F:=B.i.len;rcases o with o|o;exact absurd o d;have p:qi t s (k+1)=aD (Mx t s) n (qi t s k):=(by rw[A];rfl);generalize V:qi t s k=x0 at*;obtain⟨g,r0,a⟩:∃q r,x0.2=q::r:=by
  cases I:x0.2 with
  |nil=>exact absurd I d
  |cons q r=>exact⟨q,r,rfl⟩
 obtain⟨L,g2,g3⟩:=B.i.que g (by rw[a];simp);have y:nth x0.2 0=g:=(by rw[a];rfl);have hla:((n:Nat):Int)=U.la (U.tc t):=(by omega);have f:jdc t s (x0.1,x0.2) pre.length:=by
  unfold jdc;rw[<-A,<-hv];exact⟨B,d,by simp only;omega,by omega⟩
 refine⟨⟨(0,pre),⟨⟨rfl,⟨rfl,rfl⟩,tZ⟩,rfl,rfl,tZ⟩,jm _,jk _,f⟩,?_⟩;rintro⟨i,p5⟩ ⟨hi,Q,_⟩;simp only at hi Q;have C:InI (Mx t s) n v g.toNat i x0 (aa t s (x0.1,x0.2) i):=by
  have:=VV (J:=Mx t s) Z (q:=g.toNat) (by omega) g3 B.i B.le i (by omega);unfold aa;simp only[y];exact this
 have c:aa t s (x0.1,x0.2) (i+1)=tN (Mx t s) g.toNat (aa t s (x0.1,x0.2) i) i:=by
  unfold aa;simp only[y];exact GK _ _ _ _
 have D:i=n->qi t s (k+1)=((aa t s (x0.1,x0.2) i).1,(aa t s (x0.1,x0.2) i).2.drop 1):=by
  intro e;subst e;rw[p];have:aD (Mx t s) i x0=((tO (Mx t s) g.toNat x0 i).1,(tO (Mx t s) g.toNat x0 i).2.drop 1):=by
   clear p c C f F d B X V;obtain⟨st,qu⟩:=x0;simp only at a;subst a;rfl
  rw[this];unfold aa;simp only[y]
 generalize hFI:aa t s (x0.1,x0.2) i=u at*;obtain⟨l,P⟩:=C.pre;have hQ:nth u.2 0=g:=(by rw[P,a];rfl);have G:0<u.2.length:=(by rw[P,a];simp);have hmu:=C.mu;have hFl:=C.i.len;have E:∀i:Nat,Mx t s g.toNat i=nh t s g (i:Int):=by
  intro i;unfold Mx;rw[Int.toNat_of_nonneg L]
 simp only[jbZ,hQ];simp only[jw];refine⟨fun h=> ?_,fun h=> ?_⟩;have h:i<n:=(by have:=ja h;omega);refine⟨by omega,by omega,fun _=>by omega,fun _=>by omega,fun _=>rfl,fun _=>m,fun _=>L,fun _=>by omega,fun _=>by omega,fun _=>by omega,fun z=> ?_,fun z=> ?_⟩;rw[ji] at z;have h3:=ja z.1;have Y:=C.i.low g.toNat (by omega);have b:aa t s (x0.1,x0.2) (i+1)=(u.1.set i (nth u.1 g.toNat+1),u.2++[(i:Int)]):=by
  rw[c];unfold tN;rw[je ⟨h3,by rw[E];exact z.2⟩]
 refine⟨by omega,by omega,L,by omega,iZ6,by omega,by omega,by simp,G,by simp only[jY,zq];omega,by simp only[jY,zq];omega,fun K R=>⟨iZ6,(i+1,K),⟨⟨by simp,⟨rfl,?_⟩,tZ⟩,?_,?_,tZ⟩,⟨by simp only;omega,by simp only;omega,f⟩,by simp only;omega⟩⟩;rw[b];simp;rw[b,jM];rw[b];have b:aa t s (x0.1,x0.2) (i+1)=u:=by
  rw[c];unfold tN;rw[jd (fun N=>by
   rw[E] at N;rw[N.2,jD N.1] at z;cases z)]
 refine⟨iZ6,(i+1,p5),⟨⟨⟨rfl,?_⟩,by simp,tZ⟩,?_,?_,tZ⟩,⟨by simp only;omega,by simp only;omega,f⟩,by simp only;omega⟩;rw[b];rw[b];rw[b];have h:i=n:=(by have:=jc h;omega);have O:=D h;have M:u.2=g::(r0++l):=(by rw[P,a];rfl);refine⟨by omega,by omega,by omega,(k+1,p5++[g]),⟨⟨⟨?_,?_⟩,tZ⟩,?_,?_,tZ⟩,⟨by simp only[jL,jY,zq];omega,by simp only;omega⟩,by simp only;omega⟩;simp only[jL,jY,zq];rfl;rw[O];simp only[zD];rfl;rw[O];rw[O,M];simp;simp only[w] at h⊢;have h:(qi t s x.1).2=[]:=by
  have:=jc h;exact zk (by omega)
 have hk:x.1<=n:=(by have:=hx.2;rw[w,<-A] at this;exact this);have h1:aP (Mx t s) (U.la (U.tc t)).toNat (G8 (U.tj t)).toNat ((U.la (U.tc t)).toNat+1)=qi t s x.1:=Y5 (k:=x.1) h _ (by rw[<-A];omega);show((qi t s x.1).1,())=((aP (Mx t s) (U.la (U.tc t)).toNat (G8 (U.tj t)).toNat ((U.la (U.tc t)).toNat+1)).1,());rw[h1]
theorem H8:wZ PR 215 gJ:=vl H3 Ky Tryz.func215 (kcC Ac kcN) (koC Ag koN)
namespace U
def dq (t:TkD) (o:Int) (q:List (Int×PeD×Unit)):Int:=q.foldl (fun o x=>uor o (yB t x.2.1)) o
def fT (q:List (Int×PeD×Unit)):Bool:=q.any (fun x=>jcR x.2.1)
def FU (b:Bool) (o k:Int):Int:=if b=true then uor o k else o
def vV (t:TkD) (s:Int):Int:=FU (decide (nth (lc t s) (Mw (tj t)).toNat<0)) (FU (jey (tl t)&& !fT (xO t s)) (FU (decide (BT.size s≠max (jad (tj t)) (jcS (tl t)))) (dq t 0 (xO t s)) 8) 16) 32
def Ja (c:CrD) (n:Int):Bool:=wa n 0 (2^(wj c).length-1)
def bN (c:CrD) (j:JbD) (n:Int):Int:=if vH c j≠0 then vH c j else if Ja c n=true then 0 else 1
def jdd (c:CrD) (j:JbD) (n:Int):Int:=if bN c j n=0 then vV (c,j,dp c j,()) n else 0
def cV (c:CrD) (j:JbD) (n:Nat):List Int:=((List.range n).filter (fun i=>decide (yB (c,j,dp c j,()) (nth (wj c) i)=0))).map (fun(i:Nat)=>(i:Int))
def dR (c:CrD) (j:JbD):List Int:=if vH c j=0 then cV c j (wj c).length else[]
end U
def yz:wS:=⟨[.val (.ptr tTk),.val tPe],[.uint .u64],false,fun d=>[d.1.isSome=true,cU (U.tk d.1)],fun d=>(yB (U.tk d.1) d.2.1,())⟩
def V4:JY [.int,tPe]:={ps:=[.ref (.ptr tTk),.own (.box 195 [.dat (.uint .u64)]) true,.own (.box 4 [.dat .bool]) true],slots:=[2,4,5],dst:=65,pre:=fun d=>[d.1.isSome=true,cU (U.tk d.1)],G:=fun d q=>((dq (U.tk d.1) d.2.1.1 q,()),(d.2.2.1.1||fT q,()),()),seq:=QI}
def Dc:Nat->Option ((ts:List Ty)×JY ts):=fun r=>match r with
 |4=>some ⟨[.int,tPe],V4⟩
 |_=>none
def ll:wS:=⟨[.val (.ptr tTk),.val (.uint .u64)],[.uint .u64],false,fun d=>[d.1.isSome=true,cU (U.tk d.1),BT.qd d.2.1],fun d=>(vV (U.tk d.1) d.2.1,())⟩
abbrev jfS (d:Option (CrD×JbD×LwD×Unit)×Int×Unit):=(wK (((0:Int),[],[],()),((0:Int),(0:Int),(0:Int),(0:Int),(0:Int),(0:Int),()),((0:Int),(0:Int),false,()),()) d.1)
abbrev jgN (d:Option (CrD×JbD×LwD×Unit)×Int×Unit):=(nth (lc (U.tk d.1) d.2.1) (jfS d).2.1.1.toNat<0)
abbrev jgB (d:Option (CrD×JbD×LwD×Unit)×Int×Unit):=(vV (U.tk d.1) d.2.1,())
abbrev ji5:=(fun(a:List (Int×PeD×Unit))=>false)
abbrev jiv (d:Option (CrD×JbD×LwD×Unit)×Int×Unit):=(↑(lc (U.tk d.1) d.2.1).length:Int)
def lm:Prop:=∀(d:Option (CrD×JbD×LwD×Unit)×Int×Unit),d.1.isSome=true->cU (U.tk d.1)->BT.qd d.2.1->(d.1.isSome=true/\(wj (U.tc (U.tk d.1))).length<=60)/\(d.1.isSome=true/\cU (U.tk d.1)/\True)/\(d.1,(dq (U.tk d.1) (0:Int) [],()),(false||fT [],()),())=(d.1,((0:Int),()),(false,()),())/\(∀(q:List (Int×PeD×Unit)) (x:Int×PeD×Unit) (rest:List (Int×PeD×Unit)),q++x::rest=xO (U.tk d.1) d.2.1->y4 ji5 q->d.1.isSome=true/\cU (U.tk d.1)/\qF/\((uor (dq (U.tk d.1) (0:Int) q) (yB (U.tk d.1) x.2.1),()),(false||fT q||x.2.1.q4.1,()),())=((dq (U.tk d.1) (0:Int) (q++[x]),()),(false||fT (q++[x]),()),()))/\(∀(xs:List (Int×PeD×Unit)),xs=xO (U.tk d.1) d.2.1->y4 ji5 xs->BT.qd d.2.1/\d.1.isSome=true/\d.1.isSome=true/\(decide (BT.size d.2.1≠max (jfS d).2.1.q4.2.1 (jfS d).2.2.1.2.1)=true->d.1.isSome=true/\(((jfS d).2.2.1.2.2.1&& !(false||fT xs))=true->d.1.isSome=true/\cU (U.tk d.1)/\d.1.isSome=true/\(0:Int)<=(jfS d).2.1.1/\(jfS d).2.1.1<(jiv d)/\(decide (jgN d)=true->(uor (uor (uor (dq (U.tk d.1) (0:Int) xs) (8:Int)) (16:Int)) (32:Int),())=(jgB d))/\(decide (jgN d)=false->(uor (uor (dq (U.tk d.1) (0:Int) xs) (8:Int)) (16:Int),())=(jgB d)))/\(((jfS d).2.2.1.2.2.1&& !(false||fT xs))=false->d.1.isSome=true/\cU (U.tk d.1)/\d.1.isSome=true/\(0:Int)<=(jfS d).2.1.1/\(jfS d).2.1.1<(jiv d)/\(decide (jgN d)=true->(uor (uor (dq (U.tk d.1) (0:Int) xs) (8:Int)) (32:Int),())=(jgB d))/\(decide (jgN d)=false->(uor (dq (U.tk d.1) (0:Int) xs) (8:Int),())=(jgB d))))/\(decide (BT.size d.2.1≠max (jfS d).2.1.q4.2.1 (jfS d).2.2.1.2.1)=false->d.1.isSome=true/\(((jfS d).2.2.1.2.2.1&& !(false||fT xs))=true->d.1.isSome=true/\cU (U.tk d.1)/\d.1.isSome=true/\(0:Int)<=(jfS d).2.1.1/\(jfS d).2.1.1<(jiv d)/\(decide (jgN d)=true->(uor (uor (dq (U.tk d.1) (0:Int) xs) (16:Int)) (32:Int),())=(jgB d))/\(decide (jgN d)=false->(uor (dq (U.tk d.1) (0:Int) xs) (16:Int),())=(jgB d)))/\(((jfS d).2.2.1.2.2.1&& !(false||fT xs))=false->d.1.isSome=true/\cU (U.tk d.1)/\d.1.isSome=true/\(0:Int)<=(jfS d).2.1.1/\(jfS d).2.1.1<(jiv d)/\(decide (jgN d)=true->(uor (dq (U.tk d.1) (0:Int) xs) (32:Int),())=(jgB d))/\(decide (jgN d)=false->(dq (U.tk d.1) (0:Int) xs,())=(jgB d)))))/\∀(q:List (Int×PeD×Unit)) (x:Int×PeD×Unit) (rest:List (Int×PeD×Unit)),q++x::rest=xO (U.tk d.1) d.2.1->y4 ji5 q->false=true->(dq (U.tk d.1) (0:Int) (q++[x]),())=(jgB d)
theorem pR:(QF (Mv 64 [(180,yz),(214,gI),(215,gJ)] [] [(213,wX)] []) ll (fun _ _=>none) (hkC (Mv 64 [(180,yz),(214,gI),(215,gJ)] [] [(213,wX)] []) (fun _=>none) Dc [] []) Tryz.f186 (qh Tryz.f186))=lm:=by kernel_rfl
def V5:wS:=⟨[.val tCr,.val tJb,.val .int],[.ptr tTk,.int],false,fun _=>[],fun d=>(G9 d.1 d.2.1,bN d.1 d.2.1 d.2.2.1,())⟩
abbrev jhp (d:CrD×JbD×Int×Unit):=(vH d.1 d.2.1=0)
abbrev jjN (d:CrD×JbD×Int×Unit):=(decide (jhp d)&& !wa d.2.2.1 (0:Int) ((1:Int)*2^(d.1.2.1.length:Int).toNat-1))
def V6:Prop:=∀(d:CrD×JbD×Int×Unit),(decide (jhp d)=true->d.1.2.1.length<4611686018427387904)->(decide (jhp d)=true->0<=(d.1.2.1.length:Int))/\(decide (jhp d)=true->(d.1.2.1.length:Int)<=64)/\(decide (jhp d)=true->wn ((1:Int)*2^(d.1.2.1.length:Int).toNat))/\(decide (jhp d)=true->wn ((1:Int)*2^(d.1.2.1.length:Int).toNat-1))/\((jjN d)=true->(G9 d.1 d.2.1,(1:Int),())=(G9 d.1 d.2.1,bN d.1 d.2.1 d.2.2.1,()))/\((jjN d)=false->(G9 d.1 d.2.1,vH d.1 d.2.1,())=(G9 d.1 d.2.1,bN d.1 d.2.1 d.2.2.1,()))
def NK:wS:=⟨[.val tCr,.val tJb,.val .int],[.int,.int],false,fun _=>[],fun d=>(jdd d.1 d.2.1 d.2.2.1,bN d.1 d.2.1 d.2.2.1,())⟩
def NL:Prop:=∀(d:CrD×JbD×Int×Unit),(decide (bN d.1 d.2.1 d.2.2.1≠0)=true->((0:Int),bN d.1 d.2.1 d.2.2.1,())=(jdd d.1 d.2.1 d.2.2.1,bN d.1 d.2.1 d.2.2.1,()))/\(decide (bN d.1 d.2.1 d.2.2.1≠0)=false->0<=d.2.2.1/\d.2.2.1<=18446744073709551615/\(G9 d.1 d.2.1).isSome=true/\cU (U.tk (G9 d.1 d.2.1))/\BT.qd d.2.2.1/\wn (vV (U.tk (G9 d.1 d.2.1)) d.2.2.1)/\(vV (U.tk (G9 d.1 d.2.1)) d.2.2.1,(0:Int),())=(jdd d.1 d.2.1 d.2.2.1,bN d.1 d.2.1 d.2.2.1,()))
def Y7:wS:=⟨[.val tCr,.val tJb],[.slice .int,.int],false,fun _=>[],fun d=>(dR d.1 d.2.1,vH d.1 d.2.1,())⟩
def Y8:Ann:=fun r=>match r with
 |6=>some fun σ=>{X:=Nat,sl:=fun i=>[(23,.dat .int (i:Int)),(8,.own 8 .int)],ob:=fun i=>[(8,some (.row 3 .int false .yes (cV (gd tCr σ 0) (gd tJb σ 1) i)))],inv:=fun i=>i<=(wj (gd tCr σ 0)).length,mu:=fun i=>(wj (gd tCr σ 0)).length-i}
 |_=>none
def Y9:Prop:=∀(d:CrD×JbD×Unit),(decide (vH d.1 d.2.1≠0)=true->([],vH d.1 d.2.1,())=(dR d.1 d.2.1,vH d.1 d.2.1,()))/\(decide (vH d.1 d.2.1≠0)=false->d.1.2.1.length<4611686018427387904->(∃(x:Nat),((0=(x:Int)/\True/\True)/\cV d.1 d.2.1 x=[]/\True)/\x<=(wj d.1).length)/\∀(x:Nat),x<=(wj d.1).length->(decide ((x:Int)<d.1.2.1.length)=true->0<=(x:Int)/\(x:Int)<d.1.2.1.length/\(G9 d.1 d.2.1).isSome=true/\cU (U.tk (G9 d.1 d.2.1))/\(decide (yB (U.tk (G9 d.1 d.2.1)) (nth d.1.2.1 (x:Int).toNat)=0)=true->((cV d.1 d.2.1 x).length+[(x:Int)].length)*8<=140737488355328/\wn ((x:Int)+1)/\∃(a:Nat),(((x:Int)+1=(a:Int)/\True/\True)/\cV d.1 d.2.1 x++[(x:Int)]=cV d.1 d.2.1 a/\True)/\a<=(wj d.1).length/\(wj d.1).length-a<(wj d.1).length-x)/\(decide (yB (U.tk (G9 d.1 d.2.1)) (nth d.1.2.1 (x:Int).toNat)=0)=false->wn ((x:Int)+1)/\∃(a:Nat),((True/\(x:Int)+1=(a:Int)/\True)/\cV d.1 d.2.1 x=cV d.1 d.2.1 a/\True)/\a<=(wj d.1).length/\(wj d.1).length-a<(wj d.1).length-x))/\(decide ((x:Int)<d.1.2.1.length)=false->(cV d.1 d.2.1 x,(0:Int),())=(dR d.1 d.2.1,vH d.1 d.2.1,())))
theorem V7 (a b c:Bool):0<=Ug a b c/\Ug a b c<=7:=by
 unfold Ug jdb;cases a<;>cases b<;>cases c<;>simp
theorem Dd (t:TkD) (p:PeD):0<=yB t p/\yB t p<=7:=V7 _ _ _
theorem Kz {s:Int} (h:0<=s/\s<=1000):BT.qd s:=by unfold BT.qd;omega
theorem V8 {a b:Int} (c:0<=a/\a<64) (d:0<=b/\b<64):0<=uor a b/\uor a b<64:=by
 obtain⟨n,rfl⟩:∃n:Nat,a=(n:Int):=⟨a.toNat,by omega⟩;obtain⟨m,rfl⟩:∃m:Nat,b=(m:Int):=⟨b.toNat,by omega⟩;rw[BT.uor_nat (by omega) (by omega)];have:n|||m<2^6:=kw (by omega) (by omega);omega
theorem NM (t:TkD):∀(q:List (Int×PeD×Unit)) (o:Int),(0<=o/\o<64)->0<=dq t o q/\dq t o q<64
 |[],o,h=>h
 |x::q,o,h=>by
  have:=Dd t x.2.1
  exact NM t q _ (V8 h ⟨by omega,by omega⟩)
theorem De {b:Bool} {o k:Int} (h:0<=o/\o<64) (hk:0<=k/\k<64):0<=FU b o k/\FU b o k<64:=by
 unfold FU
 split
 exact V8 h hk;exact h
theorem Sf (t:TkD) (s:Int):0<=vV t s/\vV t s<64:=by
 unfold vV;exact De (De (De (NM t _ _ (by omega)) (by omega)) (by omega)) (by omega)
theorem V9 (t:TkD) (o:Int) (q:List (Int×PeD×Unit)) (x:Int×PeD×Unit):dq t o (q++[x])=uor (dq t o q) (yB t x.2.1):=by
 unfold dq;rw[jS];rfl
theorem Za {t:TkD} {s:Int} (a:cU t):((lc t s).length:Int)=U.la (U.tc t):=by
 obtain⟨f,g,c,d⟩:=Kx (s:=s) a;have b:(G8 (U.tj t)).toNat<(U.la (U.tc t)).toNat:=(by omega);have:=(CX (J:=Mx t s) b ((U.la (U.tc t)).toNat+1)).1.i.len;have e:(lc t s).length=(U.la (U.tc t)).toNat:=this;omega
theorem Df:lm:=by
 unfold lm jiv ji5 jgB jgN jfS Prod.q4;rintro⟨(_|t),s,⟨⟩⟩ n a c;cases n;have a:cU t:=a;have c:BT.qd s:=c;obtain⟨c1,c2,_⟩:=id a;obtain⟨_,_,p,_⟩:=w8 c1;obtain⟨⟨m,r⟩,_⟩:=mF c2;have o:=Za (s:=s) a;have f:U.tk (some t)=t:=rfl;have b:0<=Mw (U.tj t)/\Mw (U.tj t)<(((lc t s).length:Nat):Int):=⟨m,by omega⟩;refine⟨⟨rfl,(by omega:(wj (U.tc t)).length<=60)⟩,⟨rfl,a,tZ⟩,rfl,fun q x rest u _=>⟨rfl,a,rfl,?_⟩,fun xs g _=>⟨c,rfl,rfl,?_⟩,fun q x rest _ _ h=>by cases h⟩;simp only[f,V9];unfold fT;simp only[kV,List.any_cons,List.any_nil,kQ,Bool.false_or];rfl;simp only[f] at g⊢;subst g;have key:∀(j k l:Bool),decide (BT.size s≠max (jad (U.tj t)) (jcS (U.tl t)))=j->(jey (U.tl t)&& !fT (xO t s))=k->decide (nth (lc t s) (Mw (U.tj t)).toNat<0)=l->
  FU l (FU k (FU j (dq t 0 (xO t s)) 8) 16) 32=vV t s:=by
  intro j k l i e d;unfold vV;rw[i,e,d]
 refine⟨fun i=>⟨rfl,fun e=>⟨rfl,a,rfl,b.1,b.2,fun d=> ?_,fun d=> ?_⟩,fun e=>⟨rfl,a,rfl,b.1,b.2,fun d=> ?_,fun d=> ?_⟩⟩,fun i=>⟨rfl,fun e=>⟨rfl,a,rfl,b.1,b.2,fun d=> ?_,fun d=> ?_⟩,fun e=>⟨rfl,a,rfl,b.1,b.2,fun d=> ?_,fun d=> ?_⟩⟩⟩<;>
  (rw[Bool.false_or] at e;have:=key _ _ _ i e d;rw[<-this];rfl)
theorem H9 {c:CrD} (h:wu c=true):(0:Int)<2^(wj c).length/\(2:Int)^(wj c).length<=256:=by
 obtain⟨_,_,a,_⟩:=w8 h;rw[BT.Bz];have b:2^(wj c).length<=2^8:=Nat.pow_le_pow_right (by decide) a;have d:0<2^(wj c).length:=Nat.pow_pos (by decide);omega
theorem Zb:V6:=by
 unfold V6 jjN jhp;rintro⟨c,j,n,⟨⟩⟩ _;have e:∀l:Nat,(1:Int)*2^((l:Int)).toNat=2^l:=fun l=>by rw[Int.one_mul,jw]
 simp only[e];refine⟨fun _=>by omega,fun h=> ?_,fun h=> ?_,fun h=> ?_,fun h=> ?_,fun h=> ?_⟩;have:=(w8 (pQ (ja h)).1).2.2.1;have this:c.2.1.length<=8:=this;omega;have:=H9 (pQ (ja h)).1;have this:(0:Int)<2^c.2.1.length/\(2:Int)^c.2.1.length<=256:=this;exact iZ6;have:=H9 (pQ (ja h)).1;have this:(0:Int)<2^c.2.1.length/\(2:Int)^c.2.1.length<=256:=this;exact iZ6;rw[ji] at h;have a:=ja h.1;have b:Ja c n=false:=by
  have d:wa n 0 (2^c.2.1.length-1)=false:=(by simpa using h.2);exact d
 unfold bN;rw[jd (by omega),jd (by rw[b];simp)];unfold bN;by_cases a:vH c j=0;rw[jD a,Bool.true_and] at h;have b:Ja c n=true:=by
  have d:wa n 0 (2^c.2.1.length-1)=true:=(by simpa using h);exact d
 rw[jd (by omega),je b,a];rw[je a]
theorem Wa:wZ PR 185 V5:=wL Zb Tryz.func185 (kcC Ks (kcC ae kcN)) koN
theorem Sg {c:CrD} {j:JbD} {n:Int} (h:bN c j n=0):vH c j=0/\0<=n/\n<2^(wj c).length:=by
 unfold bN at h
 split at h
 rename_i b;omega;rename_i b
 split at h
 rename_i a;unfold Ja wa at a;simp only[ji,jp] at a;exact⟨by omega,a.1,by omega⟩;omega
theorem Si:NL:=by
 rintro⟨c,j,n,⟨⟩⟩;refine⟨fun h=> ?_,fun h=> ?_⟩;have h:bN c j n≠0:=ja h;simp only;unfold jdd;rw[jd h];have h:bN c j n=0:=(by simpa using h);obtain⟨d,e,f⟩:=Sg h;obtain⟨b,e2⟩:=V1 d;have i:=H9 (pQ d).1;have a:U.tk (G9 c j)=(c,j,dp c j,()):=(by rw[b];rfl);have g:=Sf (c,j,dp c j,()) n;simp only[a];refine⟨e,by omega,by rw[b];rfl,e2,Kz ⟨e,by omega⟩,iZ6,?_⟩;unfold jdd;rw[je h,h]
theorem GN (c:CrD) (j:JbD) (n:Nat):cV c j (n+1)=cV c j n++(if yB (c,j,dp c j,()) (nth (wj c) n)=0 then[(n:Int)] else[]):=by
 unfold cV;rw[L.yj,zw];by_cases h:yB (c,j,dp c j,()) (nth (wj c) n)=0;rw[je (jD h),je h];rfl;rw[jd (by simpa using h),jd h];rfl
theorem Wb (c:CrD) (j:JbD) (n:Nat):(cV c j n).length<=n:=by
 unfold cV;rw[zj];exact jF (zF _ _) (by simp)
theorem jb0:Y9:=by
 rintro⟨c,j,⟨⟩⟩;refine⟨fun h=> ?_,fun h _=>⟨⟨0,⟨⟨rfl,tZ,tZ⟩,rfl,tZ⟩,jm _⟩,fun x f=>⟨fun a=> ?_,fun a=> ?_⟩⟩⟩;have h:vH c j≠0:=ja h;simp only;unfold dR;rw[jd h];have h:vH c j=0:=(by simpa using h);obtain⟨e,e2⟩:=V1 h;have d:U.tk (G9 c j)=(c,j,dp c j,()):=(by rw[e];rfl);have a:x<(wj c).length:=by
  have a:=ja a;have a:(x:Int)<(wj c).length:=a;omega
 have g:(x:Int)<(wj c).length:=(by omega);have i:=(w8 (pQ h).1).2.2.1;have k:=Wb c j x;simp only[d,jw];refine⟨by omega,g,by rw[e];rfl,e2,fun b=>⟨by simp only[jY,zq];omega,iZ6,x+1,⟨⟨by simp,tZ,tZ⟩,?_,tZ⟩,a,by omega⟩,fun b=>⟨iZ6,x+1,⟨⟨tZ,by simp,tZ⟩,?_,tZ⟩,a,by omega⟩⟩;have b:yB (c,j,dp c j,()) (nth (wj c) x)=0:=ja b;rw[GN,je b];have b:¬yB (c,j,dp c j,()) (nth (wj c) x)=0:=jc b;rw[GN,jd b,j7];have h:vH c j=0:=(by simpa using h);have a:(wj c).length<=x:=by
  have a:=jc a;have a:¬(x:Int)<(wj c).length:=a;omega
 have f:x<=(wj c).length:=f;simp only;unfold dR;rw[je h,h,show x=(wj c).length by omega]
def Dg:Ann:=fun r=>match r with
 |2=>some fun σ=>{X:=List (Int×Int)×Int,sl:=fun x=>[(4,.dat (.uint .u64) x.2)],ob:=fun x=>[(37,some (.iter .int .int x.1 none))],inv:=fun x=>bM (tQ (U.tk (gd (.ptr tTk) σ 0)) (gd tPe σ 1)) x.1 x.2,mu:=fun x=>x.1.length}
 |_=>none
abbrev jg7 (d:Option (CrD×JbD×LwD×Unit)×PeD×Unit):=(wK (((0:Int),[],[],()),((0:Int),(0:Int),(0:Int),(0:Int),(0:Int),(0:Int),()),((0:Int),(0:Int),false,()),()) d.1)
def Dh:Prop:=∀(d:Option (CrD×JbD×LwD×Unit)×PeD×Unit),d.1.isSome=true->cU (U.tk d.1)->d.1.isSome=true/\d.1.isSome=true/\(0:Int)<=(jg7 d).2.1.2.2.2.1/\(jg7 d).2.1.2.2.2.1<=64/\d.1.isSome=true/\(0:Int)<=(jg7 d).2.1.q4.1/\(jg7 d).2.1.q4.1<=64/\[(0:Int),(1:Int),(2:Int)].Nodup/\∀(l:List (Int×Int)),l.Perm [((0:Int),jdb !d.2.1.2.2.2.1.any fun(e:Int)=>decide (e=(jg7 d).2.1.2.2.1)),((1:Int),fZ (d.2.1.2.1/(2:Int)^(jg7 d).2.1.2.2.2.1.toNat) (1:Int)),((2:Int),fZ (d.2.1.2.2.1/(2:Int)^(jg7 d).2.1.q4.1.toNat) (1:Int))]->(((∃(x:List (Int×Int)×Int),((0=x.2/\True)/\l=x.1/\True)/\bM (tQ (U.tk d.1) d.2.1) x.1 x.2)/\∀(x:List (Int×Int)×Int),bM (tQ (U.tk d.1) d.2.1) x.1 x.2->(x.1=[]->(false=true->False)/\(qF->(x.2,())=(yB (U.tk d.1) d.2.1,())))/\∀(pre:List (Int×Int)) (a:Int×Int) (b:List (Int×Int)),x.1=pre++a::b->(true=true->(decide (a.2=0)=true->0<=a.1/\a.1<=64/\(0:Int)<=1*2^a.1.toNat/\(1:Int)*2^a.1.toNat<=18446744073709551615/\∃(c:List (Int×Int)×Int),((uor x.2 ((1:Int)*2^a.1.toNat)=c.2/\True)/\pre++b=c.1/\True)/\bM (tQ (U.tk d.1) d.2.1) c.1 c.2/\c.1.length<x.1.length)/\(decide (a.2=0)=false->∃(c:List (Int×Int)×Int),((x.2=c.2/\True)/\pre++b=c.1/\True)/\bM (tQ (U.tk d.1) d.2.1) c.1 c.2/\c.1.length<x.1.length))/\(true=false->(x.2,())=(yB (U.tk d.1) d.2.1,())))/\True)/\True
theorem Zc (z:Int):fZ z 1=0\/fZ z 1=1:=by
 unfold fZ;rw[BitVec.toNat_and];have a:(BitVec.ofInt 64 1).toNat=1:=rfl;rw[a,kF];rcases Nat.mod_two_eq_zero_or_one (BitVec.ofInt 64 z).toNat with h|h;rw[h];exact .inl rfl;rw[h];exact .inr rfl
theorem QJ (s n:Int):(fZ (s/2^n.toNat) 1=0)↔(!qf s n)=true:=by
 unfold qf;rcases Zc (s/2^n.toNat) with h|h<;>rw[h]<;>simp
theorem Zd (a b c:Bool) (p:Nat):BT.has (Ug a b c) p=true↔(a=true/\p=0)\/(b=true/\p=1)\/(c=true/\p=2):=by
 match p with
 |0=>cases a<;>cases b<;>cases c<;>decide
 |1=>cases a<;>cases b<;>cases c<;>decide
 |2=>cases a<;>cases b<;>cases c<;>decide
 |p+3=>
  have h:=V7 a b c;have:BT.has (Ug a b c) (p+3)=false:=by
   cases d:BT.has (Ug a b c) (p+3) with
   |false=>rfl
   |true=>have:=BT.has_lt (k:=3) h.1 (by omega) d;omega
  rw[this];simp
theorem Ze (t:TkD) (p:PeD) (k:Nat):(∃e∈tQ t p,e.2=0/\e.1.toNat=k)↔BT.has (yB t p) k=true:=by
 unfold yB;rw[Zd];have c:jdb (!cT p (Yh (U.tj t)))=0↔cT p (Yh (U.tj t))=true:=by
  unfold jdb;cases cT p (Yh (U.tj t))<;>simp
 have e2:=QJ (U.fd p) (PM (U.tj t));have d:=QJ (U.cl p) (eE (U.tj t));unfold tQ;simp only[jj,List.not_mem_nil,or_false];rw[<-c,<-e2,<-d];constructor;rintro⟨e,(rfl|rfl|rfl),a,b⟩;exact .inl ⟨a,b.symm⟩;exact .inr (.inl ⟨a,b.symm⟩);exact .inr (.inr ⟨a,b.symm⟩);rintro(⟨a,b⟩|⟨a,b⟩|⟨a,b⟩);exact⟨_,.inl rfl,a,b.symm⟩;exact⟨_,.inr (.inl rfl),a,b.symm⟩;exact⟨_,.inr (.inr rfl),a,b.symm⟩
theorem Zf {t:TkD} {p:PeD} {e:Int×Int} (h:e∈tQ t p):0<=e.1/\e.1<=2:=by
 unfold tQ at h;simp only[jj,List.not_mem_nil,or_false] at h;rcases h with rfl|rfl|rfl<;>simp
theorem Sj (t:TkD) (p:PeD):(tQ t p).Nodup:=by
 unfold tQ;simp
theorem NN {t:TkD} {p:PeD} {l:List (Int×Int)} (h:l.Perm (tQ t p)):bM (tQ t p) l 0:=by
 refine⟨BT.ED,h.symm.nodup (Sj t p),fun e c=>h.mem_iff.1 c,fun k=> ?_⟩;rw[BT.tY];constructor;intro h;cases h;rintro⟨e,a,b,_⟩;exact absurd (h.mem_iff.2 a) b
theorem Sk {t:TkD} {p:PeD} {s:Int} (h:bM (tQ t p) [] s):s=yB t p:=by
 obtain⟨a,_,_,c⟩:=h;refine BT.ext a (Kz (by have:=Dd t p;omega)) (fun k=> ?_);rw[jZ,c,<-Ze];constructor;rintro⟨e,a,_,b⟩;exact⟨e,a,b⟩;rintro⟨e,a,b⟩;exact⟨e,a,by simp,b⟩
theorem GO {all pre a:List (Int×Int)} {e:Int×Int} {s j:Int} (h:bM all (pre++e::a) s) (p:BT.qd j) (hk:∀k,BT.has j k=true↔BT.has s k=true\/(e.2=0/\e.1.toNat=k)):bM all (pre++a) j:=by
 obtain⟨q,m,l,n⟩:=h;have i:(e::(pre++a)).Nodup:=List.perm_middle.nodup m;have b:∀x,x∈pre++e::a↔x=e\/x∈pre++a:=fun x=>by rw[List.perm_middle.mem_iff,jj]
 rw[zr] at i;refine⟨p,i.2,fun x c=>l x ((b x).2 (.inr c)),fun k=> ?_⟩;rw[hk,n];constructor;rintro(⟨x,d,f,g⟩|⟨d,f⟩);exact⟨x,d,fun c=>f ((b x).2 (.inr c)),g⟩;exact⟨e,l e ((b e).2 (.inl rfl)),i.1,d,f⟩;rintro⟨x,d,f,g⟩;by_cases c:x=e;subst c;exact .inr g;exact .inl ⟨x,d,fun o=>by rcases(b x).1 o with h|h;exact c h;exact f h,g⟩
theorem E3:Dh:=by
 unfold Dh jg7 Prod.q4;rintro⟨(_|t),p,⟨⟩⟩ s d;cases s;have d:cU t:=d;have r:U.tk (some t)=t:=rfl;obtain⟨c1,c2,_⟩:=id d;obtain⟨_,_,_,⟨m,o⟩,⟨n,q⟩,_⟩:=mF c2;have m:0<=t.2.1.2.2.2.1:=m;have o:t.2.1.2.2.2.1<=7:=o;have n:0<=t.2.1.2.2.2.2.1:=n;have q:t.2.1.2.2.2.2.1<=3:=q;refine⟨rfl,rfl,m,by simp only[wK];omega,rfl,n,by simp only[wK];omega,by decide,fun l w=>⟨⟨⟨⟨(l,0),⟨⟨rfl,tZ⟩,rfl,tZ⟩,NN w⟩,fun x b=>⟨fun h=>⟨fun h=>(by cases h),fun _=> ?_⟩,fun pre e a h=>⟨fun _=> ?_,fun h=>(by cases h)⟩⟩⟩,tZ⟩,tZ⟩⟩;rw[h] at b;rw[Sk b];rw[h] at b;have u:e∈tQ t p:=b.2.2.1 e (by simp);have hk:=Zf u;obtain⟨k,g,v⟩:∃k:Nat,e.1=(k:Int)/\k<=2:=⟨e.1.toNat,by omega,by omega⟩;have y:(1:Int)*2^k=2^k:=Int.one_mul _;have c:(pre++a).length<x.1.length:=(by rw[h];simp);have i:BT.qd ((2:Int)^k):=BT.ld (by omega);refine⟨fun f=> ?_,fun f=> ?_⟩;have f:e.2=0:=ja f;rw[g,jw,y];refine⟨by omega,by omega,by unfold BT.qd at i;omega,by unfold BT.qd at i;omega,(pre++a,uor x.2 (2^k)),⟨⟨rfl,tZ⟩,rfl,tZ⟩,GO b (BT.uor_set b.1 i) (fun j=> ?_),c⟩;rw[BT.has_uor b.1 i,BT.BA,zo,jp,g,jw];simp[f];have f:¬e.2=0:=jc f;exact⟨(pre++a,x.2),⟨⟨rfl,tZ⟩,rfl,tZ⟩,GO b b.1 (fun j=>by simp[f]),c⟩
theorem mG:wZ PR 180 yz:=vl Dg E3 Tryz.func180 (kcC dL (kcC Sb kcN)) koN
theorem KA:(Mv 64 [(180,yz),(214,gI),(215,gJ)] [] [(213,wX)] []).ok PR:=Nv ⟨fun _=>mG,fun _=>HW,fun _=>H8,tZ⟩ trivial ⟨fo,tZ⟩ trivial
theorem Ah:wZ PR 186 ll:=
 VN (body:=qh Tryz.f186) (C:=Mv 64 [(180,yz),(214,gI),(215,gJ)] [] [(213,wX)] []) (hk:=hkC (Mv 64 [(180,yz),(214,gI),(215,gJ)] [] [(213,wX)] []) (fun _=>none) Dc [] []) KA mixed Tryz.func186 (by kernel_rfl) (by kernel_rfl) (by kernel_rfl) (by decide)
  (fun B=>GI KA mixed (fun k ts rs sv d L v ρ hk c a b=>by
   unfold Dc at hk
   split at hk
   case h_2=>cases hk
   simp only[jz] at hk
   cases hk
   exact Kt c a b) jbX B) (pR.mpr Df)
theorem NO:wZ PR 145 NK:=wL Si Tryz.func145 (kcC Wa (kcC Ah kcN)) koN
theorem Zg:wZ PR 142 Y7:=vl Y8 jb0 Tryz.func142 (kcC Ks (kcC mG kcN)) koN
namespace U
def dr (a b:Int):Int:=if a<b then-1 else if b<a then 1 else 0
def gg (l:List Int):Int:=match l.find? (fun n=>decide (n≠0)) with|some n=>n|none=>0
end U
structure iJ {α:Type} (c:α->α->Int):Prop where
 anti:∀a b,c b a= -(c a b)
 trans:∀a b d,c a b<=0->c b d<=0->c a d<=0
section
variable {α:Type} {c c1 c2:α->α->Int}
theorem iJ.refl (h:iJ c) (a:α):c a a=0:=by have:=h.anti a a;omega
theorem iJ.lt_le (h:iJ c) {a b d:α} (g:c a b<0) (f:c b d<=0):c a d<0:=by
 have i:=h.trans a b d (by omega) f;have j:=h.anti a d;have k:=h.anti a b;by_cases e:c a d=0;have:=h.trans b d a f (by omega);omega;omega
theorem iJ.le_lt (h:iJ c) {a b d:α} (f:c a b<=0) (g:c b d<0):c a d<0:=by
 have i:=h.trans a b d f (by omega);have j:=h.anti a d;have k:=h.anti b d;by_cases e:c a d=0;have:=h.trans d a b (by omega) f;omega;omega
theorem iJ.eq_eq (h:iJ c) {a b d:α} (e:c a b=0) (f:c b d=0):c a d=0:=by
 have g:=h.trans a b d (by omega) (by omega);have i:=h.anti a d;have j:=h.anti a b;have k:=h.anti b d;have:=h.trans d b a (by omega) (by omega);omega
def Ur (c1 c2:α->α->Int) (a b:α):Int:=if c1 a b≠0 then c1 a b else c2 a b
theorem pS (c:iJ c1) (g:iJ c2):iJ (Ur c1 c2) where
 anti a b:=by
  have i:=c.anti a b;have h:=g.anti a b;unfold Ur;by_cases e:c1 a b=0;rw[jd (by omega),jd (by omega)];exact h;rw[je (by omega),je e];exact i
 trans a b d:=by
  unfold Ur;by_cases e:c1 a b=0;rw[jd (by omega)];by_cases f:c1 b d=0;rw[jd (by omega),jd (by have:=c.eq_eq e f;omega)];exact g.trans a b d;rw[je f];intro _ k;have:=c.le_lt (a:=a) (b:=b) (d:=d) (by omega) (by omega);rw[je (by omega)];omega;rw[je e];intro k;by_cases f:c1 b d=0;rw[jd (by omega)];intro _;have:=c.lt_le (a:=a) (b:=b) (d:=d) (by omega) (by omega);rw[je (by omega)];omega;rw[je f];intro h;have:=c.lt_le (a:=a) (b:=b) (d:=d) (by omega) (by omega);rw[je (by omega)];omega
theorem oQ {β:Type} (h:iJ c) (f:β->α):iJ (fun a b=>c (f a) (f b)):=⟨fun a b=>h.anti (f a) (f b),fun a b d=>h.trans (f a) (f b) (f d)⟩
end
theorem mH:iJ dr:=by
 constructor;intro a b;unfold dr;split<;>split<;>(try split)<;>(try split)<;>omega
 intro a b d;unfold dr;split<;>split<;>(try split)<;>(try split)<;>(try split)<;>(try split)<;>omega
theorem Wc {a b:Int}:dr a b<0↔a<b:=by
 unfold dr
 split
 simp;omega
 split<;>simp<;>omega
theorem bn {a b:Int}:dr a b=0↔a=b:=by
 unfold dr
 split
 simp;omega
 split
 simp;omega;simp;omega
theorem qB (x:Int) (l:List Int):gg (x::l)=if x≠0 then x else gg l:=by
 unfold gg;by_cases e:x=0;simp[List.find?,e];simp[List.find?,e]
theorem yk (x:Int):gg [x]=x:=by
 rw[qB]
 split
 rfl;rename_i h;have:x=0:=(by omega);rw[this];rfl
theorem Bq {t:Ty} {c:t.Data->t.Data->Int} (d:iJ c) {l:List t.Data} (h:∀x y,x∈l->y∈l->c x y=0->x=y):yg (we t fun x=>(c x.1 x.2.1,())) l where
 irrefl x _:=by
  unfold we;have:=d.refl x;simp only[this];rfl
 trans x y z _ _ _ b a:=by
  unfold we at*;have b:=ja b;have a:=ja a;exact jD (d.lt_le b (by have a:c y z<0:=a;show c y z<=0;omega))
 total x y hx hy b a:=by
  unfold we at*;have b:¬c x y<0:=jc b;have a:¬c y x<0:=jc a;have:=d.anti x y;exact h x y hx hy (by omega)
end Go.X
namespace Go.X
open U
namespace M
theorem mput_cons {kt:Ty} {β:Type} (k:kt.Data) (v:β) (e:kt.Data×β) (r:List (kt.Data×β)):fY kt k v (e::r)=if @decide (k=e.1) (kt.decEq k e.1)=true then(k,v)::r else e::fY kt k v r:=rfl
theorem mfind_cons {kt:Ty} {β:Type} (k:kt.Data) (e:kt.Data×β) (r:List (kt.Data×β)):wB kt k (e::r)=if @decide (k=e.1) (kt.decEq k e.1)=true then some e.2 else wB kt k r:=rfl
theorem mfind_none {kt:Ty} {β:Type} {k:kt.Data}:∀{l:List (kt.Data×β)},k∉l.map (·.1)->wB kt k l=none
 |[],_=>rfl
 |e::r,h=>by
  simp only[zx,jj,not_or] at h
  rw[mfind_cons,jd (fun a=>h.1 (@ja _ (kt.decEq k e.1) a))]
  exact mfind_none h.2
theorem dec_self {kt:Ty} (k:kt.Data): @decide (k=k) (kt.decEq k k)=true:= @jD _ (kt.decEq k k) rfl
theorem mput_fst {kt:Ty} {β:Type} (k:kt.Data) (v:β):∀m:List (kt.Data×β),(fY kt k v m).map (·.1)=m.map (·.1)\/(k∉m.map (·.1)/\(fY kt k v m).map (·.1)=m.map (·.1)++[k])
 |[]=> .inr ⟨by simp,rfl⟩
 |e::r=>by
  rw[mput_cons]
  by_cases h: @decide (k=e.1) (kt.decEq k e.1)=true
  rw[je h]
  have h:k=e.1:= @ja _ (kt.decEq k e.1) h
  left
  simp[h]
  rw[jd h]
  have h:¬k=e.1:=fun a=>h (@jD _ (kt.decEq k e.1) a)
  rcases mput_fst k v r with d|⟨b,c⟩
  left;simp only[zx,d]
  right
  refine⟨?_,by simp only[zx,c,j0]⟩
  rw[zx,jj]
  rintro(a|a)
  exact h a
  exact b a
theorem rE {kt:Ty} {β:Type} (k:kt.Data) (v:β):∀l:List (kt.Data×β),wB kt k (fY kt k v l)=some v
 |[]=>by
  rw[show fY kt k v []=[(k,v)] from rfl,mfind_cons,je (dec_self k)]
 |e::r=>by
  rw[mput_cons]
  by_cases h: @decide (k=e.1) (kt.decEq k e.1)=true
  rw[je h,mfind_cons,je (dec_self k)]
  rw[jd h,mfind_cons,jd h]
  exact rE k v r
theorem eD {kt:Ty} {β:Type} {k k':kt.Data} (a:k'≠k) (v:β):∀l:List (kt.Data×β),wB kt k' (fY kt k v l)=wB kt k' l
 |[]=>by
  rw[show fY kt k v []=[(k,v)] from rfl,mfind_cons,jd (fun e=>a (@ja _ (kt.decEq k' k) e))]
 |e::r=>by
  rw[mput_cons]
  by_cases h: @decide (k=e.1) (kt.decEq k e.1)=true
  rw[je h]
  have h:k=e.1:= @ja _ (kt.decEq k e.1) h
  have c:¬@decide (k'=e.1) (kt.decEq k' e.1)=true:=fun b=>a ((@ja _ (kt.decEq k' e.1) b).trans h.symm)
  rw[mfind_cons,mfind_cons,jd c,jd (fun e=>a (@ja _ (kt.decEq k' k) e))]
  rw[jd h,mfind_cons,mfind_cons,eD a v r]
theorem nX {kt:Ty} {β:Type} {k:kt.Data} {v:β}:∀{l:List (kt.Data×β)},(l.map (·.1)).Nodup->(wB kt k l=some v↔(k,v)∈l)
 |[],_=>by simp[wB]
 |e::r,h=>by
  simp only[zx,zr] at h
  rw[mfind_cons]
  by_cases hk: @decide (k=e.1) (kt.decEq k e.1)=true
  rw[je hk]
  have hk:k=e.1:= @ja _ (kt.decEq k e.1) hk
  subst hk
  rw[jj]
  constructor
  intro a;simp at a;exact .inl (by rw[<-a])
  rintro(a|a)
  rw[<-a]
  exact absurd (j6.2 ⟨_,a,rfl⟩) h.1
  rw[jd hk]
  have hk:¬k=e.1:=fun b=>hk (@jD _ (kt.decEq k e.1) b)
  rw[nX h.2,jj]
  constructor
  exact .inr
  rintro(a|a)
  exact absurd (by rw[<-a]) hk
  exact a
end M
end Go.X
namespace Go.Proofs
open Go.Shelf
theorem xlay {t:Type} {a:Option t} {b c:t} (h:a=some b) (e:b=c:=by kernel_rfl):a=some c:=h.trans (congrArg some e)
def Tryz.sortSh_ren:Go.Shelf.Ren:=⟨fun|6=>128|15=>140|14=>168|28=>177|29=>178|20=>195|21=>196|22=>197|23=>198|24=>199|25=>200|26=>201|27=>202|46=>218|47=>204|48=>205|49=>219|50=>220|57=>238|n=>n,fun|22=>28|24=>134|25=>159|3=>3|39=>92|0=>0|53=>189|55=>191|4=>4|46=>183|45=>182|50=>50|5=>5|9=>9|66=>213|70=>217|76=>231|77=>232|n=>n,fun|n=>n⟩
theorem Tryz.sortSh:Go.Proofs.SlLaysF0.n6 Tryz.prog Tryz.sortSh_ren:={
 mixed:=by kernel_rfl
 f6:=⟨Tryz.f128.name,by decide,xlay Tryz.func128⟩
 f14:=⟨Tryz.f168.name,by decide,xlay Tryz.func168⟩
 f15:=xlay Tryz.func140
 f20:=⟨Tryz.f195.name,by decide,xlay Tryz.func195⟩
 f21:=⟨Tryz.f196.name,by decide,xlay Tryz.func196⟩
 f22:=⟨Tryz.f197.name,by decide,xlay Tryz.func197⟩
 f23:=⟨Tryz.f198.name,by decide,xlay Tryz.func198⟩
 f24:=⟨Tryz.f199.name,by decide,xlay Tryz.func199⟩
 f25:=⟨Tryz.f200.name,by decide,xlay Tryz.func200⟩
 f26:=⟨Tryz.f201.name,by decide,xlay Tryz.func201⟩
 f27:=⟨Tryz.f202.name,by decide,xlay Tryz.func202⟩
 f28:=xlay Tryz.func177
 f29:=xlay Tryz.func178
 f46:=⟨Tryz.f218.name,by decide,xlay Tryz.func218⟩
 f47:=xlay Tryz.func204
 f48:=xlay Tryz.func205
 f49:=⟨Tryz.f219.name,by decide,xlay Tryz.func219⟩
 f50:=⟨Tryz.f220.name,by decide,xlay Tryz.func220⟩
 f57:=⟨Tryz.f238.name,by decide,xlay Tryz.func238⟩
 t0:=Tryz.underlying0
 a0:=Tryz.isAgg0
 z0:=Tryz.sizeOf0
 v0:=Tryz.zeroValue0
 t3:=Tryz.underlying3
 a3:=Tryz.isAgg3
 z3:=Tryz.sizeOf3
 v3:=Tryz.zeroValue3
 t4:=Tryz.underlying4
 a4:=Tryz.isAgg4
 z4:=Tryz.sizeOf4
 v4:=Tryz.zeroValue4
 t5:=Tryz.underlying5
 a5:=Tryz.isAgg5
 z5:=Tryz.sizeOf5
 v5:=Tryz.zeroValue5
 t9:=Tryz.underlying9
 a9:=Tryz.isAgg9
 z9:=Tryz.sizeOf9
 v9:=Tryz.zeroValue9
 t22:=Tryz.underlying28
 a22:=Tryz.isAgg28
 z22:=Tryz.sizeOf28
 v22:=Tryz.zeroValue28
 t25:=Tryz.underlying159
 a25:=Tryz.isAgg159
 z25:=Tryz.sizeOf159
 v25:=Tryz.zeroValue159
 t39:=Tryz.underlying92
 a39:=Tryz.isAgg92
 z39:=Tryz.sizeOf92
 v39:=Tryz.zeroValue92
 t45:=Tryz.underlying182
 a45:=Tryz.isAgg182
 z45:=Tryz.sizeOf182
 v45:=Tryz.zeroValue182
 t46:=Tryz.underlying183
 a46:=Tryz.isAgg183
 z46:=Tryz.sizeOf183
 v46:=Tryz.zeroValue183
 t50:=Tryz.underlying50
 a50:=Tryz.isAgg50
 z50:=Tryz.sizeOf50
 v50:=Tryz.zeroValue50
 t53:=Tryz.underlying189
 a53:=Tryz.isAgg189
 z53:=Tryz.sizeOf189
 v53:=Tryz.zeroValue189
 t55:=Tryz.underlying191
 a55:=Tryz.isAgg191
 z55:=Tryz.sizeOf191
 v55:=Tryz.zeroValue191
 t66:=Tryz.underlying213
 a66:=Tryz.isAgg213
 z66:=Tryz.sizeOf213
 v66:=Tryz.zeroValue213
 t70:=Tryz.underlying217
 a70:=Tryz.isAgg217
 z70:=Tryz.sizeOf217
 v70:=Tryz.zeroValue217
 t76:=Tryz.underlying231
 a76:=Tryz.isAgg231
 z76:=Tryz.sizeOf231
 v76:=Tryz.zeroValue231
 t77:=Tryz.underlying232
 a77:=Tryz.isAgg232
 z77:=Tryz.sizeOf232
 v77:=Tryz.zeroValue232}
def Tryz.sortI_ren:Go.Shelf.Ren:=⟨fun|189=>183|125=>140|257=>212|128=>177|129=>178|294=>225|295=>226|296=>227|297=>228|298=>229|299=>230|216=>231|300=>232|301=>233|328=>242|329=>204|330=>205|331=>243|332=>244|215=>141|343=>248|n=>n,fun|28=>31|3=>3|46=>92|0=>0|51=>189|53=>191|4=>4|183=>183|182=>182|131=>50|5=>5|9=>9|218=>213|222=>217|228=>231|229=>232|n=>n,fun|n=>n⟩
theorem Tryz.sortI:Go.Proofs.Lays.n189 Tryz.prog Tryz.sortI_ren:={
 mixed:=by kernel_rfl
 f125:=xlay Tryz.func140
 f128:=xlay Tryz.func177
 f129:=xlay Tryz.func178
 f189:=xlay Tryz.func183
 f215:=xlay Tryz.func141
 f216:=xlay Tryz.func231
 f257:=xlay Tryz.func212
 f294:=xlay Tryz.func225
 f295:=xlay Tryz.func226
 f296:=xlay Tryz.func227
 f297:=xlay Tryz.func228
 f298:=xlay Tryz.func229
 f299:=xlay Tryz.func230
 f300:=xlay Tryz.func232
 f301:=xlay Tryz.func233
 f328:=xlay Tryz.func242
 f329:=xlay Tryz.func204
 f330:=xlay Tryz.func205
 f331:=xlay Tryz.func243
 f332:=xlay Tryz.func244
 f343:=xlay Tryz.func248
 t0:=Tryz.underlying0
 a0:=Tryz.isAgg0
 z0:=Tryz.sizeOf0
 v0:=Tryz.zeroValue0
 t3:=Tryz.underlying3
 a3:=Tryz.isAgg3
 z3:=Tryz.sizeOf3
 v3:=Tryz.zeroValue3
 t4:=Tryz.underlying4
 a4:=Tryz.isAgg4
 z4:=Tryz.sizeOf4
 v4:=Tryz.zeroValue4
 t5:=Tryz.underlying5
 a5:=Tryz.isAgg5
 z5:=Tryz.sizeOf5
 v5:=Tryz.zeroValue5
 t9:=Tryz.underlying9
 a9:=Tryz.isAgg9
 z9:=Tryz.sizeOf9
 v9:=Tryz.zeroValue9
 t28:=Tryz.underlying31
 a28:=Tryz.isAgg31
 z28:=Tryz.sizeOf31
 v28:=Tryz.zeroValue31
 t46:=Tryz.underlying92
 a46:=Tryz.isAgg92
 z46:=Tryz.sizeOf92
 v46:=Tryz.zeroValue92
 t51:=Tryz.underlying189
 a51:=Tryz.isAgg189
 z51:=Tryz.sizeOf189
 v51:=Tryz.zeroValue189
 t53:=Tryz.underlying191
 a53:=Tryz.isAgg191
 z53:=Tryz.sizeOf191
 v53:=Tryz.zeroValue191
 t131:=Tryz.underlying50
 a131:=Tryz.isAgg50
 z131:=Tryz.sizeOf50
 v131:=Tryz.zeroValue50
 t182:=Tryz.underlying182
 a182:=Tryz.isAgg182
 z182:=Tryz.sizeOf182
 v182:=Tryz.zeroValue182
 t183:=Tryz.underlying183
 a183:=Tryz.isAgg183
 z183:=Tryz.sizeOf183
 v183:=Tryz.zeroValue183
 t218:=Tryz.underlying213
 a218:=Tryz.isAgg213
 z218:=Tryz.sizeOf213
 v218:=Tryz.zeroValue213
 t222:=Tryz.underlying217
 a222:=Tryz.isAgg217
 z222:=Tryz.sizeOf217
 v222:=Tryz.zeroValue217
 t228:=Tryz.underlying231
 a228:=Tryz.isAgg231
 z228:=Tryz.sizeOf231
 v228:=Tryz.zeroValue231
 t229:=Tryz.underlying232
 a229:=Tryz.isAgg232
 z229:=Tryz.sizeOf232
 v229:=Tryz.zeroValue232}
end Go.Proofs
namespace Go.X
open U
open Go.Proofs
abbrev rwS:Sh:= .cl (.row 134 tSh .unk)
namespace U
def xP (s:SpD):Bool:=(decide (0<=lo s)&&decide (lo s<=hi s))&&decide (hi s<=300)
def Es (n:Nat) (b:BkD):Bool:=((wa (Uf b) 0 ((n:Int)-1)&&decide (0<=wJ b))&&decide (wJ b<gm b))&&decide (gm b<=1440)
def Mf (nb a:Nat) (s:ShD):Bool:=(((wa (gA s) 0 99&&wa (EG s) 0 9999)&&wa (X1 s) 1 2)&&wa (lV s) 0 ((nb:Int)-1))&&wa (ar s) 0 ((a:Int)-1)
def dS (a b:ShD):Int:=gg [dr (gA a) (gA b),dr (EG a) (EG b),dr (X1 a) (X1 b),dr (lV a) (lV b),dr (ar a) (ar b)]
def wA (a b:ShD):Int:=gg [dr (EG a) (EG b),dr (gA a) (gA b)]
def gz (a b:ShD):Bool:=decide (a=b)
def qq (l:List ShD):List ShD:=bU gz (wd (we tSh fun x=>(dS x.1 x.2.1,())) l)
def nV (m:List (Int×Int)) (s:ShD):List (Int×Int):=fY .int (gA s) (wQ 0 (wB .int (gA s) m)+1) m
def yY (m:List (Int×Int)) (l:List ShD) (n:Nat):List (Int×Int):=(l.take n).foldl nV m
def Ri (m:List (Int×Int)) (s:ShD):Bool:=decide (1<wQ 0 (wB .int (gA s) (nV m s)))
def tR (m:List (Int×Int)) (l:List ShD) (i:Nat):Bool:=Ri (yY m l i) (nth l i)
def nj (m:List (Int×Int)) (l:List ShD):Int:=yT (tR m l) (List.range l.length)
def X2 (m:List (Int×Int)) (l:List ShD):Nat:=match(List.range l.length).findIdx? (tR m l) with|some i=>i+1|none=>l.length
def ru (m:List (Int×Int)) (l:List ShD):List (Int×Int):=yY m l (X2 m l)
def jeg (m:List (Int×Int)):Prop:=m=[]
def X3 (m:List (Int×Int)):Prop:=∀k,0<=wQ 0 (wB .int k m)/\wQ 0 (wB .int k m)<=200000
def Uv (l:List ShD):Bool:=decide (0<=nj [] l)
def xi (d:DyD):Int:=if wu (wt d)=false then 30 else if I8 d=false then 31 else 0
def qg (d:DyD):Int:=if xi d≠0 then xi d else if qD d=false then 50 else if Uv (qq (qc d))=true then 51 else 0
end U
def NP:wS:=⟨[.val .int,.val .int,.val .int],[.bool],false,fun _=>[],fun d=>(wa d.1 d.2.1 d.2.2.1,())⟩
def NQ:Prop:=∀(d:Int×Int×Int×Unit),(decide (d.2.1<=d.1)&&decide (d.1<=d.2.2.1),())=(wa d.1 d.2.1 d.2.2.1,())
def n7:wS:=⟨[.val (.slice tSp),.fn [tSp] [.bool]],[.int],false,fun d=>[∀g∈d.1,wz (d.2.1.pre (g,()))],fun d=>(yT (wc (α:=SpD) d.2.1.F) d.1,())⟩
def n8:Ann:=fun r=>match r with
 |2=>some fun σ=>{X:=Nat,sl:=fun i=>[(8,.dat .int (i:Int))],ob:=fun _=>[],inv:=fun i=>i<=(gd (.slice tSp) σ 0).length/\∀b:Nat,b<i->wc (gfb tSp σ 1) (nth (gd (.slice tSp) σ 0) b)=false,mu:=fun i=>(gd (.slice tSp) σ 0).length-i}
 |_=>none
def n9:Prop:=∀(d:List (Int×Int×Unit)×FnD [tSp] [Ty.bool]×Unit),(∀(g:Int×Int×Unit),g∈d.1->wz (d.2.1.1 (g,())))->d.1.length<4611686018427387904->(∃(x:Nat),((0=(x:Int)/\True)/\True)/\x<=d.1.length/\∀(b:Nat),b<x->wc d.2.1.2 (nth d.1 b)=false)/\∀(x:Nat),(x<=d.1.length/\∀(b:Nat),b<x->wc d.2.1.2 (nth d.1 b)=false)->(decide ((x:Int)<d.1.length)=true->0<=(x:Int)/\(x:Int)<d.1.length/\asks (d.2.1.1 (nth d.1 (x:Int).toNat,())) (((d.2.1.2 (nth d.1 (x:Int).toNat,())).1=true->((x:Int),())=(yT (wc d.2.1.2) d.1,()))/\((d.2.1.2 (nth d.1 (x:Int).toNat,())).1=false->wn ((x:Int)+1)/\∃(a:Nat),(((x:Int)+1=(a:Int)/\True)/\True)/\(a<=d.1.length/\∀(b:Nat),b<a->wc d.2.1.2 (nth d.1 b)=false)/\d.1.length-a<d.1.length-x)))/\(decide ((x:Int)<d.1.length)=false->((-1:Int),())=(yT (wc d.2.1.2) d.1,()))
def iK:wS:=⟨[.val (.slice tSp),.fn [tSp] [.bool]],[.bool],false,fun d=>[∀g∈d.1,wz (d.2.1.pre (g,()))],fun d=>(d.1.any (wc (α:=SpD) d.2.1.F),())⟩
def iL:Prop:=∀(d:List (Int×Int×Unit)×FnD [tSp] [Ty.bool]×Unit),(∀(g:Int×Int×Unit),g∈d.1->wz (d.2.1.1 (g,())))->(∀(g:Int×Int×Unit),g∈d.1->wz (d.2.1.1 (g,())))/\(decide (0<=yT (wc d.2.1.2) d.1),())=(d.1.any (wc d.2.1.2),())
def mI:wS:=⟨[.val (.slice (.slice tSp)),.fn [(.slice tSp)] [.bool]],[.int],false,fun d=>[∀g∈d.1,wz (d.2.1.pre (g,()))],fun d=>(yT (wc (α:=(List SpD)) d.2.1.F) d.1,())⟩
def mJ:Ann:=fun r=>match r with
 |2=>some fun σ=>{X:=Nat,sl:=fun i=>[(8,.dat .int (i:Int))],ob:=fun _=>[],inv:=fun i=>i<=(gd (.slice (.slice tSp)) σ 0).length/\∀b:Nat,b<i->wc (gfb (.slice tSp) σ 1) (nth (gd (.slice (.slice tSp)) σ 0) b)=false,mu:=fun i=>(gd (.slice (.slice tSp)) σ 0).length-i}
 |_=>none
def mK:Prop:=∀(d:List (List (Int×Int×Unit))×FnD [tSp.slice] [Ty.bool]×Unit),(∀(g:List (Int×Int×Unit)),g∈d.1->wz (d.2.1.1 (g,())))->d.1.length<4611686018427387904->(∃(x:Nat),((0=(x:Int)/\True)/\True)/\x<=d.1.length/\∀(b:Nat),b<x->wc d.2.1.2 (nth d.1 b)=false)/\∀(x:Nat),(x<=d.1.length/\∀(b:Nat),b<x->wc d.2.1.2 (nth d.1 b)=false)->(decide ((x:Int)<d.1.length)=true->0<=(x:Int)/\(x:Int)<d.1.length/\asks (d.2.1.1 (nth d.1 (x:Int).toNat,())) (((d.2.1.2 (nth d.1 (x:Int).toNat,())).1=true->((x:Int),())=(yT (wc d.2.1.2) d.1,()))/\((d.2.1.2 (nth d.1 (x:Int).toNat,())).1=false->wn ((x:Int)+1)/\∃(a:Nat),(((x:Int)+1=(a:Int)/\True)/\True)/\(a<=d.1.length/\∀(b:Nat),b<a->wc d.2.1.2 (nth d.1 b)=false)/\d.1.length-a<d.1.length-x)))/\(decide ((x:Int)<d.1.length)=false->((-1:Int),())=(yT (wc d.2.1.2) d.1,()))
def fq:wS:=⟨[.val (.slice (.slice tSp)),.fn [(.slice tSp)] [.bool]],[.bool],false,fun d=>[∀g∈d.1,wz (d.2.1.pre (g,()))],fun d=>(d.1.any (wc (α:=(List SpD)) d.2.1.F),())⟩
def fu:Prop:=∀(d:List (List (Int×Int×Unit))×FnD [tSp.slice] [Ty.bool]×Unit),(∀(g:List (Int×Int×Unit)),g∈d.1->wz (d.2.1.1 (g,())))->(∀(g:List (Int×Int×Unit)),g∈d.1->wz (d.2.1.1 (g,())))/\(decide (0<=yT (wc d.2.1.2) d.1),())=(d.1.any (wc d.2.1.2),())
def iM:wS:=⟨[.val (.slice tBk),.fn [tBk] [.bool]],[.int],false,fun d=>[∀g∈d.1,wz (d.2.1.pre (g,()))],fun d=>(yT (wc (α:=BkD) d.2.1.F) d.1,())⟩
def iN:Ann:=fun r=>match r with
 |2=>some fun σ=>{X:=Nat,sl:=fun i=>[(8,.dat .int (i:Int))],ob:=fun _=>[],inv:=fun i=>i<=(gd (.slice tBk) σ 0).length/\∀b:Nat,b<i->wc (gfb tBk σ 1) (nth (gd (.slice tBk) σ 0) b)=false,mu:=fun i=>(gd (.slice tBk) σ 0).length-i}
 |_=>none
def iO:Prop:=∀(d:List BkD×FnD [tBk] [Ty.bool]×Unit),(∀(g:BkD),g∈d.1->wz (d.2.1.1 (g,())))->d.1.length<4611686018427387904->(∃(x:Nat),((0=(x:Int)/\True)/\True)/\x<=d.1.length/\∀(b:Nat),b<x->wc d.2.1.2 (nth d.1 b)=false)/\∀(x:Nat),(x<=d.1.length/\∀(b:Nat),b<x->wc d.2.1.2 (nth d.1 b)=false)->(decide ((x:Int)<d.1.length)=true->0<=(x:Int)/\(x:Int)<d.1.length/\asks (d.2.1.1 (nth d.1 (x:Int).toNat,())) (((d.2.1.2 (nth d.1 (x:Int).toNat,())).1=true->((x:Int),())=(yT (wc d.2.1.2) d.1,()))/\((d.2.1.2 (nth d.1 (x:Int).toNat,())).1=false->wn ((x:Int)+1)/\∃(a:Nat),(((x:Int)+1=(a:Int)/\True)/\True)/\(a<=d.1.length/\∀(b:Nat),b<a->wc d.2.1.2 (nth d.1 b)=false)/\d.1.length-a<d.1.length-x)))/\(decide ((x:Int)<d.1.length)=false->((-1:Int),())=(yT (wc d.2.1.2) d.1,()))
def dh:wS:=⟨[.val (.slice tBk),.fn [tBk] [.bool]],[.bool],false,fun d=>[∀g∈d.1,wz (d.2.1.pre (g,()))],fun d=>(d.1.any (wc (α:=BkD) d.2.1.F),())⟩
def di:Prop:=∀(d:List BkD×FnD [tBk] [Ty.bool]×Unit),(∀(g:BkD),g∈d.1->wz (d.2.1.1 (g,())))->(∀(g:BkD),g∈d.1->wz (d.2.1.1 (g,())))/\(decide (0<=yT (wc d.2.1.2) d.1),())=(d.1.any (wc d.2.1.2),())
def mL:wS:=⟨[.val (.slice tSh),.fn [tSh] [.bool]],[.int],false,fun d=>[∀g∈d.1,wz (d.2.1.pre (g,()))],fun d=>(yT (wc (α:=ShD) d.2.1.F) d.1,())⟩
def mM:Ann:=fun r=>match r with
 |2=>some fun σ=>{X:=Nat,sl:=fun i=>[(8,.dat .int (i:Int))],ob:=fun _=>[],inv:=fun i=>i<=(gd (.slice tSh) σ 0).length/\∀b:Nat,b<i->wc (gfb tSh σ 1) (nth (gd (.slice tSh) σ 0) b)=false,mu:=fun i=>(gd (.slice tSh) σ 0).length-i}
 |_=>none
def mN:Prop:=∀(d:List ShD×FnD [tSh] [Ty.bool]×Unit),(∀(g:ShD),g∈d.1->wz (d.2.1.1 (g,())))->d.1.length<4611686018427387904->(∃(x:Nat),((0=(x:Int)/\True)/\True)/\x<=d.1.length/\∀(b:Nat),b<x->wc d.2.1.2 (nth d.1 b)=false)/\∀(x:Nat),(x<=d.1.length/\∀(b:Nat),b<x->wc d.2.1.2 (nth d.1 b)=false)->(decide ((x:Int)<d.1.length)=true->0<=(x:Int)/\(x:Int)<d.1.length/\asks (d.2.1.1 (nth d.1 (x:Int).toNat,())) (((d.2.1.2 (nth d.1 (x:Int).toNat,())).1=true->((x:Int),())=(yT (wc d.2.1.2) d.1,()))/\((d.2.1.2 (nth d.1 (x:Int).toNat,())).1=false->wn ((x:Int)+1)/\∃(a:Nat),(((x:Int)+1=(a:Int)/\True)/\True)/\(a<=d.1.length/\∀(b:Nat),b<a->wc d.2.1.2 (nth d.1 b)=false)/\d.1.length-a<d.1.length-x)))/\(decide ((x:Int)<d.1.length)=false->((-1:Int),())=(yT (wc d.2.1.2) d.1,()))
def fw:wS:=⟨[.val (.slice tSh),.fn [tSh] [.bool]],[.bool],false,fun d=>[∀g∈d.1,wz (d.2.1.pre (g,()))],fun d=>(d.1.any (wc (α:=ShD) d.2.1.F),())⟩
def fx:Prop:=∀(d:List ShD×FnD [tSh] [Ty.bool]×Unit),(∀(g:ShD),g∈d.1->wz (d.2.1.1 (g,())))->(∀(g:ShD),g∈d.1->wz (d.2.1.1 (g,())))/\(decide (0<=yT (wc d.2.1.2) d.1),())=(d.1.any (wc d.2.1.2),())
def ux:wS:=⟨[.val tSp,.rfn [tSp] [.bool]],[.bool],false,fun d=>[wz (d.2.1.pre (d.1,()))],fun d=>(!(wc (α:=SpD) d.2.1.F d.1),())⟩
def uy:Prop:=∀(d:(Int×Int×Unit)×FnD [tSp] [Ty.bool]×Unit),wz (d.2.1.1 (d.1,()))->asks (d.2.1.1 (d.1,())) ((!(d.2.1.2 (d.1,())).1,())=(!wc d.2.1.2 d.1,()))
def Di:wS:=⟨[.val (.slice tSp),.fn [tSp] [.bool]],[.bool],false,fun d=>[∀g∈d.1,wz (d.2.1.pre (g,()))],fun d=>(d.1.all (wc (α:=SpD) d.2.1.F),())⟩
def Dj:Prop:=∀(d:List (Int×Int×Unit)×FnD [tSp] [Ty.bool]×Unit),(∀(g:Int×Int×Unit),g∈d.1->wz (d.2.1.1 (g,())))->(∀(g:Int×Int×Unit),g∈d.1->wz [wz (d.2.1.1 (g,()))])/\(!d.1.any (wc fun(a:(Int×Int×Unit)×Unit)=>(!wc d.2.1.2 a.1,())),())=(d.1.all (wc d.2.1.2),())
def sO:wS:=⟨[.val (.slice tSp),.rfn [(.slice tSp)] [.bool]],[.bool],false,fun d=>[wz (d.2.1.pre (d.1,()))],fun d=>(!(wc (α:=(List SpD)) d.2.1.F d.1),())⟩
def sP:Prop:=∀(d:List (Int×Int×Unit)×FnD [tSp.slice] [Ty.bool]×Unit),wz (d.2.1.1 (d.1,()))->asks (d.2.1.1 (d.1,())) ((!(d.2.1.2 (d.1,())).1,())=(!wc d.2.1.2 d.1,()))
def Ai:wS:=⟨[.val (.slice (.slice tSp)),.fn [(.slice tSp)] [.bool]],[.bool],false,fun d=>[∀g∈d.1,wz (d.2.1.pre (g,()))],fun d=>(d.1.all (wc (α:=(List SpD)) d.2.1.F),())⟩
def Aj:Prop:=∀(d:List (List (Int×Int×Unit))×FnD [tSp.slice] [Ty.bool]×Unit),(∀(g:List (Int×Int×Unit)),g∈d.1->wz (d.2.1.1 (g,())))->(∀(g:List (Int×Int×Unit)),g∈d.1->wz [wz (d.2.1.1 (g,()))])/\(!d.1.any (wc fun(a:List (Int×Int×Unit)×Unit)=>(!wc d.2.1.2 a.1,())),())=(d.1.all (wc d.2.1.2),())
def oc:wS:=⟨[.val tBk,.rfn [tBk] [.bool]],[.bool],false,fun d=>[wz (d.2.1.pre (d.1,()))],fun d=>(!(wc (α:=BkD) d.2.1.F d.1),())⟩
def od:Prop:=∀(d:BkD×FnD [tBk] [Ty.bool]×Unit),wz (d.2.1.1 (d.1,()))->asks (d.2.1.1 (d.1,())) ((!(d.2.1.2 (d.1,())).1,())=(!wc d.2.1.2 d.1,()))
def sQ:wS:=⟨[.val (.slice tBk),.fn [tBk] [.bool]],[.bool],false,fun d=>[∀g∈d.1,wz (d.2.1.pre (g,()))],fun d=>(d.1.all (wc (α:=BkD) d.2.1.F),())⟩
def sR:Prop:=∀(d:List BkD×FnD [tBk] [Ty.bool]×Unit),(∀(g:BkD),g∈d.1->wz (d.2.1.1 (g,())))->(∀(g:BkD),g∈d.1->wz [wz (d.2.1.1 (g,()))])/\(!d.1.any (wc fun(a:BkD×Unit)=>(!wc d.2.1.2 a.1,())),())=(d.1.all (wc d.2.1.2),())
def sS:wS:=⟨[.val tSh,.rfn [tSh] [.bool]],[.bool],false,fun d=>[wz (d.2.1.pre (d.1,()))],fun d=>(!(wc (α:=ShD) d.2.1.F d.1),())⟩
def sT:Prop:=∀(d:ShD×FnD [tSh] [Ty.bool]×Unit),wz (d.2.1.1 (d.1,()))->asks (d.2.1.1 (d.1,())) ((!(d.2.1.2 (d.1,())).1,())=(!wc d.2.1.2 d.1,()))
def Ak:wS:=⟨[.val (.slice tSh),.fn [tSh] [.bool]],[.bool],false,fun d=>[∀g∈d.1,wz (d.2.1.pre (g,()))],fun d=>(d.1.all (wc (α:=ShD) d.2.1.F),())⟩
def Al:Prop:=∀(d:List ShD×FnD [tSh] [Ty.bool]×Unit),(∀(g:ShD),g∈d.1->wz (d.2.1.1 (g,())))->(∀(g:ShD),g∈d.1->wz [wz (d.2.1.1 (g,()))])/\(!d.1.any (wc fun(a:ShD×Unit)=>(!wc d.2.1.2 a.1,())),())=(d.1.all (wc d.2.1.2),())
def KB:wS:=⟨[.val tSp],[.bool],false,fun _=>[],fun d=>(xP d.1,())⟩
def KC:Prop:=∀(d:(Int×Int×Unit)×Unit),(decide (0<=d.1.1)&&decide (d.1.1<=d.1.2.1)&&decide (d.1.2.1<=300),())=(xP d.1,())
def KE:wS:=⟨[.val (.slice tSp),.ref tDy,.rfn [tSp] [.bool]],[.bool],false,fun d=>[∀g∈d.1,wz (d.2.2.1.pre (g,()))],fun d=>(decide ((d.1.length:Int)=(qa d.2.1).length)&&d.1.all (wc (α:=SpD) d.2.2.1.F),())⟩
def KF:Prop:=∀(d:List (Int×Int×Unit)×DyD×FnD [tSp] [Ty.bool]×Unit),(∀(g:Int×Int×Unit),g∈d.1->wz (d.2.2.1.1 (g,())))->d.1.length<4611686018427387904->d.2.1.2.1.length<4611686018427387904->(decide ((d.1.length:Int)=d.2.1.2.1.length)=true->∀(g:Int×Int×Unit),g∈d.1->wz (d.2.2.1.1 (g,())))/\(decide ((d.1.length:Int)=d.2.1.2.1.length)&&d.1.all (wc d.2.2.1.2),())=(decide ((d.1.length:Int)=(qa d.2.1).length)&&d.1.all (wc d.2.2.1.2),())
def KG:wS:=⟨[.val tBk,.ref tDy],[.bool],false,fun _=>[],fun d=>(Es (qa d.2.1).length d.1,())⟩
def KH:Prop:=∀(d:BkD×DyD×Unit),d.2.1.2.1.length<4611686018427387904->wn ((d.2.1.2.1.length:Int)-1)/\(wa d.1.2.1 (0:Int) ((d.2.1.2.1.length:Int)-1)&&decide (0<=d.1.2.2.1)&&decide (d.1.2.2.1<d.1.2.2.2.1)&&decide (d.1.2.2.2.1<=1440),())=(Es (qa d.2.1).length d.1,())
def KI:wS:=⟨[.val tSh,.ref tDy],[.bool],false,fun _=>[],fun d=>(Mf (wq d.2.1).length (wj (wt d.2.1)).length d.1,())⟩
abbrev jjO (d:ShD×DyD×Unit):=(wa d.1.1 (0:Int) (99:Int)&&wa d.1.2.1 (0:Int) (9999:Int)&&wa d.1.2.2.1 (1:Int) (2:Int)&&wa d.1.2.2.2.1 (0:Int) ((d.2.1.2.2.1.length:Int)-1))
abbrev jjP (d:ShD×DyD×Unit):=(wa d.1.1 (0:Int) (99:Int)&&wa d.1.2.1 (0:Int) (9999:Int)&&wa d.1.2.2.1 (1:Int) (2:Int))
def KJ:Prop:=∀(d:ShD×DyD×Unit),((jjP d)=true->d.2.1.2.2.1.length<4611686018427387904)->((jjP d)=true->wn ((d.2.1.2.2.1.length:Int)-1))/\(((jjO d)=true->d.2.1.1.2.1.length<4611686018427387904)->((jjO d)=true->wn ((d.2.1.1.2.1.length:Int)-1))/\(wa d.1.1 (0:Int) (99:Int)&&wa d.1.2.1 (0:Int) (9999:Int)&&wa d.1.2.2.1 (1:Int) (2:Int)&&wa d.1.2.2.2.1 (0:Int) ((d.2.1.2.2.1.length:Int)-1)&&wa d.1.q4.1 (0:Int) ((d.2.1.1.2.1.length:Int)-1),())=(Mf (wq d.2.1).length (wj (wt d.2.1)).length d.1,()))
def Sl:wS:=⟨[.val tDy],[.bool],false,fun _=>[],fun d=>(qD d.1,())⟩
abbrev ji6 (d:DyD×Unit):=(wc fun(a:BkD×Unit)=>(Es (qa d.1).length a.1,()))
abbrev jhq (d:DyD×Unit):=((d.1.2.2.1.length:Int)<=4)
abbrev jiw (d:DyD×Unit):=(↑(qa d.1).length:Int)
abbrev jhS (d:DyD×Unit):=(d.1.2.1.length:Int)
def Sm:Prop:=∀(d:DyD×Unit),d.1.2.2.1.length<4611686018427387904->(decide (jhq d)=true->d.1.2.1.length<4611686018427387904)->((decide (jhq d)&&wa (jhS d) (1:Int) (5:Int))=true->∀(g:List (Int×Int×Unit)),g∈d.1.2.1->wz [∀(b:Int×Int×Unit),b∈g->wz []])/\((decide (jhq d)&&wa (jhS d) (1:Int) (5:Int)&&d.1.2.1.all (wc fun(a:List (Int×Int×Unit)×Unit)=>(decide ((a.1.length:Int)=(jiw d))&&a.1.all (wc fun(c:(Int×Int×Unit)×Unit)=>(xP c.1,())),())))=true->∀(e:BkD),e∈d.1.2.2.1->wz [])/\(((decide (jhq d)&&wa (jhS d) (1:Int) (5:Int)&&d.1.2.1.all (wc fun(a:List (Int×Int×Unit)×Unit)=>(decide ((a.1.length:Int)=(jiw d))&&a.1.all (wc fun(f:(Int×Int×Unit)×Unit)=>(xP f.1,())),()))&&d.1.2.2.1.all (ji6 d)&&wa d.1.2.2.2.1 (0:Int) (300:Int)&&wa d.1.q4.1 (0:Int) (1440:Int))=true->d.1.q4.2.1.length<4611686018427387904)->((decide (jhq d)&&wa (jhS d) (1:Int) (5:Int)&&d.1.2.1.all (wc fun(a:List (Int×Int×Unit)×Unit)=>(decide ((a.1.length:Int)=(jiw d))&&a.1.all (wc fun(h:(Int×Int×Unit)×Unit)=>(xP h.1,())),()))&&d.1.2.2.1.all (ji6 d)&&wa d.1.2.2.2.1 (0:Int) (300:Int)&&wa d.1.q4.1 (0:Int) (1440:Int)&&decide ((d.1.q4.2.1.length:Int)<=30))=true->∀(i:ShD),i∈d.1.q4.2.1->wz [])/\(decide (jhq d)&&wa (jhS d) (1:Int) (5:Int)&&d.1.2.1.all (wc fun(a:List (Int×Int×Unit)×Unit)=>(decide ((a.1.length:Int)=(jiw d))&&a.1.all (wc fun(u5:(Int×Int×Unit)×Unit)=>(xP u5.1,())),()))&&d.1.2.2.1.all (ji6 d)&&wa d.1.2.2.2.1 (0:Int) (300:Int)&&wa d.1.q4.1 (0:Int) (1440:Int)&&decide ((d.1.q4.2.1.length:Int)<=30)&&d.1.q4.2.1.all (wc fun(j:ShD×Unit)=>(Mf (wq d.1).length (wj (wt d.1)).length j.1,())),())=(qD d.1,()))
def Am:wS:=⟨[.val .int],[.bool],false,fun _=>[],fun _=>(false,())⟩
def An:Prop:=∀(d:Int×Unit),(decide (d.1≠d.1),())=(false,())
def sU:wS:=⟨[.val .int,.val .int],[.int],false,fun _=>[],fun d=>(dr d.1 d.2.1,())⟩
abbrev jhr (d:Int×Int×Unit):=(dr d.1 d.2.1,())
def sV:Prop:=∀(d:Int×Int×Unit),(false=true->(false=true->((0:Int),())=(jhr d))/\(qF->((-1:Int),())=(jhr d)))/\(qF->(false=true->((1:Int),())=(jhr d))/\(qF->(decide (d.1<d.2.1)=true->((-1:Int),())=(jhr d))/\(decide (d.1<d.2.1)=false->(decide (d.2.1<d.1)=true->((1:Int),())=(jhr d))/\(decide (d.2.1<d.1)=false->((0:Int),())=(jhr d)))))
def Ia:wS:=⟨[.val (.slice .int)],[.int],false,fun _=>[],fun d=>(gg d.1,())⟩
def Ib:Ann:=fun r=>match r with
 |3=>some fun σ=>{X:=Nat,sl:=fun i=>[(8,.dat .int (i:Int))],ob:=fun _=>[],inv:=fun i=>i<=(gd (.slice .int) σ 0).length/\∀b:Nat,b<i->nth (gd (.slice .int) σ 0) b=0,mu:=fun i=>(gd (.slice .int) σ 0).length-i}
 |_=>none
def Ic:Prop:=∀(d:List Int×Unit),d.1.length<4611686018427387904->(∃(x:Nat),((0=(x:Int)/\True)/\True)/\x<=d.1.length/\∀(b:Nat),b<x->nth d.1 b=0)/\∀(x:Nat),(x<=d.1.length/\∀(b:Nat),b<x->nth d.1 b=0)->(decide ((x:Int)<d.1.length)=true->0<=(x:Int)/\(x:Int)<d.1.length/\(decide (nth d.1 (x:Int).toNat≠0)=true->(nth d.1 (x:Int).toNat,())=(gg d.1,()))/\(decide (nth d.1 (x:Int).toNat≠0)=false->wn ((x:Int)+1)/\∃(a:Nat),(((x:Int)+1=(a:Int)/\True)/\True)/\(a<=d.1.length/\∀(b:Nat),b<a->nth d.1 b=0)/\d.1.length-a<d.1.length-x))/\(decide ((x:Int)<d.1.length)=false->((0:Int),())=(gg d.1,()))
def Dk:wS:=⟨[.val tSh,.val tSh],[.int],false,fun _=>[],fun d=>(dS d.1 d.2.1,())⟩
def Dl:Prop:=∀(d:ShD×ShD×Unit),(gg [dr d.1.1 d.2.1.1,dr d.1.2.1 d.2.1.2.1,dr d.1.2.2.1 d.2.1.2.2.1,dr d.1.2.2.2.1 d.2.1.2.2.2.1,dr d.1.q4.1 d.2.1.q4.1],())=(dS d.1 d.2.1,())
def NR:wS:=⟨[.val tSh,.val tSh],[.int],false,fun _=>[],fun d=>(wA d.1 d.2.1,())⟩
def NS:Prop:=∀(d:ShD×ShD×Unit),(gg [dr d.1.2.1 d.2.1.2.1,dr d.1.1 d.2.1.1],())=(wA d.1 d.2.1,())
def uz:vi:=⟨[.val (.slice tSh)],[rwS],fun d=>[d.1.length<=100000],fun d=>((d.1,()),())⟩
def uA:Prop:=∀(d:List ShD×Unit),d.1.length<=100000->∀(β:Bool),(β=true->d.1=[])->(β=true->([],())=d/\()=())/\(β=false->(0+d.1.length)*40<=140737488355328/\([]++d.1,())=d/\()=())
def pT:vi:=⟨[.own rwS false],[rwS],fun d=>[d.1.length<=100000],fun d=>((bU gz d.1,()),())⟩
def pU:Ann:=fun r=>match r with
 |4=>some fun σ=>{X:=Nat,sl:=fun i=>[(3,.dat .int (i:Int))],ob:=fun _=>[],inv:=fun i=>jcQ gz (gr tSh σ 1000000) i,mu:=fun i=>(gr tSh σ 1000000).length-i}
 |9=>some fun σ=>{X:=Nat×List ShD,sl:=fun x=>[(5,.dat .int (x.1:Int)),(3,.dat .int (oT gz (gr tSh σ 1000000) ((gd .int σ 3).toNat+x.1)))],ob:=fun x=>[(1000000,some (.row 134 tSh false .unk x.2))],inv:=fun x=>PL gz (gr tSh σ 1000000) (gd .int σ 3).toNat x.1 x.2,mu:=fun x=>(gr tSh σ 1000000).length-x.1}
 |_=>none
abbrev jfV (x:Nat)(a:Nat×List ShD):=((x:Int).toNat+a.1)
abbrev jjQ (d:List ShD×Unit)(x:Nat)(a:Nat×List ShD):=(List.take (oT gz d.1 (jfV x a)).toNat a.2++List.replicate ((a.2.length:Int).toNat-(oT gz d.1 (jfV x a)).toNat) ((0:Int),(0:Int),(0:Int),(0:Int),(0:Int),()))
abbrev jjR (a:Nat×List ShD)(x:Nat):=(!decide (nth a.2 ((x:Int).toNat+(a.1:Int).toNat)=nth a.2 ((x:Int).toNat+((a.1:Int)-1).toNat)))
abbrev jgg (d:List ShD×Unit):=(d.1.length:Int)
abbrev jhT (d:List ShD×Unit)(x:Nat):=(↑((jgg d).toNat-(x:Int).toNat):Int)
def pV:Prop:=∀(d:List ShD×Unit),d.1.length<=100000->d.1.length<4611686018427387904->(decide ((jgg d)<2)=true->d=(bU gz d.1,())/\()=())/\(decide ((jgg d)<2)=false->(∃(x:Nat),((1=(x:Int)/\True)/\True)/\jcQ gz d.1 x)/\∀(x:Nat),jcQ gz d.1 x->d.1.length<4611686018427387904->(decide ((x:Int)<(jgg d))=true->0<=(x:Int)/\(x:Int)<(jgg d)/\wn ((x:Int)-1)/\0<=(x:Int)-1/\(x:Int)-1<(jgg d)/\(decide (nth d.1 (x:Int).toNat=nth d.1 ((x:Int)-1).toNat)=true->0<=(x:Int)/\(x:Int)<=(jgg d)/\(jgg d)<=(jgg d)/\(∃(a:Nat×List ShD),((1=(a.1:Int)/\(x:Int)=oT gz d.1 (jfV x a)/\True)/\d.1=a.2/\True)/\PL gz d.1 (x:Int).toNat a.1 a.2)/\∀(a:Nat×List ShD),PL gz d.1 (x:Int).toNat a.1 a.2->(jgg d).toNat-(x:Int).toNat<4611686018427387904->(decide ((a.1:Int)<(jhT d x))=true->0<=(a.1:Int)/\(a.1:Int)<(jhT d x)/\wn ((a.1:Int)-1)/\0<=(a.1:Int)-1/\(a.1:Int)-1<(jhT d x)/\((jjR a x)=true->0<=(a.1:Int)/\(a.1:Int)<(jhT d x)/\0<=oT gz d.1 (jfV x a)/\oT gz d.1 (jfV x a)<(a.2.length:Int)/\wn (oT gz d.1 (jfV x a)+1)/\wn ((a.1:Int)+1)/\∃(b:Nat×List ShD),(((a.1:Int)+1=(b.1:Int)/\oT gz d.1 (jfV x a)+1=oT gz d.1 ((x:Int).toNat+b.1)/\True)/\a.2.set (oT gz d.1 (jfV x a)).toNat (nth a.2 ((x:Int).toNat+(a.1:Int).toNat))=b.2/\True)/\PL gz d.1 (x:Int).toNat b.1 b.2/\d.1.length-b.1<d.1.length-a.1)/\((jjR a x)=false->wn ((a.1:Int)+1)/\∃(b:Nat×List ShD),((oT gz d.1 (jfV x a)=oT gz d.1 ((x:Int).toNat+b.1)/\(a.1:Int)+1=(b.1:Int)/\True)/\a.2=b.2/\True)/\PL gz d.1 (x:Int).toNat b.1 b.2/\d.1.length-b.1<d.1.length-a.1))/\(decide ((a.1:Int)<(jhT d x))=false->0<=oT gz d.1 (jfV x a)/\oT gz d.1 (jfV x a)<=(a.2.length:Int)/\(a.2.length:Int)<=a.2.length/\(oT gz d.1 (jfV x a)).toNat+((a.2.length:Int).toNat-(oT gz d.1 (jfV x a)).toNat)=a.2.length/\(0:Int)<=0/\0<=oT gz d.1 (jfV x a)/\oT gz d.1 (jfV x a)<=(↑(jjQ d x a).length:Int)/\(List.take ((oT gz d.1 (jfV x a)).toNat-Int.toNat 0) (jjQ d x a),())=(bU gz d.1,())/\()=()))/\(decide (nth d.1 (x:Int).toNat=nth d.1 ((x:Int)-1).toNat)=false->wn ((x:Int)+1)/\∃(c:Nat),(((x:Int)+1=(c:Int)/\True)/\True)/\jcQ gz d.1 c/\d.1.length-c<d.1.length-x))/\(decide ((x:Int)<(jgg d))=false->d=(bU gz d.1,())/\()=()))
abbrev oe:vi:=VM tSh 134
def Ie:vi:=⟨[.val (.slice tSh)],[rwS],fun d=>[d.1.length<=100000],fun d=>((qq d.1,()),())⟩
abbrev ji7:=(we (Ty.int.pair (Ty.int.pair (Ty.int.pair (Ty.int.pair (Ty.int.pair Ty.unit))))) fun(a:ShD×ShD×Unit)=>(dS a.1 a.2.1,()))
def If:Prop:=∀(d:List ShD×Unit),d.1.length<=100000->d.1.length<=100000/\(∀(x:ShD),x∈d.1->∀(y:ShD),y∈d.1->wz [])/\yg ji7 d.1/\(wd ji7 d.1).length<=100000/\(bU gz (wd ji7 d.1),())=(qq d.1,())/\()=()
def KK:vi:=⟨[.val tSh,.own (.box 157 [.map .int .int]) true],[.cl (.dat .bool)],fun d=>[X3 d.2.1.1],fun d=>((Ri d.2.1.1 d.1,()),((nV d.2.1.1 d.1,()),()))⟩
abbrev ji8 (d:ShD×(List (Int×Int)×Unit)×Unit):=(wQ (0:Int) (wB Ty.int d.1.1 d.2.1.1)+1)
def KL:Prop:=∀(d:ShD×(List (Int×Int)×Unit)×Unit),X3 d.2.1.1->wn (ji8 d)/\(decide (1<wQ (0:Int) (wB Ty.int d.1.1 (fY Ty.int d.1.1 (ji8 d) d.2.1.1))),())=(Ri d.2.1.1 d.1,())/\((fY Ty.int d.1.1 (ji8 d) d.2.1.1,()),())=((nV d.2.1.1 d.1,()),())
abbrev clV:Sh:= .fbox 126 157 [.map .int .int]
def fy:vi:=⟨[.val (.slice tSh),.own clV true],[.cl (.dat .int)],fun d=>[d.1.length<=100000,jeg d.2.1.1],fun d=>((nj d.2.1.1 d.1,()),((ru d.2.1.1 d.1,()),()))⟩
def fA:Ann:=fun r=>match r with
 |2=>some fun σ=>{X:=Nat,sl:=fun i=>[(8,.dat .int (i:Int))],ob:=fun i=>[(400020,some (.map false .int .int (yY [] (gd (.slice tSh) σ 0) i)))],inv:=fun i=>i<=(gd (.slice tSh) σ 0).length/\∀b:Nat,b<i->tR [] (gd (.slice tSh) σ 0) b=false,mu:=fun i=>(gd (.slice tSh) σ 0).length-i}
 |_=>none
def fB:Prop:=∀(d:List ShD×(List (Int×Int)×Unit)×Unit),d.1.length<=100000->jeg d.2.1.1->d.1.length<4611686018427387904->(∃(x:Nat),((0=(x:Int)/\True)/\d.2.1.1=yY [] d.1 x/\True)/\x<=d.1.length/\∀(b:Nat),b<x->tR [] d.1 b=false)/\∀(x:Nat),(x<=d.1.length/\∀(b:Nat),b<x->tR [] d.1 b=false)->(decide ((x:Int)<d.1.length)=true->0<=(x:Int)/\(x:Int)<d.1.length/\X3 (yY [] d.1 x)/\(Ri (yY [] d.1 x) (nth d.1 (x:Int).toNat)=true->((x:Int),())=(nj d.2.1.1 d.1,())/\((nV (yY [] d.1 x) (nth d.1 (x:Int).toNat),()),())=((ru d.2.1.1 d.1,()),()))/\(Ri (yY [] d.1 x) (nth d.1 (x:Int).toNat)=false->wn ((x:Int)+1)/\∃(a:Nat),(((x:Int)+1=(a:Int)/\True)/\(True/\True)/\nV (yY [] d.1 x) (nth d.1 (x:Int).toNat)=yY [] d.1 a/\True)/\(a<=d.1.length/\∀(b:Nat),b<a->tR [] d.1 b=false)/\d.1.length-a<d.1.length-x))/\(decide ((x:Int)<d.1.length)=false->((-1:Int),())=(nj d.2.1.1 d.1,())/\((yY [] d.1 x,()),())=((ru d.2.1.1 d.1,()),()))
def cI:vi:=⟨[.val (.slice tSh),.own clV true],[.cl (.dat .bool)],fun d=>[d.1.length<=100000,jeg d.2.1.1],fun d=>((decide (0<=nj d.2.1.1 d.1),()),((ru d.2.1.1 d.1,()),()))⟩
def cJ:Prop:=∀(d:List ShD×(List (Int×Int)×Unit)×Unit),d.1.length<=100000->jeg d.2.1.1->d.1.length<=100000/\jeg d.2.1.1/\(decide (0<=nj d.2.1.1 d.1),())=(decide (0<=nj d.2.1.1 d.1),())/\((ru d.2.1.1 d.1,()),())=((ru d.2.1.1 d.1,()),())
def Sn:wS:=⟨[.val (.slice tSh)],[.bool],false,fun d=>[d.1.length<=100000],fun d=>(Uv d.1,())⟩
def So:Prop:=∀(d:List ShD×Unit),d.1.length<=100000->d.1.length<=100000/\jeg []/\(decide (0<=nj [] d.1),())=(Uv d.1,())
def E4:wS:=⟨[.val tDy],[.int],false,fun _=>[],fun d=>(xi d.1,())⟩
def E5:Ann:=fun r=>match r with
 |5=>some fun σ=>{X:=Nat,sl:=fun i=>[(17,.dat .int (i:Int))],ob:=fun _=>[],inv:=fun i=>i<=(gd (.slice tBk) σ 15).length/\∀b:Nat,b<i->qb (wt (gd tDy σ 0)) (gL (nth (gd (.slice tBk) σ 15) b))=true,mu:=fun i=>(gd (.slice tBk) σ 15).length-i}
 |_=>none
abbrev ji9:=((0:Int),(1:Int),(0:Int),(0:Int),(0:Int),(1:Int),())
def E6:Prop:=∀(d:DyD×Unit),(decide (vH d.1.1 ji9≠0)=true->(vH d.1.1 ji9,())=(xi d.1,()))/\(decide (vH d.1.1 ji9≠0)=false->d.1.2.2.1.length<4611686018427387904->(∃(x:Nat),((0=(x:Int)/\True)/\True)/\x<=d.1.2.2.1.length/\∀(b:Nat),b<x->qb (wt d.1) (gL (nth d.1.2.2.1 b))=true)/\∀(x:Nat),(x<=d.1.2.2.1.length/\∀(b:Nat),b<x->qb (wt d.1) (gL (nth d.1.2.2.1 b))=true)->(decide ((x:Int)<d.1.2.2.1.length)=true->0<=(x:Int)/\(x:Int)<d.1.2.2.1.length/\(decide (vH d.1.1 (nth d.1.2.2.1 (x:Int).toNat).1≠0)=true->(vH d.1.1 (nth d.1.2.2.1 (x:Int).toNat).1,())=(xi d.1,()))/\(decide (vH d.1.1 (nth d.1.2.2.1 (x:Int).toNat).1≠0)=false->wn ((x:Int)+1)/\∃(a:Nat),(((x:Int)+1=(a:Int)/\True)/\True)/\(a<=d.1.2.2.1.length/\∀(b:Nat),b<a->qb (wt d.1) (gL (nth d.1.2.2.1 b))=true)/\d.1.2.2.1.length-a<d.1.2.2.1.length-x))/\(decide ((x:Int)<d.1.2.2.1.length)=false->((0:Int),())=(xi d.1,())))
def Sp:wS:=⟨[.val tDy],[.int],false,fun d=>[(qc d.1).length<=100000],fun d=>(qg d.1,())⟩
def Sq:Prop:=∀(d:DyD×Unit),(qc d.1).length<=100000->(decide (xi d.1≠0)=true->(xi d.1,())=(qg d.1,()))/\(decide (xi d.1≠0)=false->((!qD d.1)=true->((50:Int),())=(qg d.1,()))/\((!qD d.1)=false->d.1.q4.2.1.length<=100000/\(qq d.1.q4.2.1).length<=100000/\(Uv (qq d.1.q4.2.1)=true->((51:Int),())=(qg d.1,()))/\(Uv (qq d.1.q4.2.1)=false->((0:Int),())=(qg d.1,()))))
theorem Sr:NQ:=by
 intro d;rfl
theorem pW:wZ PR 120 NP:=wL Sr Tryz.func120 kcN koN
theorem pX:n9:=by
 rintro⟨l,f,⟨⟩⟩ a g;refine⟨⟨0,⟨⟨rfl,tZ⟩,tZ⟩,jm _,fun b c=>by omega⟩,fun i hi=>⟨fun h=> ?_,fun h=> ?_⟩⟩;have h:i<l.length:=(by simpa using h);simp only[jw] at*;refine⟨by omega,by omega,vZ _ (a _ (L.wi h)) ⟨fun c=> ?_,fun c=>⟨iZ6,i+1,⟨⟨by simp,tZ⟩,tZ⟩,⟨by omega,fun b d=> ?_⟩,by omega⟩⟩⟩;rw[yc (p:=wc (α:=SpD) f.F) h hi.2 c];by_cases e:b=i;subst e;exact c;exact hi.2 b (by omega);have h:l.length<=i:=(by simpa using h);rw[q6 (p:=wc (α:=SpD) f.F) h hi.2]
theorem og:wZ PR 192 n7:=vl n8 pX Tryz.func192 kcN koN
theorem lL:iL:=by
 rintro⟨l,f,⟨⟩⟩ a;refine⟨a,?_⟩;exact jE (·,()) (iI (wc (α:=SpD) f.F) l)
theorem iP:wZ PR 160 iK:=wL lL Tryz.func160 (kcC og kcN) koN
theorem oh:mK:=by
 rintro⟨l,f,⟨⟩⟩ a g;refine⟨⟨0,⟨⟨rfl,tZ⟩,tZ⟩,jm _,fun b c=>by omega⟩,fun i hi=>⟨fun h=> ?_,fun h=> ?_⟩⟩;have h:i<l.length:=(by simpa using h);simp only[jw] at*;refine⟨by omega,by omega,vZ _ (a _ (L.wi h)) ⟨fun c=> ?_,fun c=>⟨iZ6,i+1,⟨⟨by simp,tZ⟩,tZ⟩,⟨by omega,fun b d=> ?_⟩,by omega⟩⟩⟩;rw[yc (p:=wc (α:=(List SpD)) f.F) h hi.2 c];by_cases e:b=i;subst e;exact c;exact hi.2 b (by omega);have h:l.length<=i:=(by simpa using h);rw[q6 (p:=wc (α:=(List SpD)) f.F) h hi.2]
theorem mO:wZ PR 193 mI:=vl mJ oh Tryz.func193 kcN koN
theorem iQ:fu:=by
 rintro⟨l,f,⟨⟩⟩ a;refine⟨a,?_⟩;exact jE (·,()) (iI (wc (α:=(List SpD)) f.F) l)
theorem fC:wZ PR 162 fq:=wL iQ Tryz.func162 (kcC mO kcN) koN
theorem lM:iO:=by
 rintro⟨l,f,⟨⟩⟩ a g;refine⟨⟨0,⟨⟨rfl,tZ⟩,tZ⟩,jm _,fun b c=>by omega⟩,fun i hi=>⟨fun h=> ?_,fun h=> ?_⟩⟩;have h:i<l.length:=(by simpa using h);simp only[jw] at*;refine⟨by omega,by omega,vZ _ (a _ (L.wi h)) ⟨fun c=> ?_,fun c=>⟨iZ6,i+1,⟨⟨by simp,tZ⟩,tZ⟩,⟨by omega,fun b d=> ?_⟩,by omega⟩⟩⟩;rw[yc (p:=wc (α:=BkD) f.F) h hi.2 c];by_cases e:b=i;subst e;exact c;exact hi.2 b (by omega);have h:l.length<=i:=(by simpa using h);rw[q6 (p:=wc (α:=BkD) f.F) h hi.2]
theorem iR:wZ PR 194 iM:=vl iN lM Tryz.func194 kcN koN
theorem d9:di:=by
 rintro⟨l,f,⟨⟩⟩ a;refine⟨a,?_⟩;exact jE (·,()) (iI (wc (α:=BkD) f.F) l)
theorem dl:wZ PR 164 dh:=wL d9 Tryz.func164 (kcC iR kcN) koN
theorem oi:mN:=by
 rintro⟨l,f,⟨⟩⟩ a g;refine⟨⟨0,⟨⟨rfl,tZ⟩,tZ⟩,jm _,fun b c=>by omega⟩,fun i hi=>⟨fun h=> ?_,fun h=> ?_⟩⟩;have h:i<l.length:=(by simpa using h);simp only[jw] at*;refine⟨by omega,by omega,vZ _ (a _ (L.wi h)) ⟨fun c=> ?_,fun c=>⟨iZ6,i+1,⟨⟨by simp,tZ⟩,tZ⟩,⟨by omega,fun b d=> ?_⟩,by omega⟩⟩⟩;rw[yc (p:=wc (α:=ShD) f.F) h hi.2 c];by_cases e:b=i;subst e;exact c;exact hi.2 b (by omega);have h:l.length<=i:=(by simpa using h);rw[q6 (p:=wc (α:=ShD) f.F) h hi.2]
theorem mP:wZ PR 167 mL:=vl mM oi Tryz.func167 kcN koN
theorem iS:fx:=by
 rintro⟨l,f,⟨⟩⟩ a;refine⟨a,?_⟩;exact jE (·,()) (iI (wc (α:=ShD) f.F) l)
theorem fD:wZ PR 125 fw:=wL iS Tryz.func125 (kcC mP kcN) koN
theorem Ao:uy:=by
 intro d h;exact vZ _ h rfl
theorem uB:wZ PR 161 ux:=wL Ao Tryz.func161 kcN koN
theorem E7:Dj:=by
 intro d h;exact⟨fun g a=>⟨h g a,tZ⟩,jE (·,()) (sG d.snd.fst.2 d.fst)⟩
theorem Dm:wZ PR 118 Di:=wL E7 Tryz.func118 (kcC iP (kcC uB kcN)) koN
theorem uC:sP:=by
 intro d h;exact vZ _ h rfl
theorem sW:wZ PR 163 sO:=wL uC Tryz.func163 kcN koN
theorem Dn:Aj:=by
 intro d h;exact⟨fun g a=>⟨h g a,tZ⟩,jE (·,()) (sG d.snd.fst.2 d.fst)⟩
theorem Ap:wZ PR 122 Ai:=wL Dn Tryz.func122 (kcC fC (kcC sW kcN)) koN
theorem pY:od:=by
 intro d h;exact vZ _ h rfl
theorem oj:wZ PR 165 oc:=wL pY Tryz.func165 kcN koN
theorem uD:sR:=by
 intro d h;exact⟨fun g a=>⟨h g a,tZ⟩,jE (·,()) (sG d.snd.fst.2 d.fst)⟩
theorem sX:wZ PR 123 sQ:=wL uD Tryz.func123 (kcC dl (kcC oj kcN)) koN
theorem uE:sT:=by
 intro d h;exact vZ _ h rfl
theorem sY:wZ PR 166 sS:=wL uE Tryz.func166 kcN koN
theorem Do:Al:=by
 intro d h;exact⟨fun g a=>⟨h g a,tZ⟩,jE (·,()) (sG d.snd.fst.2 d.fst)⟩
theorem Aq:wZ PR 124 Ak:=wL Do Tryz.func124 (kcC fD (kcC sY kcN)) koN
theorem NU:KC:=fun _=>rfl
theorem KM:wZ PR 116 KB:=wL NU Tryz.func116 kcN koN
theorem NV:KF:=by
 rintro⟨l,d,f,⟨⟩⟩ a _ _;exact⟨fun _=>a,rfl⟩
theorem KN:wZ PR 117 KE:=wL NV Tryz.func117 (kcC Dm kcN) koN
theorem NW:KH:=by
 rintro⟨b,d,⟨⟩⟩ h;have h:(qa d).length<4611686018427387904:=h;exact⟨L.F0 (by show _<=((qa d).length:Int)-1;omega) (by show((qa d).length:Int)-1<=_;omega),rfl⟩
theorem KO:wZ PR 119 KG:=wL NW Tryz.func119 (kcC pW kcN) koN
theorem NX:KJ:=by
 unfold KJ jjP jjO Prod.q4;rintro⟨s,d,⟨⟩⟩ h;refine⟨fun a=> ?_,fun b=>⟨fun a=> ?_,rfl⟩⟩;have h:=h a;exact L.F0 (by simp only at*;omega) (by simp only at*;omega);have h:=b a;exact L.F0 (by simp only at*;omega) (by simp only at*;omega)
theorem KP:wZ PR 121 KI:=wL NX Tryz.func121 (kcC pW kcN) koN
theorem Zh (s:SpD):xP s=tM s:=by
 unfold xP tM;rw[jZ];simp only[ji,jp];omega
theorem Zi (n:Nat) (b:BkD):Es n b=nc n b:=by
 unfold Es nc wa;rw[jZ];simp only[ji,jp];omega
theorem Zj (nb a:Nat) (s:ShD):Mf nb a s=nf nb a s:=by
 unfold Mf nf wa;rw[jZ];simp only[ji,jp];omega
theorem Zk (d:DyD):(((((((decide (((wq d).length:Int)<=4)&&wa ((qa d).length:Int) 1 5)&&(qa d).all (fun r=>decide ((r.length:Int)=(qa d).length)&&r.all tM))&&(wq d).all (nc (qa d).length))&&wa (A5 d) 0 300)&&wa (jae d) 0 1440)&&decide (((qc d).length:Int)<=30))&&(qc d).all (nf (wq d).length (wj (wt d)).length))=qD d:=by
 unfold qD;have e:(fun(r:List SpD)=>decide ((r.length:Int)=(qa d).length)&&r.all tM)=cR (qa d).length:=by
  funext r;unfold cR;congr 1;exact decide_eq_decide.2 (by omega)
 rw[e];cases (qa d).all (cR (qa d).length)<;>cases (wq d).all (nc (qa d).length)<;>cases (qc d).all (nf (wq d).length (wj (wt d)).length)<;>simp only[kx,Bool.and_true,Bool.false_and,wa]
 rw[jZ];simp only[ji,jp];omega
theorem Wd:Sm:=by
 unfold Sm jhS jiw jhq ji6 Prod.q4;rintro⟨d,⟨⟩⟩ _ _;refine⟨fun _ _ _=>⟨fun _ _=>tZ,tZ⟩,fun _ _ _=>tZ,fun _=>⟨fun _ _ _=>tZ,?_⟩⟩;have a:(wc fun(x:SpD×Unit)=>(xP x.fst,()))=tM:=funext Zh;have e2:(wc fun(x:BkD×Unit)=>(Es (qa d).length x.fst,()))=nc (qa d).length:=funext (Zi _);have b:(wc fun(x:ShD×Unit)=>(Mf (wq d).length (wj (wt d)).length x.fst,()))=nf (wq d).length (wj (wt d)).length:=funext (Zj _ _);simp only;rw[a,e2,b];exact jE (·,()) (Zk d)
theorem Ss:wZ PR 81 Sl:=wL Wd Tryz.func81 (kcC pW (kcC KM (kcC KN (kcC KO (kcC KP (kcC Ap (kcC sX (kcC Aq kcN)))))))) koN
theorem Dp:An:=by
 intro d;simp
theorem Ar:wZ PR 141 Am:=wL Dp Tryz.func141 kcN koN
theorem uF:sV:=by
 unfold sV jhr;rintro⟨a,b,⟨⟩⟩;refine⟨fun h=>(by cases h),fun _=>⟨fun h=>(by cases h),fun _=>⟨fun h=> ?_,fun h=>⟨fun c=> ?_,fun c=> ?_⟩⟩⟩⟩;have h:a<b:=ja h;simp only;unfold dr;rw[je h];have h:¬a<b:=jc h;have c:b<a:=ja c;simp only;unfold dr;rw[jd h,je c];have h:¬a<b:=jc h;have c:¬b<a:=jc c;simp only;unfold dr;rw[jd h,jd c]
theorem y8:wZ PR 99 sU:=wL uF Tryz.func99 (kcC Ar kcN) koN
theorem Su {l:List Int} {i:Nat} (h:i<l.length) (a:∀b:Nat,b<i->nth l b=0) (hi:nth l i≠0):gg l=nth l i:=by
 have e:l.find? (fun n=>decide (n≠0))=some (nth l i):=by
  rw[List.find?_eq_some_iff_getElem];refine⟨jD hi,i,h,by rw[L.qI h],fun j c=> ?_⟩;have:=a j c;rw[L.qI (by omega)] at this;simp[this]
 unfold gg;rw[e]
theorem KQ {l:List Int} (a:∀b:Nat,b<l.length->nth l b=0):gg l=0:=by
 have e:l.find? (fun n=>decide (n≠0))=none:=by
  rw[List.find?_eq_none];intro x c;obtain⟨i,hi,rfl⟩:=L.mem_iff.1 c;simp[a i hi]
 unfold gg;rw[e]
theorem KR:Ic:=by
 rintro⟨l,⟨⟩⟩ f;refine⟨⟨0,⟨⟨rfl,tZ⟩,tZ⟩,jm _,fun b c=>by omega⟩,fun x d=>⟨fun h=> ?_,fun h=> ?_⟩⟩;have h:x<l.length:=(by simpa using h);simp only[jw];refine⟨by omega,by omega,fun a=> ?_,fun a=>⟨L.F0 (by omega) (by simp only at f;omega),x+1,⟨⟨by simp,tZ⟩,tZ⟩,⟨h,fun b c=> ?_⟩,by omega⟩⟩;rw[Su h d.2 (ja a)];by_cases e:b=x;subst e;exact jO.1 (jc a);exact d.2 b (by omega);have h:l.length<=x:=(by simpa using h);rw[KQ (fun b c=>d.2 b (by simp only at c;omega))]
theorem cg:wZ PR 98 Ia:=vl Ib KR Tryz.func98 kcN koN
theorem E8:Dl:=fun _=>rfl
theorem Dq:wZ PR 129 Dk:=wL E8 Tryz.func129 (kcC y8 (kcC cg kcN)) koN
theorem Sv:NS:=fun _=>rfl
theorem NY:wZ PR 181 NR:=wL Sv Tryz.func181 (kcC y8 (kcC cg kcN)) koN
theorem As:uA:=by
 rintro⟨l,⟨⟩⟩ b β a;have b:l.length<=100000:=b;refine⟨fun h=>⟨?_,rfl⟩,fun _=>⟨by simp only;omega,by simp,rfl⟩⟩;have:l=[]:=a h;rw[this]
theorem uG:ac PR 127 uz:=CT As Tryz.func127 kcN koN
theorem sZ:pV:=by
 unfold pV jhT jgg jjR jjQ jfV;rintro⟨l,⟨⟩⟩ m C;have m:l.length<=100000:=m;obtain⟨eq,k⟩:∃eq,eq=gz:=⟨_,rfl⟩;have A:∀a b:ShD,decide (a=b)=eq a b:=fun a b=>by rw[k];rfl
 simp only[<-k,A,jw];refine⟨fun h=>⟨?_,tZ⟩,fun h=> ?_⟩;have h:(l.length:Int)<2:=ja h;rw[L.comp_short (by omega)];have h:¬(l.length:Int)<2:=jc h;refine⟨⟨1,⟨⟨rfl,tZ⟩,tZ⟩,jk _,by omega,?_⟩,fun i hi _=>⟨fun g=> ?_,fun g=>⟨?_,tZ⟩⟩⟩;rw[L.comp_short];rw[jT];omega;have g:(i:Int)<l.length:=ja g;obtain⟨s,D,f⟩:=hi;have z:((i:Int)-1).toNat=i-1:=(by omega);rw[z];have n:=L.comp_take (eq:=eq) (l:=l) s (by omega:i<l.length);refine⟨by omega,g,by unfold wn;omega,by omega,by omega,fun j=>⟨by omega,by omega,zH _,⟨(1,l),⟨⟨rfl,?_,tZ⟩,rfl,tZ⟩,jk _,by omega,rfl,?_,rfl,?_⟩,fun x q _=>⟨fun e=> ?_,fun e=> ?_⟩⟩,fun j=>⟨iZ6,i+1,⟨⟨by simp,tZ⟩,tZ⟩,⟨by omega,by omega,?_⟩,by omega⟩⟩;unfold oT;rw[n,je j,j7,f,jT];omega;rw[n,je j,j7,f,jT];show l.take i=l.take (min i l.length);congr 1;omega;rw[n,je j,j7,f,jT];omega;have e:(x.1:Int)<((l.length-i:Nat):Int):=ja e;have r:=q;obtain⟨G,H,I,v,J,w⟩:=r;obtain⟨E,F⟩:=L.inv9_next s q (by omega);have y:((x.1:Int)-1).toNat=x.1-1:=(by omega);have o:i+(x.1-1)=i+x.1-1:=(by omega);rw[y,o];have p:oT eq l (i+x.1)=((bU eq (l.take (i+x.1))).length:Int):=rfl;refine⟨by omega,e,by unfold wn;omega,by omega,by omega,fun c=> ?_,fun c=> ?_⟩;have c:eq (nth x.2 (i+x.1)) (nth x.2 (i+x.1-1))=false:=(by simpa using c);obtain⟨t,u⟩:=E c;refine⟨by omega,e,by omega,by omega,by unfold wn;omega,iZ6,(x.1+1,_),⟨⟨by simp,t.symm,tZ⟩,rfl,tZ⟩,u,by show _-(x.1+1)<_;omega⟩;have c:eq (nth x.2 (i+x.1)) (nth x.2 (i+x.1-1))=true:=(by simpa using c);obtain⟨t,u⟩:=F c;exact⟨iZ6,(x.1+1,x.2),⟨⟨t.symm,by simp,tZ⟩,rfl,tZ⟩,u,by show _-(x.1+1)<_;omega⟩;have e:¬(x.1:Int)<((l.length-i:Nat):Int):=jc e;obtain⟨G,H,I,v,J,w⟩:=q;have p:oT eq l (i+x.1)=((bU eq (l.take (i+x.1))).length:Int):=rfl;have d:l.take (i+x.1)=l:=zv (by omega);rw[d] at p v w;rw[p];simp only[jw];have B:=L.comp_len (eq:=eq) l;refine⟨by omega,by omega,zH _,by omega,by omega,by omega,?_,⟨?_,tZ⟩⟩;simp only[jL,jT,zu];omega;congr 1;rw[show(bU eq l).length-Int.toNat 0=(bU eq l).length from rfl];rw[List.take_left' (by rw[jT];omega)];exact v.symm;rw[n,jd (by rw[j];simp),f];exact(L.wO (by omega)).symm;have g:¬(i:Int)<l.length:=jc g;obtain⟨s,D,f⟩:=hi;have d:l.take i=l:=zv (by omega);rw[d] at f;rw[f]
theorem pZ:ac PR 130 pT:=sF pU sZ Tryz.func130 kcN koN
theorem bY:ac PR 128 oe:=
 CS Tryz.sortSh 134 rfl (jy (by kernel_rfl)) Tryz.isAgg134 Tryz.sizeOf134 (vQ Tryz.func128 (c:=qh Tryz.f128) (by kernel_rfl) (by kernel_rfl))
theorem Zl:iJ dS:=by
 have e:dS=Ur (fun a b=>dr (gA a) (gA b)) (Ur (fun a b=>dr (EG a) (EG b)) (Ur (fun a b=>dr (X1 a) (X1 b)) (Ur (fun a b=>dr (lV a) (lV b)) (fun a b=>dr (ar a) (ar b))))):=by
  funext a b;unfold dS;simp only[qB,Ur]
  split<;>(try rfl);split<;>(try rfl);split<;>(try rfl);split<;>(try rfl);split<;>(try rfl)
  rename_i h;exact(jO.1 h).symm
 rw[e];exact pS (oQ mH gA) (pS (oQ mH EG) (pS (oQ mH X1) (pS (oQ mH lV) (oQ mH ar))))
theorem Sw {a b:ShD} (h:dS a b=0):a=b:=by
 unfold dS at h;rw[qB] at h
 split at h
 contradiction;rename_i c;rw[qB] at h
 split at h
 contradiction;rename_i d;rw[qB] at h
 split at h
 contradiction;rename_i e;rw[qB] at h
 split at h
 contradiction;rename_i f;rw[yk] at h;have c:=bn.1 (jO.1 c);have d:=bn.1 (jO.1 d);have e:=bn.1 (jO.1 e);have f:=bn.1 (jO.1 f);have g:=bn.1 h;obtain⟨i,j,k,l,m,⟨⟩⟩:=a;obtain⟨n,o,p,q,r,⟨⟩⟩:=b;have c:i=n:=c;have d:j=o:=d;have e:k=p:=e;have f:l=q:=f;have g:m=r:=g;rw[c,d,e,f,g]
theorem Zm (l:List ShD):yg (we tSh fun x=>(dS x.1 x.2.1,())) l:=Bq Zl (fun _ _ _ _ h=>Sw h)
theorem We (l:List ShD):(qq l).length<=l.length:=by
 unfold qq;refine jF (L.comp_len _) ?_;rw[(qo l).length_eq];exact jk _
theorem KS:If:=by
 unfold If ji7;rintro⟨l,⟨⟩⟩ a;exact⟨a,fun _ _ _ _=>tZ,Zm l,by rw[(qo (lt:=we tSh fun x=>(dS x.1 x.2.1,())) l).length_eq];exact a,rfl,rfl⟩
theorem s0:ac PR 83 Ie:=CT KS Tryz.func83 (kcC Dq kcN) (koC uG (koC bY (koC pZ koN)))
theorem NZ:KL:=by
 unfold KL ji8;rintro⟨s,⟨m,⟨⟩⟩,⟨⟩⟩ h;have h:X3 m:=h;have:=h (gA s);have this:0<=wQ 0 (wB .int s.1 m)/\wQ 0 (wB .int s.1 m)<=200000:=this;exact⟨L.F0 (by simp only;omega) (by simp only;omega),rfl,rfl⟩
theorem KT:ac PR 126 KK:=CT NZ Tryz.func126 kcN koN
theorem fE {m:List (Int×Int)} {l:List ShD} {i:Nat} (h:i<l.length):yY m l (i+1)=nV (yY m l i) (nth l i):=by
 unfold yY;rw[L.wO h,jS];rfl
theorem jaD (l:List ShD):∀i,i<=l.length->∀k,0<=wQ 0 (wB .int k (yY [] l i))/\wQ 0 (wB .int k (yY [] l i))<=(i:Int)
 |0,_,k=>⟨zH 0,zH 0⟩
 |i+1,hi,k=>by
  have b:=jaD l i (by omega)
  rw[fE (by omega)]
  unfold nV
  by_cases e:k=gA (nth l i)
  rw[e]
  have a:=M.rE (kt:= .int) (gA (nth l i)) (wQ 0 (wB .int (gA (nth l i)) (yY [] l i))+1) (yY [] l i)
  rw[a]
  have:=b (gA (nth l i))
  show 0<=wQ 0 (wB .int (gA (nth l i)) (yY [] l i))+1/\wQ 0 (wB .int (gA (nth l i)) (yY [] l i))+1<=_
  omega
  have a:=M.eD (kt:= .int) (k:=gA (nth l i)) (k':=k) e (wQ 0 (wB .int (gA (nth l i)) (yY [] l i))+1) (yY [] l i)
  rw[a]
  have:=b k
  omega
theorem Zn {m:List (Int×Int)} {l:List ShD} {i:Nat} (h:i<l.length) (a:∀b:Nat,b<i->tR m l b=false) (hi:tR m l i=true):nj m l=(i:Int)/\X2 m l=i+1:=by
 have e:(List.range l.length).findIdx? (tR m l)=some i:=by
  rw[zK];refine⟨by simpa using h,by simpa using hi,fun j c=>by simp[a j c]⟩
 unfold nj X2 yT;rw[e];exact⟨rfl,rfl⟩
theorem GP {m:List (Int×Int)} {l:List ShD} (a:∀b:Nat,b<l.length->tR m l b=false):nj m l= -1/\X2 m l=l.length:=by
 have e:(List.range l.length).findIdx? (tR m l)=none:=by
  rw[z7];intro x c;exact a x (jG.1 c)
 unfold nj X2 yT;rw[e];exact⟨rfl,rfl⟩
theorem iT:fB:=by
 rintro⟨l,⟨m,⟨⟩⟩,⟨⟩⟩ j f n;have f:m=[]:=f;subst f;have j:l.length<=100000:=j;refine⟨⟨0,⟨⟨rfl,tZ⟩,rfl,tZ⟩,jm _,fun b i=>by omega⟩,fun x a=>⟨fun h=> ?_,fun h=> ?_⟩⟩;have h:x<l.length:=(by simpa using h);simp only[jw];refine⟨by omega,by omega,fun k=> ?_,fun d=> ?_,fun d=>⟨iZ6,x+1,⟨⟨by simp,tZ⟩,⟨tZ,tZ⟩,(fE h).symm,tZ⟩,⟨h,fun b i=> ?_⟩,by omega⟩⟩;have:=jaD l x (by omega) k;omega;obtain⟨c,e2⟩:=Zn h a.2 d;unfold ru;rw[c,e2,fE h];exact⟨rfl,rfl⟩;by_cases e:b=x;subst e;exact d;exact a.2 b (by omega);have h:l.length<=x:=(by simpa using h);obtain⟨c,e2⟩:=GP (m:=[]) (l:=l) (fun b i=>a.2 b (by omega));have g:x=l.length:=(by have:=a.1;simp only at this;omega);unfold ru;rw[c,e2,g];exact⟨rfl,rfl⟩
theorem fF:ac PR 167 fy:=sF fA iT Tryz.func167 kcN (koC KT koN)
theorem dm:cJ:=fun _ a b=>⟨a,b,rfl,rfl⟩
theorem cK:ac PR 125 cI:=CT dm Tryz.func125 kcN (koC fF koN)
theorem Wf:So:=fun _ h=>⟨h,rfl,rfl⟩
theorem Sx:wZ PR 82 Sn:=wL Wf Tryz.func82 kcN (koC cK koN)
theorem Zo {c:CrD} (h:wu c=true):qb c (0,1,0,0,0,1,())=true:=by
 obtain⟨a,_⟩:=w8 h;unfold qb;refine jD ?_;refine⟨by decide,?_,by decide,?_,by decide,by decide,by decide,by decide,by decide,by decide,by decide,by decide,by decide⟩;show(0:Int)<=U.la c-1;omega;show(1:Int)<=U.la c-1;omega
theorem Wg (c:CrD):vH c (0,1,0,0,0,1,())=if wu c=false then 30 else 0:=by
 unfold vH;by_cases h:wu c=false;rw[je h,je h];rw[jd h,jd h,jd (by rw[Zo (by simpa using h)];simp)]
theorem Ig:E6:=by
 unfold E6 ji9;rintro⟨d,⟨⟩⟩;have e:=Wg d.1;simp only[e];by_cases f:wu d.1=false;rw[je f];refine⟨fun _=> ?_,fun h=>by simp at h⟩;have f:wu (wt d)=false:=f;unfold xi;rw[je f];rw[jd f];have c:wu (wt d)=true:=eq_true_of_ne_false f;refine⟨fun h=>by simp at h,fun _ k=>⟨⟨0,⟨⟨rfl,tZ⟩,tZ⟩,jm _,fun b j=>by omega⟩,fun x l=>⟨fun h=> ?_,fun h=> ?_⟩⟩⟩;have h:(x:Int)<(wq d).length:=ja h;have h:x<(wq d).length:=(by omega);have k:(wq d).length<4611686018427387904:=k;have e2:vH d.1 (nth d.2.2.1 x).1=if qb (wt d) (gL (nth (wq d) x))=false then 31 else 0:=by
  show(if wu (wt d)=false then(30:Int) else if qb (wt d) (gL (nth (wq d) x))=false then 31 else 0)=_;rw[jd (by rw[c];simp)]
 simp only[jw,e2];refine⟨by omega,by show(x:Int)<(wq d).length;omega,fun a=> ?_,fun a=>⟨iZ6,x+1,⟨⟨by simp,tZ⟩,tZ⟩,⟨h,fun b j=> ?_⟩,(by show(wq d).length-(x+1)<(wq d).length-x;omega)⟩⟩;have a:=ja a;by_cases g:qb (wt d) (gL (nth (wq d) x))=false;rw[je g];unfold xi;rw[jd (by rw[c];simp),je];unfold I8;exact L.all_false h g;rw[jd g] at a;exact absurd rfl a;have a:=jc a;by_cases m:b=x;subst m;by_cases g:qb (wt d) (gL (nth (wq d) b))=false;rw[je g] at a;exact absurd (by decide) a;exact eq_true_of_ne_false g;exact l.2 b (by omega);have h:¬(x:Int)<(wq d).length:=jc h;have h:(wq d).length<=x:=(by omega);unfold xi;rw[jd (by rw[c];simp),jd];rw[Bool.not_eq_false];unfold I8;rw[jU];intro b j;obtain⟨i,hi,rfl⟩:=L.mem_iff.1 j;exact l.2 i (by omega)
theorem E9:wZ PR 80 E4:=vl E5 Ig Tryz.func80 (kcC GM kcN) koN
theorem Wh:Sq:=by
 unfold Sq Prod.q4;rintro⟨d,⟨⟩⟩ c;refine⟨fun h=> ?_,fun h=>⟨fun b=> ?_,fun b=>⟨c,jF (We _) c,fun a=> ?_,fun a=> ?_⟩⟩⟩;have h:=ja h;simp only at h⊢;unfold qg;rw[je h];have h:=jc h;simp only at h⊢;unfold qg;rw[jd h,je (by simpa using b)];have h:=jc h;simp only at h⊢;unfold qg;rw[jd h,jd (by simpa using b)];have a:Uv (qq (qc d))=true:=a;rw[je a];have h:=jc h;simp only at h⊢;unfold qg;rw[jd h,jd (by simpa using b)];have a:Uv (qq (qc d))=false:=a;rw[jd (by rw[a];simp)]
theorem GQ:wZ PR 50 Sp:=wL Wh Tryz.func50 (kcC E9 (kcC Ss (kcC Sx kcN))) (koC s0 koN)
namespace U
def Uh {α:Type} [Inhabited α] (l:List α) (j k:Nat):List α:=(l.set j (nth l k)).set k (nth l j)
def oD {α:Type} [Inhabited α] (lt:α->α->Bool):List α->Nat->List α
 |l,0=>l
 |l,j+1=>if lt (nth l (j+1)) (nth l j)=true then oD lt (Uh l (j+1) j) j else l
def eA {α:Type} [Inhabited α] (lt:α->α->Bool) (l:List α) (i:Nat):List α:=(List.range i).foldl (oD lt) l
def lw {α:Type} [Inhabited α] (lt:α->α->Bool) (l:List α):List α:=eA lt l l.length
def rz {α:Type} (lt:α->α->Bool) (x:α):List α->List α
 |[]=>[x]
 |y::r=>if lt x y=true then y::rz lt x r else x::y::r
end U
namespace IS
variable {α:Type} [Inhabited α] {lt:α->α->Bool}
theorem swap_perm {l:List α} {j k:Nat} (a:j<l.length) (hk:k<l.length):(Uh l j k).Perm l:=by
 unfold Uh;rw[L.qI a,L.qI hk];exact List.set_set_perm a hk
theorem sink_perm:∀(j:Nat) (l:List α),j<l.length->(oD lt l j).Perm l
 |0,l,_=>List.Perm.refl _
 |j+1,l,h=>by
  unfold oD
  have a:=swap_perm (l:=l) (j:=j+1) (k:=j) h (by omega)
  split
  exact(sink_perm j _ (by rw[a.length_eq];omega)).trans a
  exact List.Perm.refl _
theorem part_succ (lt:α->α->Bool) (l:List α) (i:Nat):eA lt l (i+1)=oD lt (eA lt l i) i:=by
 simp[eA,zf]
theorem part_perm {l:List α}:∀(i:Nat),i<=l.length->(eA lt l i).Perm l
 |0,_=>List.Perm.refl _
 |i+1,h=>by
  rw[part_succ]
  have a:=part_perm (l:=l) i (by omega)
  exact(sink_perm i _ (by rw[a.length_eq];omega)).trans a
theorem isort_perm (lt:α->α->Bool) (l:List α):(lw lt l).Perm l:=part_perm _ (jk _)
theorem part_isort {l:List α} {i:Nat} (a:1<=i) (b:i<=max l.length 1) (c:l.length<=i):eA lt l i=lw lt l:=by
 unfold lw;by_cases h:l.length=0;have:i=1:=(by omega);subst this;rw[h];rfl;have:i=l.length:=(by omega);rw[this]
theorem insR_len {α:Type} {lt:α->α->Bool} (x:α):∀q:List α,(rz lt x q).length=q.length+1
 |[]=>rfl
 |y::r=>by
  unfold rz
  split
  simp[insR_len x r]
  simp
theorem nth_mid (a:List α) (x:α) (s:List α):nth (a++x::s) a.length=x:=by
 rw[L.qI (by simp)];simp
theorem sink_app:∀(q:List α) (x:α) (s:List α),oD lt (q.reverse++x::s) q.length=(rz lt x q).reverse++s
 |[],x,s=>rfl
 |y::r,x,s=>by
  have e:(y::r).reverse++x::s=r.reverse++y::x::s:=by simp
  rw[e]
  have g:nth (r.reverse++y::x::s) (r.length+1)=x:=by
   have:=nth_mid (r.reverse++[y]) x s;simpa using this
  have h:nth (r.reverse++y::x::s) r.length=y:=by
   have:=nth_mid r.reverse y (x::s);simpa using this
  show(if lt (nth _ (r.length+1)) (nth _ r.length)=true then oD lt (Uh _ (r.length+1) r.length) r.length else _)=_;rw[g,h];unfold rz
  split
  .have a:Uh (r.reverse++y::x::s) (r.length+1) r.length=r.reverse++x::(y::s):=by
    unfold Uh;rw[g,h];apply List.ext_getElem?;intro k;simp only[kr,kg];by_cases b:r.length=k
    .subst b;rw[je rfl,je (by simp)];rw[jx (by simp)];simp
    .rw[jd b];by_cases c:r.length+1=k
     .subst c;rw[je rfl,je (by simp)];rw[jx (by simp)];simp
     .rw[jd c];by_cases f:k<r.length
      .rw[jA (by simpa using f),jA (by simpa using f)]
      .rw[jx (by simp;omega),jx (by simp;omega)];obtain⟨d,i⟩:∃d,k-r.reverse.length=d+2:=⟨k-r.length-2,by simp;omega⟩;rw[i];simp
   rw[a,sink_app r x (y::s)];simp
  .simp
theorem fold_len {α:Type} {lt:α->α->Bool}:∀(l q:List α),(l.foldl (fun q x=>rz lt x q) q).length=q.length+l.length
 |[],q=>rfl
 |x::l,q=>by
  simp only[List.foldl_cons,jY]
  rw[fold_len l,insR_len];omega
theorem part_eq (l:List α):∀i,i<=l.length->eA lt l i=((l.take i).foldl (fun q x=>rz lt x q) []).reverse++l.drop i
 |0,_=>by simp[eA]
 |i+1,h=>by
  rw[part_succ,part_eq l i (by omega)]
  have b:l.drop i=nth l i::l.drop (i+1):=by
   rw[L.qI (by omega)];exact z6 (by omega)
  rw[b];have a:((l.take i).foldl (fun q x=>rz lt x q) []).length=i:=(by rw[fold_len];simp;omega);have:=sink_app (lt:=lt) ((l.take i).foldl (fun q x=>rz lt x q) []) (nth l i) (l.drop (i+1));rw[a] at this;rw[this,L.wO (by omega),jS];rfl
theorem isort_eq (l:List α):lw lt l=(l.foldl (fun q x=>rz lt x q) []).reverse:=by
 unfold lw;rw[part_eq l _ (jk _)];simp
theorem insR_mem {α:Type} {lt:α->α->Bool} {x z:α}:∀{q:List α},z∈rz lt x q↔z=x\/z∈q
 |[]=>by simp[rz]
 |y::r=>by
  unfold rz
  split
  simp only[jj,insR_mem (q:=r)]
  constructor
  rintro(h|h|h)<;>simp[h]
  rintro(h|h|h)<;>simp[h]
  simp
theorem insR_desc {α:Type} {lt:α->α->Bool} {x:α}:∀{q:List α},yg lt (x::q)->q.Pairwise (fun a b=>lt a b=false)->(rz lt x q).Pairwise (fun a b=>lt a b=false)
 |[],_,_=>by simp[rz]
 |y::r,ho,h=>by
  rw[zA] at h
  unfold rz
  split
  rename_i d
  rw[zA]
  refine⟨fun z c=> ?_,insR_desc (ho.sub (fun z c=>by rcases jj.1 c with h|h;exact h▸zg;exact jl _ (jl _ h))) h.2⟩
  rcases insR_mem.1 c with rfl|c
  exact ho.asymm (by simp) (by simp) d
  exact h.1 z c
  rename_i d
  have d:lt x y=false:=by simpa using d
  rw[zA]
  refine⟨fun z c=> ?_,zA.2 h⟩
  rcases jj.1 c with rfl|c
  exact d
  exact ho.ntrans (by simp) (by simp) (by simp[c]) d (h.1 z c)
theorem fold_desc {α:Type} {lt:α->α->Bool}:∀(l q:List α),yg lt (l++q)->q.Pairwise (fun a b=>lt a b=false)->(l.foldl (fun q x=>rz lt x q) q).Pairwise (fun a b=>lt a b=false)
 |[],q,_,h=>h
 |x::l,q,ho,h=>by
  refine fold_desc l _ (ho.sub (fun z c=> ?_)) (insR_desc (ho.sub (fun z c=> ?_)) h)
  rcases jr.1 c with c|c
  simp[c]
  rcases insR_mem.1 c with rfl|c
  simp
  simp[c]
  rcases jj.1 c with rfl|c
  simp
  simp[c]
theorem isort_asc {l:List α} (a:yg lt l):R5 lt (lw lt l):=by
 rw[isort_eq];unfold R5;rw[List.pairwise_reverse];exact fold_desc l [] (by simpa using a) (by simp)
theorem isort_sort {l:List α} (a:yg lt l):lw lt l=wd lt l:=CQ a (isort_perm lt l) (isort_asc a)
end IS
end Go.X
namespace Go.X
open U
open Go.Proofs
def U.len8tab:ByteArray:=⟨#[0,1,2,2,3,3,3,3,4,4,4,4,4,4,4,4,5,5,5,5,5,5,5,5,5,5,5,5,5,5,5,5,6,6,6,6,6,6,6,6,6,6,6,6,6,6,6,6,6,6,6,6,6,6,6,6,6,6,6,6,6,6,6,6,7,7,7,7,7,7,7,7,7,7,7,7,7,7,7,7,7,7,7,7,7,7,7,7,7,7,7,7,7,7,7,7,7,7,7,7,7,7,7,7,7,7,7,7,7,7,7,7,7,7,7,7,7,7,7,7,7,7,7,7,7,7,7,7,8,8,8,8,8,8,8,8,8,8,8,8,8,8,8,8,8,8,8,8,8,8,8,8,8,8,8,8,8,8,8,8,8,8,8,8,8,8,8,8,8,8,8,8,8,8,8,8,8,8,8,8,8,8,8,8,8,8,8,8,8,8,8,8,8,8,8,8,8,8,8,8,8,8,8,8,8,8,8,8,8,8,8,8,8,8,8,8,8,8,8,8,8,8,8,8,8,8,8,8,8,8,8,8,8,8,8,8,8,8,8,8,8,8,8,8,8,8,8,8,8,8,8,8,8,8,8,8]⟩
abbrev rwI:Sh:= .cl (.row 3 .int .unk)
namespace U
abbrev FC:=Int×Int×Unit->Int×Unit
abbrev cn (F:FC):Int->Int->Bool:=we .int F
def lx (p:Int×Int×Unit->List Prop) (l:List Int):Prop:=∀x∈l,∀y∈l,wz (p (x,y,()))
def rA (n:Int):Int:=if n=0 then 0 else if n<2 then 1 else if n<4 then 2 else if n<8 then 3 else 4
end U
def Ih:wS:=⟨[.val (.uint .u64)],[.int],false,fun d=>[0<=d.1/\d.1<=12],fun d=>(rA d.1,())⟩
abbrev jja (d:Int×Unit):=(d.1/(2:Int)^Int.toNat 32/(2:Int)^Int.toNat 16/(2:Int)^Int.toNat 8)
abbrev jjb (d:Int×Unit):=(d.1/(2:Int)^Int.toNat 32/(2:Int)^Int.toNat 16)
abbrev jjc (d:Int×Unit):=(d.1/(2:Int)^Int.toNat 32/(2:Int)^Int.toNat 8)
abbrev jjd (d:Int×Unit):=(d.1/(2:Int)^Int.toNat 16/(2:Int)^Int.toNat 8)
abbrev jjS (d:Int×Unit):=(256<=d.1/(2:Int)^Int.toNat 32/(2:Int)^Int.toNat 16)
def Ii:Prop:=∀(d:Int×Unit),0<=d.1/\d.1<=12->(decide (4294967296<=d.1)=true->(0:Int)<=32/\(32:Int)<=64/\(decide (65536<=d.1/(2:Int)^Int.toNat 32)=true->(0:Int)<=16/\(16:Int)<=64/\wn ((32:Int)+16)/\(decide (jjS d)=true->(0:Int)<=8/\(8:Int)<=64/\wn ((32:Int)+16+8)/\0<=d.1/(2:Int)^Int.toNat 32/(2:Int)^Int.toNat 16/(2:Int)^Int.toNat 8/\d.1/(2:Int)^Int.toNat 32/(2:Int)^Int.toNat 16/(2:Int)^Int.toNat 8<=255/\0<=d.1/(2:Int)^Int.toNat 32/(2:Int)^Int.toNat 16/(2:Int)^Int.toNat 8/\d.1/(2:Int)^Int.toNat 32/(2:Int)^Int.toNat 16/(2:Int)^Int.toNat 8<(U.len8tab.size:Int)/\wn (aK U.len8tab (jja d).toNat)/\wn ((32:Int)+16+8+aK U.len8tab (jja d).toNat)/\((32:Int)+16+8+aK U.len8tab (jja d).toNat,())=(rA d.1,()))/\(decide (jjS d)=false->0<=d.1/(2:Int)^Int.toNat 32/(2:Int)^Int.toNat 16/\d.1/(2:Int)^Int.toNat 32/(2:Int)^Int.toNat 16<=255/\0<=d.1/(2:Int)^Int.toNat 32/(2:Int)^Int.toNat 16/\d.1/(2:Int)^Int.toNat 32/(2:Int)^Int.toNat 16<(U.len8tab.size:Int)/\wn (aK U.len8tab (jjb d).toNat)/\wn ((32:Int)+16+aK U.len8tab (jjb d).toNat)/\((32:Int)+16+aK U.len8tab (jjb d).toNat,())=(rA d.1,())))/\(decide (65536<=d.1/(2:Int)^Int.toNat 32)=false->(decide (256<=d.1/(2:Int)^Int.toNat 32)=true->(0:Int)<=8/\(8:Int)<=64/\wn ((32:Int)+8)/\0<=d.1/(2:Int)^Int.toNat 32/(2:Int)^Int.toNat 8/\d.1/(2:Int)^Int.toNat 32/(2:Int)^Int.toNat 8<=255/\0<=d.1/(2:Int)^Int.toNat 32/(2:Int)^Int.toNat 8/\d.1/(2:Int)^Int.toNat 32/(2:Int)^Int.toNat 8<(U.len8tab.size:Int)/\wn (aK U.len8tab (jjc d).toNat)/\wn ((32:Int)+8+aK U.len8tab (jjc d).toNat)/\((32:Int)+8+aK U.len8tab (jjc d).toNat,())=(rA d.1,()))/\(decide (256<=d.1/(2:Int)^Int.toNat 32)=false->0<=d.1/(2:Int)^Int.toNat 32/\d.1/(2:Int)^Int.toNat 32<=255/\0<=d.1/(2:Int)^Int.toNat 32/\d.1/(2:Int)^Int.toNat 32<(U.len8tab.size:Int)/\wn (aK U.len8tab (d.1/(2:Int)^Int.toNat 32).toNat)/\wn ((32:Int)+aK U.len8tab (d.1/(2:Int)^Int.toNat 32).toNat)/\((32:Int)+aK U.len8tab (d.1/(2:Int)^Int.toNat 32).toNat,())=(rA d.1,()))))/\(decide (4294967296<=d.1)=false->(decide (65536<=d.1)=true->(0:Int)<=16/\(16:Int)<=64/\wn ((0:Int)+16)/\(decide (256<=d.1/(2:Int)^Int.toNat 16)=true->(0:Int)<=8/\(8:Int)<=64/\wn ((0:Int)+16+8)/\0<=d.1/(2:Int)^Int.toNat 16/(2:Int)^Int.toNat 8/\d.1/(2:Int)^Int.toNat 16/(2:Int)^Int.toNat 8<=255/\0<=d.1/(2:Int)^Int.toNat 16/(2:Int)^Int.toNat 8/\d.1/(2:Int)^Int.toNat 16/(2:Int)^Int.toNat 8<(U.len8tab.size:Int)/\wn (aK U.len8tab (jjd d).toNat)/\wn ((0:Int)+16+8+aK U.len8tab (jjd d).toNat)/\((0:Int)+16+8+aK U.len8tab (jjd d).toNat,())=(rA d.1,()))/\(decide (256<=d.1/(2:Int)^Int.toNat 16)=false->0<=d.1/(2:Int)^Int.toNat 16/\d.1/(2:Int)^Int.toNat 16<=255/\0<=d.1/(2:Int)^Int.toNat 16/\d.1/(2:Int)^Int.toNat 16<(U.len8tab.size:Int)/\wn (aK U.len8tab (d.1/(2:Int)^Int.toNat 16).toNat)/\wn ((0:Int)+16+aK U.len8tab (d.1/(2:Int)^Int.toNat 16).toNat)/\((0:Int)+16+aK U.len8tab (d.1/(2:Int)^Int.toNat 16).toNat,())=(rA d.1,())))/\(decide (65536<=d.1)=false->(decide (256<=d.1)=true->(0:Int)<=8/\(8:Int)<=64/\wn ((0:Int)+8)/\0<=d.1/(2:Int)^Int.toNat 8/\d.1/(2:Int)^Int.toNat 8<=255/\0<=d.1/(2:Int)^Int.toNat 8/\d.1/(2:Int)^Int.toNat 8<(U.len8tab.size:Int)/\wn (aK U.len8tab (d.1/(2:Int)^Int.toNat 8).toNat)/\wn ((0:Int)+8+aK U.len8tab (d.1/(2:Int)^Int.toNat 8).toNat)/\((0:Int)+8+aK U.len8tab (d.1/(2:Int)^Int.toNat 8).toNat,())=(rA d.1,()))/\(decide (256<=d.1)=false->0<=d.1/\d.1<=255/\0<=d.1/\d.1<(U.len8tab.size:Int)/\wn (aK U.len8tab d.1.toNat)/\wn ((0:Int)+aK U.len8tab d.1.toNat)/\((0:Int)+aK U.len8tab d.1.toNat,())=(rA d.1,()))))
def N0:wS:=⟨[.val (.uint .u64)],[.int],false,fun d=>[0<=d.1/\d.1<=12],fun d=>(rA d.1,())⟩
def N1:Prop:=∀(d:Int×Unit),0<=d.1/\d.1<=12->(false=true->False)/\(qF->(0<=d.1/\d.1<=12)/\(rA d.1,())=(rA d.1,()))
def bG:vi:=⟨[.own rwI true,.val .int,.val .int,.fn [.int,.int] [.int]],[],fun d=>[d.2.1=0/\d.2.2.1=(d.1.length:Int)/\d.1.length<=12,lx d.2.2.2.1.pre d.1],fun d=>((),(lw (cn d.2.2.2.1.F) d.1,()))⟩
def bH:Ann:=fun r=>match r with
 |1=>some fun σ=>{X:=Nat,sl:=fun i=>[(8,.dat .int (i:Int))],ob:=fun i=>[(1000000,some (.row 3 .int false .unk (eA (cn (gfn [.int,.int] [.int] σ 3)) (gr .int σ 1000000) i)))],inv:=fun i=>1<=i/\i<=max (gr .int σ 1000000).length 1,mu:=fun i=>(gr .int σ 1000000).length-i}
 |4=>some fun σ=>{X:=Nat×List Int,sl:=fun x=>[(9,.dat .int (x.1:Int))],ob:=fun x=>[(1000000,some (.row 3 .int false .unk x.2))],inv:=fun x=>(x.1:Int)<=gd .int σ 8/\x.2.Perm (gr .int σ 1000000)/\oD (cn (gfn [.int,.int] [.int] σ 3)) x.2 x.1=oD (cn (gfn [.int,.int] [.int] σ 3)) (gr .int σ 1000000) (gd .int σ 8).toNat,mu:=fun x=>x.1}
 |_=>none
abbrev jje (a:Nat×List Int):=(nth a.2 (a.1:Int).toNat,nth a.2 ((a.1:Int)-1).toNat,())
abbrev jfT (d:List Int×Int×Int×FnD [Ty.int,Ty.int] [Ty.int]×Unit):=(cn d.2.2.2.1.2)
def bI:Prop:=∀(d:List Int×Int×Int×FnD [Ty.int,Ty.int] [Ty.int]×Unit),d.2.1=0/\d.2.2.1=(d.1.length:Int)/\d.1.length<=12->lx d.2.2.2.1.1 d.1->wn (d.2.1+1)/\(∃(x:Nat),((d.2.1+1=(x:Int)/\True)/\d.1=eA (jfT d) d.1 x/\True)/\1<=x/\x<=max d.1.length 1)/\∀(x:Nat),1<=x/\x<=max d.1.length 1->(decide ((x:Int)<d.2.2.1)=true->(∃(a:Nat×List Int),(((x:Int)=(a.1:Int)/\True)/\eA (jfT d) d.1 x=a.2/\True)/\(a.1:Int)<=(x:Int)/\a.2.Perm (eA (jfT d) d.1 x)/\oD (jfT d) a.2 a.1=oD (jfT d) (eA (jfT d) d.1 x) (x:Int).toNat)/\∀(a:Nat×List Int),(a.1:Int)<=(x:Int)/\a.2.Perm (eA (jfT d) d.1 x)/\oD (jfT d) a.2 a.1=oD (jfT d) (eA (jfT d) d.1 x) (x:Int).toNat->(decide (d.2.1<(a.1:Int))=true->0<=(a.1:Int))/\(decide (d.2.1<(a.1:Int))=true->(a.1:Int)<a.2.length)/\(decide (d.2.1<(a.1:Int))=true->wn ((a.1:Int)-1))/\(decide (d.2.1<(a.1:Int))=true->0<=(a.1:Int)-1)/\(decide (d.2.1<(a.1:Int))=true->(a.1:Int)-1<(a.2.length:Int))/\UF (decide (d.2.1<(a.1:Int))) (d.2.2.2.1.1 (jje a)) (((decide (d.2.1<(a.1:Int))&&decide ((d.2.2.2.1.2 (jje a)).1<0))=true->wn ((a.1:Int)-1)/\wn ((a.1:Int)-1)/\0<=(a.1:Int)-1/\(a.1:Int)-1<(a.2.length:Int)/\0<=(a.1:Int)/\(a.1:Int)<a.2.length/\0<=(a.1:Int)/\(a.1:Int)<a.2.length/\0<=(a.1:Int)-1/\(a.1:Int)-1<(↑(a.2.set (a.1:Int).toNat (nth a.2 ((a.1:Int)-1).toNat)).length:Int)/\wn ((a.1:Int)-1)/\∃(b:Nat×List Int),(((a.1:Int)-1=(b.1:Int)/\True)/\(a.2.set (a.1:Int).toNat (nth a.2 ((a.1:Int)-1).toNat)).set ((a.1:Int)-1).toNat (nth a.2 (a.1:Int).toNat)=b.2/\True)/\((b.1:Int)<=(x:Int)/\b.2.Perm (eA (jfT d) d.1 x)/\oD (jfT d) b.2 b.1=oD (jfT d) (eA (jfT d) d.1 x) (x:Int).toNat)/\b.1<a.1)/\((decide (d.2.1<(a.1:Int))&&decide ((d.2.2.2.1.2 (jje a)).1<0))=false->wn ((x:Int)+1)/\∃(c:Nat),(((x:Int)+1=(c:Int)/\True)/\a.2=eA (jfT d) d.1 c/\True)/\(1<=c/\c<=max d.1.length 1)/\d.1.length-c<d.1.length-x)))/\(decide ((x:Int)<d.2.2.1)=false->()=()/\(eA (jfT d) d.1 x,())=(lw (jfT d) d.1,()))
def fG:vi:=⟨[.own rwI true,.val .int,.val .int,.val .int,.fn [.int,.int] [.int]],[],fun d=>[d.2.1=0/\d.2.2.1=(d.1.length:Int)/\d.1.length<=12,lx d.2.2.2.2.1.pre d.1],fun d=>((),(lw (cn d.2.2.2.2.1.F) d.1,()))⟩
def fH:Ann:=fun r=>match r with
 |1000002=>some fun _=>{X:=Unit,sl:=fun _=>[],ob:=fun _=>[],inv:=fun _=>True,mu:=fun _=>0}
 |_=>none
def fI:Prop:=∀(d:List Int×Int×Int×Int×FnD [Ty.int,Ty.int] [Ty.int]×Unit),d.2.1=0/\d.2.2.1=(d.1.length:Int)/\d.1.length<=12->lx d.q4.1.1 d.1->wn (d.2.2.1-d.2.1)/\(decide (d.2.2.1-d.2.1<=12)=true->(d.2.1=0/\d.2.2.1=(d.1.length:Int)/\d.1.length<=12)/\lx d.q4.1.1 d.1/\()=()/\(lw (cn d.q4.1.2) d.1,())=(lw (cn d.q4.1.2) d.1,()))/\(decide (d.2.2.1-d.2.1<=12)=false->(decide (d.2.2.2.1=0)=true->False)/\(decide (d.2.2.2.1=0)=false->((!true)=true->False)/\((!true)=false->False)))
def vo:vi:=⟨[.own rwI true,.fn [.int,.int] [.int]],[],fun d=>[d.1.length<=12,lx d.2.1.pre d.1,yg (cn d.2.1.F) d.1],fun d=>((),(wd (cn d.2.1.F) d.1,()))⟩
def s7:Prop:=∀(d:List Int×FnD [Ty.int,Ty.int] [Ty.int]×Unit),d.1.length<=12->lx d.2.1.1 d.1->yg (cn d.2.1.2) d.1->d.1.length<4611686018427387904->0<=(d.1.length:Int)/\(d.1.length:Int)<=18446744073709551615/\(0<=(d.1.length:Int)/\(d.1.length:Int)<=12)/\((0:Int)=0/\(d.1.length:Int)=d.1.length/\d.1.length<=12)/\lx d.2.1.1 d.1/\()=()/\(lw (cn d.2.1.2) d.1,())=(wd (cn d.2.1.2) d.1,())
def asI (l:List Int):List (Ty.st [.int]).Data:=l.map (fun x=>(x,()))
def LVi (d:PD [.ref (.slice .int)]) (xs:List (Ty.st [.int]).Data):Prop:=xs=asI d.1
def s8:Bo (YS [.int]):=fun r=>match r with
 |1=>some fun σ _=>{X:=Nat,sl:=fun i=>[(7,.dat .int (i:Int))],ob:=fun _=>[],ys:=fun i=>(asI ((gd (.slice .int) σ 5).take i),true),inv:=fun i=>i<=(gd (.slice .int) σ 5).length,mu:=fun i=>(gd (.slice .int) σ 5).length-i}
 |_=>none
abbrev jf4:=(fun(a:Int)=>(a,()))
abbrev jhU (d:List Int×Unit)(x:Nat):=(nth d.1 (x:Int).toNat,())
def dM:Prop:=∀(d:List Int×Unit) (l:Nat),d.1.length<4611686018427387904->(∃(x:Nat),((0=(x:Int)/\True)/\True)/\([],true)=(List.map jf4 (List.take x d.1),true)/\x<=d.1.length)/\∀(x:Nat),x<=d.1.length->(decide ((x:Int)<d.1.length)=true->0<=(x:Int)/\(x:Int)<d.1.length/\l=l/\(∃(rest:List (Int×Unit)),List.map jf4 (List.take x d.1)++[(jhU d x)]++rest=List.map jf4 d.1)/\(((!true)=true->true=true->List.map jf4 (List.take x d.1)++[(jhU d x)]=List.map jf4 d.1)/\((!true)=false->wn ((x:Int)+1)/\∃(a:Nat),(((x:Int)+1=(a:Int)/\True)/\True)/\(List.map jf4 (List.take x d.1)++[(jhU d x)],true)=(List.map jf4 (List.take a d.1),true)/\a<=d.1.length/\d.1.length-a<d.1.length-x))/\((!false)=true->false=true->List.map jf4 (List.take x d.1)++[(jhU d x)]=List.map jf4 d.1)/\((!false)=false->wn ((x:Int)+1)/\∃(a:Nat),(((x:Int)+1=(a:Int)/\True)/\True)/\(List.map jf4 (List.take x d.1)++[(jhU d x)],false)=(List.map jf4 (List.take a d.1),true)/\a<=d.1.length/\d.1.length-a<d.1.length-x))/\(decide ((x:Int)<d.1.length)=false->true=true->List.map jf4 (List.take x d.1)=List.map jf4 d.1)
theorem mQ:(YV (ctx 16 [] []) (qh Tryz.f241) [.int] [.ref (.slice .int)] LVi (fun _=>[]) (fun _ _=>s8) (fun d l=>hkY [.int] l [13] (fun q=>∃rest,LVi d (q++rest)) (fun _=>none)))=dM:=by kernel_rfl
def vw:px:=⟨[.val (.slice .int)],fun _=>[],241,[.slice .int],fun d=>(d.1,())⟩
def ln:Prop:=∀(d:List Int×Unit),d=d
theorem p4:(VI (ctx 4 [] []) (fun _=>none) Tryz.f223 (qh Tryz.f223) vw)=ln:=by kernel_rfl
def cL:JY [.int]:={ps:=[.own (.box 31 [.row 3 .int .unk]) true],slots:=[2],dst:=20,pre:=fun _=>[],G:=fun d q=>((d.1.1++q.map (·.1),()),()),seq:=fun sv=>match sv with
 | .clo 241 [.ep t m]=>(match qQ t (.slice .int) m with
  |some a=>some (True,fun xs=>xs=asI a)
  |none=>none)
 |_=>none}
def ag:Nat->Option ((ts:List Ty)×JY ts):=fun r=>match r with
 |3=>some ⟨[.int],cL⟩
 |_=>none
def vR:pA:=⟨[none,some (241,1)],[.nil false,.ref (.slice .int)],[rwI],fun d=>[d.2.1.length<=12],fun d r=>r.1.1=d.2.1⟩
def yA:pA:=⟨[some (241,1)],[.ref (.slice .int)],[rwI],fun d=>[d.1.length<=12],fun d r=>r.1.1=d.1⟩
def vC:pA:=⟨[some (241,1),none],[.ref (.slice .int),.fn [.int,.int] [.int]],[rwI],fun d=>[d.1.length<=12,lx d.2.1.pre d.1,yg (cn d.2.1.F) d.1],fun d r=>r.1.1=wd (cn d.2.1.F) d.1⟩
def p6 (d:OD vR.ps):List SV:=[.lit (.slice none 0 0),.clo 241 [.ep (.slice .int) d.2.1]]
abbrev jhV:=(fun(a:Int×Unit)=>a.1)
abbrev jjf:=(fun(a:List (Int×Unit))=>false)
abbrev jjg:=(fun(a:Int)=>(a,()))
def cM:Prop:=∀(d:Unit×List Int×Unit),d.2.1.length<=12/\True->True/\True/\(([]++List.map jhV [],()),())=(([],()),())/\(∀(q:List (Int×Unit)) (x:Int×Unit) (rest:List (Int×Unit)),q++x::rest=List.map jjg d.2.1->y4 jjf q->(([]++List.map jhV q).length+[x.1].length)*8<=140737488355328/\qF/\(([]++List.map jhV q++[x.1],()),())=(([]++List.map jhV (q++[x]),()),()))/\(∀(xs:List (Int×Unit)),xs=List.map jjg d.2.1->y4 jjf xs->∃(_:Unit),[]++List.map jhV xs=d.2.1)/\∀(q:List (Int×Unit)) (x:Int×Unit) (rest:List (Int×Unit)),q++x::rest=List.map jjg d.2.1->y4 jjf q->false=true->∃(_:Unit),[]=d.2.1
theorem lN:(VK (ctx 13 [] []) (fun _=>none) (hkC (ctx 13 [] []) (fun _=>none) ag [] []) Tryz.f246 (qh Tryz.f246) vR p6)=cM:=by kernel_rfl
def uH (d:OD yA.ps):List SV:=[.clo 241 [.ep (.slice .int) d.1]]
def fJ:Prop:=∀(d:List Int×Unit),d.1.length<=12/\True->(d.1.length<=12/\True)/\∀(r:(List Int×Unit)×Unit),r.1.1=d.1->∃(_:Unit),r.1.1=d.1
theorem om:(VK (ctx 5 [] []) (fun _=>none) (hkC (ctx 5 [] []) (fun _=>none) jbL [4] [(246,20,vR)]) Tryz.f239 (qh Tryz.f239) yA uH)=fJ:=by kernel_rfl
def oq (d:OD vC.ps):List SV:=[.clo 241 [.ep (.slice .int) d.1],.fn [.int,.int] [.int] d.2.1.pre d.2.1.F]
def bZ:Prop:=∀(d:List Int×FnD [Ty.int,Ty.int] [Ty.int]×Unit),d.1.length<=12/\lx d.2.1.1 d.1/\yg (cn d.2.1.2) d.1/\True->(d.1.length<=12/\True)/\∀(r:(List Int×Unit)×Unit),r.1.1=d.1->r.1.1.length<=12/\lx d.2.1.1 r.1.1/\yg (cn d.2.1.2) r.1.1/\∃(_:Unit),wd (cn d.2.1.2) r.1.1=wd (cn d.2.1.2) d.1
theorem iU:(VK (ctx 12 [] [(240,vo)]) (fun _=>none) (hkC (ctx 12 [] [(240,vo)]) (fun _=>none) jbL [7] [(239,20,yA)]) Tryz.f222 (qh Tryz.f222) vC oq)=bZ:=by kernel_rfl
theorem Sy {b:Bool} {l:List Prop} {k:Prop} (h:b=true->wz l) (hk:k):UF b l k:=by
 induction l with
 |nil=>exact hk
 |cons p l c=>exact⟨fun a=>(h a).1,c (fun a=>(h a).2)⟩
theorem jft:∀n:Nat,n<13->aK U.len8tab n=rA (n:Int):=by decide+kernel
theorem jb1 (n:Int):0<=rA n/\rA n<=4:=by
 unfold rA
 split
 omega
 split
 omega
 split
 omega
 split<;>omega
theorem KU:Ii:=by
 unfold Ii jjS jjd jjc jjb jja;rintro⟨n,⟨⟩⟩ ⟨a,b⟩;have a:0<=n:=a;have b:n<=12:=b;refine⟨fun h=>absurd (ja h) (by simp only;omega),fun _=>⟨fun h=>absurd (ja h) (by simp only;omega),fun _=>⟨fun h=>absurd (ja h) (by simp only;omega),fun _=> ?_⟩⟩⟩;have c:=jft n.toNat (by omega);rw[Int.toNat_of_nonneg a] at c;have d:=jb1 n;simp only;rw[c];refine⟨by omega,by omega,by omega,?_,by unfold wn;omega,by unfold wn;omega,by rw[Int.zero_add]⟩;have:U.len8tab.size=256:=(by decide+kernel);omega
theorem Ij:wZ PR 178 Ih:=wL KU Tryz.func178 kcN koN
theorem Sz:N1:=by
 rintro⟨n,⟨⟩⟩ h;exact⟨fun e=>(by cases e),fun _=>⟨h,rfl⟩⟩
theorem N2:wZ PR 140 N0:=wL Sz Tryz.func140 (kcC Ij kcN) koN
theorem bS:bI:=by
 unfold bI jfT jje;rintro⟨l,a,b,⟨pre,c⟩,⟨⟩⟩ x y;obtain⟨z,n,E⟩:a=0/\b=(l.length:Int)/\l.length<=12:=x;have s:lx pre l:=y;subst z n;simp only;refine⟨by unfold wn;omega,⟨1,⟨⟨rfl,tZ⟩,rfl,tZ⟩,jk _,by omega⟩,fun i hi=>⟨fun h=> ?_,fun h=> ?_⟩⟩
 .have h:i<l.length:=(by have:=ja h;omega);have u:=IS.part_perm (lt:=cn c) (l:=l) i (by omega);refine⟨⟨(i,eA (cn c) l i),⟨⟨rfl,tZ⟩,rfl,tZ⟩,zH _,List.Perm.refl _,rfl⟩,?_⟩;rintro⟨j,m⟩ ⟨v,o,p⟩;have v:(j:Int)<=i:=v;have o:m.Perm (eA (cn c) l i):=o;have p:oD (cn c) m j=oD (cn c) (eA (cn c) l i) i:=p;have C:m.length=l.length:=(o.trans u).length_eq;have g:∀{k:Nat},k<m.length->nth m k∈l:=fun hk=>(o.trans u).mem_iff.1 (L.wi hk)
  simp only[jw];refine⟨fun _=>by omega,fun f=>by have:=ja f;omega,fun f=>by have:=ja f;unfold wn;omega,fun f=>by have:=ja f;omega,fun f=>by have:=ja f;omega,Sy (fun f=> ?_) ⟨fun n=> ?_,fun n=> ?_⟩⟩
  .have f:=ja f;exact s _ (g (by omega)) _ (g (by omega))
  .simp only[ji,jp] at n;obtain⟨D,q⟩:=n;obtain⟨d,rfl⟩:∃d,j=d+1:=⟨j-1,by omega⟩;have r:((d+1:Nat):Int)-1=(d:Int):=(by omega);rw[r] at q⊢;simp only[jw] at q⊢;have t:=IS.swap_perm (l:=m) (j:=d+1) (k:=d) (by omega) (by omega);have e:wn (d:Int):=(by unfold wn;omega);refine⟨e,e,by omega,by omega,by omega,by omega,by omega,by omega,by omega,by simp;omega,e,⟨(d,Uh m (d+1) d),⟨⟨rfl,tZ⟩,rfl,tZ⟩,⟨by simp only;omega,t.trans o,?_⟩,by simp⟩⟩;rw[<-p];show _=(if cn c (nth m (d+1)) (nth m d)=true then oD (cn c) (Uh m (d+1) d) d else m);have w:cn c (nth m (d+1)) (nth m d)=true:=jD q;rw[je w]
  .have B:m=eA (cn c) l (i+1):=by
    rw[IS.part_succ,<-p];cases j with
    |zero=>rfl
    |succ d=>
     unfold oD;rw[jd];intro A;refine absurd n (by
      rw[km];rintro(h|h)
      .exact absurd (jc h) (by simp)
      .refine jc h ?_;have r:((d+1:Nat):Int)-1=(d:Int):=(by omega);rw[r];exact ja A)
   exact⟨by unfold wn;omega,i+1,⟨⟨by simp,tZ⟩,B,tZ⟩,by omega,by omega⟩
 .have h:l.length<=i:=(by have:=jc h;omega);exact⟨tZ,by rw[IS.part_isort hi.1 hi.2 h]⟩
theorem bJ:ac PR 251 bG:=sF bH bS Tryz.func251 kcN koN
theorem iV:fI:=by
 unfold fI Prod.q4;rintro⟨l,a,b,lim,⟨pre,c⟩,⟨⟩⟩ e d;obtain⟨f,g,i⟩:a=0/\b=(l.length:Int)/\l.length<=12:=e;subst f g;refine⟨by unfold wn;simp only;omega,fun _=>⟨⟨rfl,rfl,by simp only;omega⟩,d,rfl,rfl⟩,fun h=>absurd (jc h) (by simp only;omega)⟩
theorem fK:ac PR 247 fG:=sF fH iV Tryz.func247 kcN (koC bJ koN)
theorem uI:s7:=by
 rintro⟨l,⟨pre,c⟩,⟨⟩⟩ a b d _;have a:l.length<=12:=a;exact⟨by simp only;omega,by simp only;omega,⟨by simp only;omega,by simp only;omega⟩,⟨rfl,rfl,a⟩,b,rfl,jE (·,()) (IS.isort_sort d)⟩
theorem s9:ac PR 240 vo:=CT uI Tryz.func240 (kcC N2 kcN) (koC fK koN)
theorem Zp {l:List Int} {i:Nat} (h:i<l.length):asI (l.take (i+1))=asI (l.take i)++[(nth l i,())]:=by
 unfold asI;rw[L.wO h,zw];rfl
theorem uJ:dM:=by
 unfold dM jhU jf4;rintro⟨l,⟨⟩⟩ y b;have b:l.length<4611686018427387904:=b;refine⟨⟨0,⟨⟨rfl,tZ⟩,tZ⟩,rfl,jm _⟩,fun x c=>⟨fun h=> ?_,fun h _=> ?_⟩⟩;have h:(x:Int)<l.length:=ja h;have a:x<l.length:=(by omega);have e:=Zp a;unfold asI at e;simp only[jw];refine⟨by omega,h,tZ,⟨asI (l.drop (x+1)),?_⟩,⟨fun h=>(by cases h),fun _=>⟨iZ6,x+1,⟨⟨by simp,tZ⟩,tZ⟩,?_,by show x+1<=l.length;omega,by show l.length-(x+1)<l.length-x;omega⟩⟩,fun _ h=>(by cases h),fun h=>(by cases h)⟩;rw[<-e];unfold asI;rw[<-zw,zY];rw[e];have h:¬(x:Int)<l.length:=jc h;have c:x<=l.length:=c;rw[zv (by show l.length<=x;omega)]
theorem SA {H:Imm} {lb:Array Value} {d:PD [.ref (.slice .int)]} (e:pvs PR H [.ref (.slice .int)] lb.toList d):YT PR H [.int] (LVi d) (.func (.func 241) #[] lb):=
 jaz (C:=ctx 16 [] []) (oP trivial trivial) mixed Tryz.func241 (by kernel_rfl) (by kernel_rfl) (by kernel_rfl) (by kernel_rfl) (by decide) (mQ.mpr uJ) (fun d l B0 R f a b c=>jdB a c) e trivial
theorem Dr:ln:=by intro d;rfl
theorem Au:J2 PR 223 vw:=jdE (p4.mpr Dr) Tryz.func223 (by kernel_rfl) (by kernel_rfl) (by kernel_rfl) (by kernel_rfl) trivial trivial
theorem jb2 (l:List Int):(asI l).map (fun(x:Int×Unit)=>x.1)=l:=by
 unfold asI;rw[kK];exact List.map_id l
theorem tb:cM:=by
 unfold cM jjg jjf jhV;intro d ⟨a,_⟩;refine⟨tZ,tZ,rfl,fun q x rest h _=>⟨?_,rfl,?_⟩,fun xs h _=>⟨(),?_⟩,fun _ _ _ _ _ h=>(by cases h)⟩;have b:=jE List.length h;simp only[zj,jL,jY] at b;have a:d.2.1.length<=12:=a;simp only[jV,zj,jY,zq];omega;simp;rw[h,jV];exact jb2 d.2.1
theorem Av:fJ:=fun _ a=>⟨a,fun _ h=>⟨(),h⟩⟩
theorem p7:bZ:=fun d ⟨a,b,c,_⟩=>⟨⟨a,tZ⟩,fun r h=>by rw[h];exact⟨a,b,c,(),rfl⟩⟩
theorem QK {P:Program} {ρ:Env} {H:Imm} (b:ρ.H=H) {g:Nat} {t:Ty} {d:t.Data} {lb:Array Value} {w:World} {bs:List Nat} (a:ff P H w [.ref t] lb.toList (d,()) bs):SV.den P ρ (.clo g [.ep t d]) (.func (.func g) #[] lb):=by
 subst b
 match e:lb.toList,a with
 |[],a=>exact a.elim
 |[x],⟨_,_,_,⟨c,_⟩,_⟩=>
  simp only[SV.den,SV.denL];exact⟨lb,rfl,x,[],e,c,rfl⟩
 |x::y::r,⟨_,_,_,_,h2⟩=>cases h2.1
theorem N3 {lb:Array Value} (h:lb.size=1):∃x,lb.toList=[x]:=by
 have a:lb.toList.length=1:=(by rw[j9];exact h);exact List.length_eq_one_iff.1 a
theorem Wi {g n:Nat} {s:pA} (h:ROK PR g s):∀(f:Nat) (p:Nat×pA),wM [(g,n,s)] f=some p->ROK PR f p.2:=by
 intro f p a;simp only[wM] at a
 split at a
 rename_i b;have:=jb b;subst this;simp at a;subst a;exact h;cases a
theorem Zq (n:Nat):(ctx n [] []).ok PR:=oP trivial trivial
theorem ot:ROK PR 246 vR:=by
 refine VL (body:=qh Tryz.f246) (C:=ctx 13 [] []) (hk:=hkC (ctx 13 [] []) (fun _=>none) ag [] []) (Zq 13) mixed Tryz.func246 (by kernel_rfl) (by kernel_rfl) (by kernel_rfl) (fun B=>GI (Zq 13) mixed ?_ jbX B) rfl (fun H w vals fl d bs c b ρ f=> ?_) (fun d=>rfl) (lN.mpr tb)
 .intro k t rs sv A L v ρ hk a p g;unfold ag at hk
  split at hk
  case h_2=>cases hk
  simp only[jz] at hk;cases hk;simp only[cL] at a
  split at a
  case h_2=>cases a
  rename_i t m
  split at a
  case h_2=>cases a
  rename_i z o;simp only[jz,Prod.mk.injEq] at a;obtain⟨rfl,rfl⟩:=a;obtain⟨e,rfl⟩:=wo o;subst e;simp only[SV.den,SV.denL] at g;obtain⟨lb,rfl,x,r,n,j,l⟩:=g;exact SA (d:=(m,())) (by rw[n,l];exact⟨j,rfl⟩)
 .obtain⟨v,q,h,rfl,rfl,lb,s,i,rfl,rfl,_,rfl,rfl⟩:=c;obtain⟨u,y,_,⟨rfl,_⟩,b⟩:=b;rw[j7] at b;refine⟨_,_,rfl,rfl,_,_,rfl,QK f b,rfl⟩
theorem td:ROK PR 239 yA:=by
 refine VL (body:=qh Tryz.f239) (C:=ctx 5 [] []) (hk:=hkC (ctx 5 [] []) (fun _=>none) jbL [4] [(246,20,vR)]) (Zq 5) mixed Tryz.func239 (by kernel_rfl) (by kernel_rfl) (by kernel_rfl) (fun B=>GI (Zq 5) mixed Nq (Wi ot) B) rfl (fun H w vals fl d bs a c ρ b=> ?_) (fun d=>rfl) (om.mpr Av);obtain⟨lb,f,e,rfl,rfl,_,rfl,rfl⟩:=a;rw[j7] at c;exact⟨_,_,rfl,QK b c,rfl⟩
theorem GR:(ctx 12 [] [(240,vo)]).ok PR:=oP trivial ⟨s9,tZ⟩
theorem mR:ROK PR 222 vC:=by
 refine VL (body:=qh Tryz.f222) (C:=ctx 12 [] [(240,vo)]) (hk:=hkC (ctx 12 [] [(240,vo)]) (fun _=>none) jbL [7] [(239,20,yA)]) GR mixed Tryz.func222 (by kernel_rfl) (by kernel_rfl) (by kernel_rfl)
  (fun B=>GI GR mixed Nq (Wi td) B) rfl (fun H w vals fl d bs a e ρ c=> ?_) (fun d=>rfl) (iU.mpr p7)
 obtain⟨lb,k,g,rfl,rfl,b,v,l,h,rfl,rfl,rfl,rfl⟩:=a;obtain⟨x,f⟩:=N3 b;rw[f] at e;obtain⟨m,n,_,⟨i,_⟩,c1,c2,_,⟨j,_⟩,_⟩:=e;subst c;refine⟨_,_,rfl,⟨lb,rfl,x,[],f,i,rfl⟩,_,_,rfl,j,rfl⟩
abbrev tRo:Ty:= .st [tDy,.slice .int,.slice (.slice .int),.slice .int]
abbrev RoD:Type:=DyD×List Int×List (List Int)×List Int×Unit
namespace U
def ro (o:Option RoD):RoD:=wK (Ty.dflt tRo) o
def rd (r:RoD):DyD:=r.1
def nq (r:RoD):List Int:=r.2.1
def bO (r:RoD):List (List Int):=r.2.2.1
def je3 (r:RoD):List Int:=r.2.2.2.1
def au (d:DyD) (b:Int):Prop:=0<=b/\b<((wq d).length:Int)
def Et (d:DyD) (l:List Int):Prop:=l.length<=12/\∀b∈l,au d b
def FV (d:DyD):Prop:=wu (wt d)=true/\I8 d=true/\qD d=true
def Rj (r:RoD):Prop:=FV (rd r)/\(nq r).length=(wq (rd r)).length
def My (d:DyD) (p:Int):Prop:=0<=p/\p<((wj (wt d)).length:Int)
def tS (d:DyD) (a b:Int):Int:=gg [dr (wJ (bk d a)) (wJ (bk d b)),dr a b]
def wy (d:DyD) (l:List Int):List Int:=wd (aq d) l
def vT (d:DyD) (s:List Int) (n:Nat):Int:=I9 d (s.take n)
def Jb (d:DyD) (dR:List Int) (p:Int) (s:List Int) (i:Nat):Bool:= !(decide (fZ (nth dR (nth s i).toNat/2^p.toNat) 1=0)||(s.drop (i+1)).any (fun c=>decide (bL d (nth s i) c<0)))
def jcU (d:DyD) (dR:List Int) (p:Int) (s:List Int):Bool:=(List.range s.length).all (Jb d dR p s)&&decide (I9 d s<=jae d)
def PO (d:DyD) (dR:List Int) (p:Int) (l:List Int):Bool:=jcU d dR p (wy d l)
def Mg (r:RoD) (p:Int) (l:List Int):Bool:=PO (rd r) (nq r) p l
def bi (on:List (List Int)) (b:Int) (n:Nat):Int:=(List.range n).foldl (fun s p=>if(nth on p).any (fun x=>decide (x=b))=true then bor s (1*2^p) else s) 0
def eB (on:List (List Int)) (b:Int):Int:=bi on b on.length
def Eu (d:DyD) (b t:Int):Bool:=(decide (bN (wt d) (gL (bk d b)) t=0)&&decide (jdd (wt d) (gL (bk d b)) t=0))&&decide (t≠0)
end U
def uK:wS:=⟨[.val (.ptr tRo),.val .int,.val .int],[.int],false,fun d=>[d.1.isSome=true,FV (U.rd (U.ro d.1)),au (U.rd (U.ro d.1)) d.2.1,au (U.rd (U.ro d.1)) d.2.2.1],fun d=>(bL (U.rd (U.ro d.1)) d.2.1 d.2.2.1,())⟩
abbrev jgh (d:Option RoD×Int×Int×Unit):=(wK ((((0:Int),[],[],()),[],[],(0:Int),(0:Int),[],()),[],[],[],()) d.1)
abbrev jgC (d:Option RoD×Int×Int×Unit):=(nth (jgh d).1.2.2.1 d.2.1.toNat)
abbrev jgO (d:Option RoD×Int×Int×Unit):=(nth (jgh d).1.2.2.1 d.2.2.1.toNat)
def uL:Prop:=∀(d:Option RoD×Int×Int×Unit),d.1.isSome=true->FV (U.rd (U.ro d.1))->au (U.rd (U.ro d.1)) d.2.1->au (U.rd (U.ro d.1)) d.2.2.1->d.1.isSome=true/\0<=d.2.1/\d.2.1<(↑(jgh d).1.2.2.1.length:Int)/\d.1.isSome=true/\0<=d.2.2.1/\d.2.2.1<(↑(jgh d).1.2.2.1.length:Int)/\wn ((jgO d).2.2.1-(jgC d).2.2.2.1)/\d.1.isSome=true/\wn ((jgO d).2.2.1-(jgC d).2.2.2.1-(jgh d).1.2.2.2.1)/\d.1.isSome=true/\(0:Int)<=(jgC d).2.1/\(jgC d).2.1<(↑(jgh d).1.2.1.length:Int)/\(0:Int)<=(jgO d).2.1/\(jgO d).2.1<(↑(nth (jgh d).1.2.1 (jgC d).2.1.toNat).length:Int)/\wn ((jgO d).2.2.1-(jgC d).2.2.2.1-(jgh d).1.2.2.2.1-(nth (nth (jgh d).1.2.1 (jgC d).2.1.toNat) (jgO d).2.1.toNat).2.1)/\((jgO d).2.2.1-(jgC d).2.2.2.1-(jgh d).1.2.2.2.1-(nth (nth (jgh d).1.2.1 (jgC d).2.1.toNat) (jgO d).2.1.toNat).2.1,())=(bL (U.rd (U.ro d.1)) d.2.1 d.2.2.1,())
def qW:wS:=⟨[.val .int,.val .int,.ref (.ptr tRo)],[.int],false,fun d=>[d.2.2.1.isSome=true,au (U.rd (U.ro d.2.2.1)) d.1,au (U.rd (U.ro d.2.2.1)) d.2.1],fun d=>(tS (U.rd (U.ro d.2.2.1)) d.1 d.2.1,())⟩
abbrev jix (d:Int×Int×Option RoD×Unit):=(wK ((((0:Int),[],[],()),[],[],(0:Int),(0:Int),[],()),[],[],[],()) d.2.2.1)
def ou:Prop:=∀(d:Int×Int×Option RoD×Unit),d.2.2.1.isSome=true->au (U.rd (U.ro d.2.2.1)) d.1->au (U.rd (U.ro d.2.2.1)) d.2.1->d.2.2.1.isSome=true/\0<=d.1/\d.1<(↑(jix d).1.2.2.1.length:Int)/\d.2.2.1.isSome=true/\0<=d.2.1/\d.2.1<(↑(jix d).1.2.2.1.length:Int)/\(gg [dr (nth (jix d).1.2.2.1 d.1.toNat).2.2.1 (nth (jix d).1.2.2.1 d.2.1.toNat).2.2.1,dr d.1 d.2.1],())=(tS (U.rd (U.ro d.2.2.1)) d.1 d.2.1,())
def dN:wS:=⟨[.val (.ptr tRo),.val (.slice .int)],[.slice .int],false,fun d=>[d.1.isSome=true,Et (U.rd (U.ro d.1)) d.2.1],fun d=>(wy (U.rd (U.ro d.1)) d.2.1,())⟩
abbrev jjT (d:Option RoD×List Int×Unit):=(cn fun(a:Int×Int×Unit)=>(tS (U.rd (U.ro d.1)) a.1 a.2.1,()))
def dO:Prop:=∀(d:Option RoD×List Int×Unit),d.1.isSome=true->Et (U.rd (U.ro d.1)) d.2.1->(d.2.1.length<=12/\lx (fun(a:Int×Int×Unit)=>[d.1.isSome=true,au (U.rd (U.ro d.1)) a.1,au (U.rd (U.ro d.1)) a.2.1]) d.2.1/\yg (jjT d) d.2.1/\True)/\∀(r:(List Int×Unit)×Unit),r.1.1=wd (jjT d) d.2.1->r.1=(wy (U.rd (U.ro d.1)) d.2.1,())
theorem mS:(jbH (Mv 9 [(224,qW)] [] [(223,vw)] []) (fun _=>none) (hkC (Mv 9 [(224,qW)] [] [(223,vw)] []) (fun _=>none) jbL [8] [(222,20,vC)]) Tryz.f209 (qh Tryz.f209) dN)=dO:=by kernel_rfl
def uM:wS:=⟨[.val .int,.ref (.ptr tRo),.ref .int],[.bool],false,fun d=>[d.2.1.isSome=true,FV (U.rd (U.ro d.2.1)),au (U.rd (U.ro d.2.1)) d.1,au (U.rd (U.ro d.2.1)) d.2.2.1],fun d=>(decide (bL (U.rd (U.ro d.2.1)) d.2.2.1 d.1<0),())⟩
def uN:Prop:=∀(d:Int×Option RoD×Int×Unit),d.2.1.isSome=true->FV (U.rd (U.ro d.2.1))->au (U.rd (U.ro d.2.1)) d.1->au (U.rd (U.ro d.2.1)) d.2.2.1->d.2.1.isSome=true/\FV (U.rd (U.ro d.2.1))/\au (U.rd (U.ro d.2.1)) d.2.2.1/\au (U.rd (U.ro d.2.1)) d.1/\(decide (bL (U.rd (U.ro d.2.1)) d.2.2.1 d.1<0),())=(decide (bL (U.rd (U.ro d.2.1)) d.2.2.1 d.1<0),())
def Dt:wS:=⟨[.val (.ptr tRo),.val .int,.val (.slice .int)],[.bool],false,fun d=>[d.1.isSome=true,Rj (U.ro d.1),My (U.rd (U.ro d.1)) d.2.1,Et (U.rd (U.ro d.1)) d.2.2.1],fun d=>(Mg (U.ro d.1) d.2.1 d.2.2.1,())⟩
def Du:Ann:=fun r=>match r with
 |4=>some fun σ=>{X:=Nat,sl:=fun i=>[(16,.dat .int (i:Int)),(7,.dat .int (vT (U.rd (U.ro (gd (.ptr tRo) σ 0))) (gd (.slice .int) σ 14) i))],ob:=fun _=>[],inv:=fun i=>i<=(gd (.slice .int) σ 14).length/\∀b:Nat,b<i->Jb (U.rd (U.ro (gd (.ptr tRo) σ 0))) (nq (U.ro (gd (.ptr tRo) σ 0))) (gd .int σ 1) (gd (.slice .int) σ 14) b=true,mu:=fun i=>(gd (.slice .int) σ 14).length-i}
 |_=>none
abbrev jg8 (d:Option RoD×Int×List Int×Unit):=(wK ((((0:Int),[],[],()),[],[],(0:Int),(0:Int),[],()),[],[],[],()) d.1)
abbrev jfW (d:Option RoD×Int×List Int×Unit):=(U.rd (U.ro d.1))
abbrev jfH (d:Option RoD×Int×List Int×Unit):=(wy (jfW d) d.2.2.1)
abbrev jhs (d:Option RoD×Int×List Int×Unit)(x:Nat):=(fZ (nth (jg8 d).2.1 (nth (jfH d) (x:Int).toNat).toNat/(2:Int)^d.2.1.toNat) (1:Int)=0)
abbrev jjh (d:Option RoD×Int×List Int×Unit)(x:Nat):=((nth (jg8 d).1.2.2.1 (nth (jfH d) (x:Int).toNat).toNat).2.2.2.1-(nth (jg8 d).1.2.2.1 (nth (jfH d) (x:Int).toNat).toNat).2.2.1)
abbrev jgP (d:Option RoD×Int×List Int×Unit):=(↑(jfH d).length:Int)
abbrev jjU (d:Option RoD×Int×List Int×Unit)(x:Nat):=(decide (jhs d x)||(List.take ((jgP d).toNat-((x:Int)+1).toNat) (List.drop ((x:Int)+1).toNat (jfH d))).any (wc fun(a:Int×Unit)=>(decide (bL (jfW d) (nth (jfH d) (x:Int).toNat) a.1<0),())))
def Dv:Prop:=∀(d:Option RoD×Int×List Int×Unit),d.1.isSome=true->Rj (U.ro d.1)->My (jfW d) d.2.1->Et (jfW d) d.2.2.1->d.1.isSome=true/\Et (jfW d) d.2.2.1/\((jfH d).length<4611686018427387904->(∃(x:Nat),((0=(x:Int)/\0=vT (jfW d) (jfH d) x/\True)/\True)/\x<=(jfH d).length/\∀(b:Nat),b<x->Jb (jfW d) (nq (U.ro d.1)) d.2.1 (jfH d) b=true)/\∀(x:Nat),(x<=(jfH d).length/\∀(b:Nat),b<x->Jb (jfW d) (nq (U.ro d.1)) d.2.1 (jfH d) b=true)->(decide ((x:Int)<(jgP d))=true->0<=(x:Int)/\(x:Int)<(jgP d)/\d.1.isSome=true/\0<=nth (jfH d) (x:Int).toNat/\nth (jfH d) (x:Int).toNat<(↑(jg8 d).1.2.2.1.length:Int)/\d.1.isSome=true/\0<=nth (jfH d) (x:Int).toNat/\nth (jfH d) (x:Int).toNat<(↑(jg8 d).1.2.2.1.length:Int)/\wn (jjh d x)/\wn (vT (jfW d) (jfH d) x+(jjh d x))/\d.1.isSome=true/\0<=nth (jfH d) (x:Int).toNat/\nth (jfH d) (x:Int).toNat<(↑(jg8 d).2.1.length:Int)/\0<=d.2.1/\d.2.1<=64/\((!decide (jhs d x))=true->wn ((x:Int)+1))/\((!decide (jhs d x))=true->0<=(x:Int)+1)/\((!decide (jhs d x))=true->(x:Int)+1<=(jgP d))/\((!decide (jhs d x))=true->(jgP d)<=(jgP d))/\((!decide (jhs d x))=true->∀(g:Int),g∈List.take ((jgP d).toNat-((x:Int)+1).toNat) (List.drop ((x:Int)+1).toNat (jfH d))->wz [d.1.isSome=true,FV (jfW d),au (jfW d) g,au (jfW d) (nth (jfH d) (x:Int).toNat)])/\((jjU d x)=true->(false,())=(Mg (U.ro d.1) d.2.1 d.2.2.1,()))/\((jjU d x)=false->wn ((x:Int)+1)/\∃(a:Nat),(((x:Int)+1=(a:Int)/\vT (jfW d) (jfH d) x+(jjh d x)=vT (jfW d) (jfH d) a/\True)/\True)/\(a<=(jfH d).length/\∀(b:Nat),b<a->Jb (jfW d) (nq (U.ro d.1)) d.2.1 (jfH d) b=true)/\(jfH d).length-a<(jfH d).length-x))/\(decide ((x:Int)<(jgP d))=false->d.1.isSome=true/\(decide (vT (jfW d) (jfH d) x<=(jg8 d).1.q4.1),())=(Mg (U.ro d.1) d.2.1 d.2.2.1,())))
def Aw:wS:=⟨[.val (.ptr tRo),.val .int],[.int],false,fun d=>[d.1.isSome=true,(bO (U.ro d.1)).length<=60],fun d=>(eB (bO (U.ro d.1)) d.2.1,())⟩
def Ax:Ann:=fun r=>match r with
 |2=>some fun σ=>{X:=Nat,sl:=fun i=>[(12,.dat .int (i:Int)),(4,.dat .int (bi (bO (U.ro (gd (.ptr tRo) σ 0))) (gd .int σ 1) i))],ob:=fun _=>[],inv:=fun i=>i<=(bO (U.ro (gd (.ptr tRo) σ 0))).length,mu:=fun i=>(bO (U.ro (gd (.ptr tRo) σ 0))).length-i}
 |_=>none
abbrev jht (d:Option RoD×Int×Unit):=(wK ((((0:Int),[],[],()),[],[],(0:Int),(0:Int),[],()),[],[],[],()) d.1)
abbrev jfX (d:Option RoD×Int×Unit):=(bO (U.ro d.1))
def Ay:Prop:=∀(d:Option RoD×Int×Unit),d.1.isSome=true->(jfX d).length<=60->d.1.isSome=true/\((jht d).2.2.1.length<4611686018427387904->(∃(x:Nat),((0=(x:Int)/\0=bi (jfX d) d.2.1 x/\True)/\True)/\x<=(jfX d).length)/\∀(x:Nat),x<=(jfX d).length->(decide ((x:Int)<(jht d).2.2.1.length)=true->0<=(x:Int)/\(x:Int)<(jht d).2.2.1.length/\(((nth (jht d).2.2.1 (x:Int).toNat).any fun(b:Int)=>decide (b=d.2.1))=true->0<=(x:Int)/\(x:Int)<=64/\wn ((1:Int)*2^(x:Int).toNat)/\wn ((x:Int)+1)/\∃(a:Nat),(((x:Int)+1=(a:Int)/\bor (bi (jfX d) d.2.1 x) ((1:Int)*2^(x:Int).toNat)=bi (jfX d) d.2.1 a/\True)/\True)/\a<=(jfX d).length/\(jfX d).length-a<(jfX d).length-x)/\(((nth (jht d).2.2.1 (x:Int).toNat).any fun(b:Int)=>decide (b=d.2.1))=false->wn ((x:Int)+1)/\∃(a:Nat),((bi (jfX d) d.2.1 x=bi (jfX d) d.2.1 a/\(x:Int)+1=(a:Int)/\True)/\True)/\a<=(jfX d).length/\(jfX d).length-a<(jfX d).length-x))/\(decide ((x:Int)<(jht d).2.2.1.length)=false->(bi (jfX d) d.2.1 x,())=(eB (jfX d) d.2.1,())))
def Az:wS:=⟨[.val (.ptr tRo),.val .int,.val .int],[.bool],false,fun d=>[d.1.isSome=true,au (U.rd (U.ro d.1)) d.2.1],fun d=>(Eu (U.rd (U.ro d.1)) d.2.1 d.2.2.1,())⟩
abbrev jhW (d:Option RoD×Int×Int×Unit):=(wK ((((0:Int),[],[],()),[],[],(0:Int),(0:Int),[],()),[],[],[],()) d.1)
def AA:Prop:=∀(d:Option RoD×Int×Int×Unit),d.1.isSome=true->au (U.rd (U.ro d.1)) d.2.1->d.1.isSome=true/\d.1.isSome=true/\0<=d.2.1/\d.2.1<(↑(jhW d).1.2.2.1.length:Int)/\(decide (bN (jhW d).1.1 (nth (jhW d).1.2.2.1 d.2.1.toNat).1 d.2.2.1=0)&&decide (jdd (jhW d).1.1 (nth (jhW d).1.2.2.1 d.2.1.toNat).1 d.2.2.1=0)&&decide (d.2.2.1≠0),())=(Eu (U.rd (U.ro d.1)) d.2.1 d.2.2.1,())
theorem yh {d:DyD} (h:qD d=true):(wq d).length<=4/\(1<=(qa d).length/\(qa d).length<=5)/\(0<=A5 d/\A5 d<=300)/\(0<=jae d/\jae d<=1440)/\(qc d).length<=30/\
 (∀r∈qa d,cR (qa d).length r=true)/\(∀b∈wq d,nc (qa d).length b=true)/\∀s∈qc d,nf (wq d).length (wj (wt d)).length s=true:=by
 unfold qD at h;simp only[ji,jp,jU] at h;obtain⟨⟨e,f,g,i,j,k,l,m⟩,n,a,c⟩:=h;exact⟨e,⟨f,g⟩,⟨i,j⟩,⟨k,l⟩,m,n,a,c⟩
theorem jdI {d:DyD} {b:Int} (h:au d b):U.bk d b∈wq d:=by
 unfold U.bk;exact L.wi (by unfold au at h;omega)
theorem ci {d:DyD} (h:qD d=true) {b:Int} (a:au d b):(0<=Uf (U.bk d b)/\Uf (U.bk d b)<((qa d).length:Int))/\0<=wJ (U.bk d b)/\wJ (U.bk d b)<gm (U.bk d b)/\gm (U.bk d b)<=1440:=by
 have:=(yh h).2.2.2.2.2.2.1 _ (jdI a);unfold nc at this;have:=ja this;omega
theorem tg {d:DyD} (h:qD d=true) {i:Nat} (hi:i<(qa d).length):(nth (qa d) i).length=(qa d).length/\∀j,j<(qa d).length->0<=U.lo (nth (nth (qa d) i) j)/\U.lo (nth (nth (qa d) i) j)<=U.hi (nth (nth (qa d) i) j)/\U.hi (nth (nth (qa d) i) j)<=300:=by
 have:=(yh h).2.2.2.2.2.1 _ (L.wi hi);unfold cR at this;rw[ji,jp,jU] at this;refine⟨this.1,fun j b=> ?_⟩;have a:=this.2 _ (L.wi (l:=nth (qa d) i) (i:=j) (by omega));unfold tM at a;exact ja a
theorem Dw {d:DyD} (h:qD d=true) {a b:Int} (c:au d a) (e:au d b):0<=PN d a b/\PN d a b<=300:=by
 have f:=(ci h c).1;have g:=(ci h e).1;have:=(tg h (i:=(Uf (U.bk d a)).toNat) (by omega)).2 (Uf (U.bk d b)).toNat (by omega);unfold PN;omega
theorem AB:uL:=by
 unfold uL jgO jgC jgh;rintro⟨(_|r),a,b,⟨⟩⟩ h c d e;cases h;obtain⟨c1,c2,c⟩:FV (U.rd r):=c;have d:au (U.rd r) a:=d;have e:au (U.rd r) b:=e;have g:=ci c d;have j:=ci c e;have k:=Dw c d e;have l:=(yh c).2.2.1;have m:=(tg c (i:=(Uf (U.bk (U.rd r) a)).toNat) (by omega)).1;have f:(0<=a/\a<((wq (U.rd r)).length:Int))/\0<=b/\b<((wq (U.rd r)).length:Int):=⟨d,e⟩;refine⟨rfl,f.1.1,f.1.2,rfl,f.2.1,f.2.2,?_,rfl,?_,rfl,g.1.1,g.1.2,j.1.1,?_,?_,rfl⟩;show wn (wJ (U.bk (U.rd r) b)-gm (U.bk (U.rd r) a));exact iZ6;show wn (wJ (U.bk (U.rd r) b)-gm (U.bk (U.rd r) a)-A5 (U.rd r));exact iZ6;show Uf (U.bk (U.rd r) b)<((nth (qa (U.rd r)) (Uf (U.bk (U.rd r) a)).toNat).length:Int);omega;show wn (wJ (U.bk (U.rd r) b)-gm (U.bk (U.rd r) a)-A5 (U.rd r)-PN (U.rd r) a b);exact iZ6
theorem uO:wZ PR 211 uK:=wL AB Tryz.func211 kcN koN
theorem p8:ou:=by
 unfold ou jix;rintro⟨a,b,(_|r),⟨⟩⟩ e c d;cases e;have c:au (U.rd r) a:=c;have d:au (U.rd r) b:=d;exact⟨rfl,c.1,c.2,rfl,d.1,d.2,rfl⟩
theorem ow:wZ PR 224 qW:=wL p8 Tryz.func224 (kcC y8 (kcC cg kcN)) koN
theorem jb3 (d:DyD):iJ (tS d):=by
 have e:tS d=Ur (fun a b=>dr (wJ (U.bk d a)) (wJ (U.bk d b))) dr:=by
  funext a b;unfold tS;rw[qB,yk];rfl
 rw[e];exact pS (oQ mH (fun a=>wJ (U.bk d a))) mH
theorem Wj {d:DyD} {a b:Int} (h:tS d a b=0):a=b:=by
 unfold tS at h;rw[qB] at h
 split at h
 contradiction;rw[yk] at h;exact bn.1 h
theorem Wk (d:DyD) (a b:Int):decide (tS d a b<0)=aq d a b:=by
 unfold tS aq;rw[qB,yk];refine decide_eq_decide.2 ?_;by_cases c:wJ (U.bk d a)<wJ (U.bk d b);have e:dr (wJ (U.bk d a)) (wJ (U.bk d b))= -1:=(by unfold dr;rw[je c]);rw[e];simp;omega;by_cases f:wJ (U.bk d b)<wJ (U.bk d a);have e:dr (wJ (U.bk d a)) (wJ (U.bk d b))=1:=(by unfold dr;rw[jd c,je f]);rw[e];simp;omega;have e:dr (wJ (U.bk d a)) (wJ (U.bk d b))=0:=(by unfold dr;rw[jd c,jd f]);rw[e];unfold dr;simp only[ne_eq,not_true_eq_false,if_false]
 split<;>(try split)<;>omega
theorem jfu (d:DyD) (l:List Int):yg (aq d) l:=by
 have:=Bq (t:= .int) (jb3 d) (l:=l) (fun _ _ _ _ h=>Wj h);have e:(we .int fun(x:Int×Int×Unit)=>(tS d x.1 x.2.1,()))=aq d:=by
  funext a b;exact Wk d a b
 rw[e] at this;exact this
theorem ltK (d:DyD):(cn fun(x:Int×Int×Unit)=>(tS d x.1 x.2.1,()))=aq d:=by
 funext a b;exact Wk d a b
theorem uP:dO:=by
 unfold dO jjT;rintro⟨(_|r),l,⟨⟩⟩ c f;cases c;obtain⟨d,b⟩:Et (U.rd r) l:=f;refine⟨⟨d,fun x g y h=>⟨rfl,b x g,b y h,tZ⟩,?_,tZ⟩,fun q a=> ?_⟩;have e:=ltK (U.rd r);show yg (cn fun(x:Int×Int×Unit)=>(tS (U.rd r) x.1 x.2.1,())) l;rw[e];exact jfu _ l;have e:=ltK (U.rd r);have a:q.1.1=wd (cn fun(x:Int×Int×Unit)=>(tS (U.rd r) x.1 x.2.1,())) l:=a;rw[e] at a;obtain⟨⟨q,⟨⟩⟩,⟨⟩⟩:=q;rw[show q=_ from a];rfl
theorem KV:(Mv 9 [(224,qW)] [] [(223,vw)] []).ok PR:=Nv ⟨fun _=>ow,tZ⟩ trivial ⟨Au,tZ⟩ trivial
theorem th:wZ PR 209 dN:=
 jdz (body:=qh Tryz.f209) (C:=Mv 9 [(224,qW)] [] [(223,vw)] []) (hk:=hkC (Mv 9 [(224,qW)] [] [(223,vw)] []) (fun _=>none) jbL [8] [(222,20,vC)]) KV mixed Tryz.func209 (by kernel_rfl) (by kernel_rfl) (by kernel_rfl) (by decide)
  (fun B=>GI KV mixed Nq (Wi mR) B) (mS.mpr uP)
theorem AC:uN:=by
 rintro⟨b,(_|r),a,⟨⟩⟩ c f e d;cases c;exact⟨rfl,f,d,e,rfl⟩
theorem uQ:wZ PR 210 uM:=wL AC Tryz.func210 (kcC uO kcN) koN
theorem p9 {d:DyD} {s:List Int} {i:Nat} (h:i<s.length):vT d s (i+1)=vT d s i+(gm (U.bk d (nth s i))-wJ (U.bk d (nth s i))):=by
 unfold vT I9;rw[L.wO h,zw,jS];rfl
theorem N4 {d:DyD} (a:qD d=true) {s:List Int} (c:∀b∈s,au d b):∀i,i<=s.length->0<=vT d s i/\vT d s i<=1440*(i:Int)
 |0,_=>⟨zH _,zH _⟩
 |i+1,hi=>by
  have f:=N4 a c i (by omega)
  have e:=ci a (c _ (L.wi (l:=s) (i:=i) (by omega)))
  rw[p9 (by omega)]
  omega
theorem N5 {d:DyD} {l:List Int} {b:Int}:b∈wy d l↔b∈l:=(qo l).mem_iff
theorem N6 (d:DyD) (l:List Int):(wy d l).length=l.length:=(qo l).length_eq
theorem Fa:Dv:=by
 unfold Dv jjU jgP jjh jhs jfH jfW jg8 Prod.q4;rintro⟨(_|r),p,l,⟨⟩⟩ D v q K;cases D;obtain⟨⟨c1,c2,u⟩,v⟩:Rj r:=v;have q:My (U.rd r) p:=q;obtain⟨z,A⟩:Et (U.rd r) l:=K;have N:=(w8 c1).2.2.1;refine⟨rfl,⟨z,A⟩,fun _=> ?_⟩;obtain⟨s,o⟩:∃s,s=wy (U.rd r) l:=⟨_,rfl⟩;have O:s.length<=12:=(by rw[o,N6];exact z);have k:∀b∈s,au (U.rd r) b:=fun b d=>A b (by rw[o] at d;exact N5.1 d)
 have t:U.ro (some r)=r:=rfl;simp only[t,<-o];refine⟨⟨0,⟨⟨rfl,rfl,tZ⟩,tZ⟩,jm _,fun b d=>by omega⟩,fun x w=>⟨fun h=> ?_,fun h=> ?_⟩⟩;have h:(x:Int)<s.length:=ja h;have a:x<s.length:=(by omega);have d:=k _ (L.wi a);have H:=ci u d;have M:=N4 u k x (by omega);have C:((x:Int)+1).toNat=x+1:=(by omega);have B:(s.drop (x+1)).take (s.length-(x+1))=s.drop (x+1):=zv (by rw[zD];omega);have I:wJ (U.bk (U.rd r) (nth s x))=(nth (wq (U.rd r)) (nth s x).toNat).2.2.1:=rfl;simp only[jw,C,B];have n:(nth s x)<((nq r).length:Int):=(by rw[v];exact d.2);have m:Jb (U.rd r) (nq r) p s x= !(decide (fZ (nth (nq r) (nth s x).toNat/2^p.toNat) 1=0)||(s.drop (x+1)).any (fun c=>decide (bL (U.rd r) (nth s x) c<0))):=rfl;have j:((s.drop (x+1)).any (wc fun(y:Int×Unit)=>(decide (bL (U.rd r) (nth s x) y.fst<0),())))=(s.drop (x+1)).any (fun c=>decide (bL (U.rd r) (nth s x) c<0)):=rfl;unfold My at q;refine⟨by omega,h,rfl,d.1,d.2,rfl,d.1,d.2,?_,?_,rfl,d.1,n,q.1,by omega,fun _=>iZ6,fun _=>by omega,fun _=>by omega,fun _=>by omega,fun _ g J=>⟨rfl,⟨c1,c2,u⟩,k g (z8 J),d,tZ⟩,fun f=> ?_,fun f=>⟨iZ6,x+1,⟨⟨by simp,(p9 a).symm,tZ⟩,tZ⟩,⟨by omega,fun b G=> ?_⟩,by omega⟩⟩;show wn (gm (U.bk (U.rd r) (nth s x))-wJ (U.bk (U.rd r) (nth s x)));exact iZ6;show wn (vT (U.rd r) s x+(gm (U.bk (U.rd r) (nth s x))-wJ (U.bk (U.rd r) (nth s x))));exact iZ6;have f:(decide (fZ (nth (nq r) (nth s x).toNat/2^p.toNat) 1=0)||((s.drop (x+1)).any (wc fun(y:Int×Unit)=>(decide (bL (U.rd r) (nth s x) y.fst<0),()))))=true:=f;have f:Jb (U.rd r) (nq r) p s x=false:=(by rw[m,<-j,f];rfl);have:Mg r p l=false:=by
  unfold Mg PO jcU;rw[<-o];have:(List.range s.length).all (Jb (U.rd r) (nq r) p s)=false:=by
   rw[zU];exact⟨x,by simpa using a,by rw[f];simp⟩
  rw[this];rfl
 rw[this];by_cases e:b=x;subst e;have f:(decide (fZ (nth (nq r) (nth s b).toNat/2^p.toNat) 1=0)||((s.drop (b+1)).any (wc fun(y:Int×Unit)=>(decide (bL (U.rd r) (nth s b) y.fst<0),()))))=false:=f;rw[m,<-j,f];rfl;exact w.2 b (by omega);have h:¬(x:Int)<s.length:=jc h;have a:x=s.length:=(by have:=w.1;omega);refine⟨rfl,?_⟩;have E:(List.range s.length).all (Jb (U.rd r) (nq r) p s)=true:=by
  rw[jU];intro i hi;exact w.2 i (by rw[a];simpa using hi)
 have F:vT (U.rd r) s x=I9 (U.rd r) s:=by
  unfold vT;rw[a,zv (jk _)]
 rw[F];have:Mg r p l=decide (I9 (U.rd r) s<=jae (U.rd r)):=by
  unfold Mg PO jcU;rw[<-o,E,Bool.true_and]
 rw[this];rfl
theorem Dx:wZ PR 182 Dt:=vl Du Fa Tryz.func182 (kcC th (kcC uQ (kcC y5 kcN))) koN
theorem Dy (on:List (List Int)) (b:Int) (n:Nat):bi on b (n+1)=if(nth on n).any (fun x=>decide (x=b))=true then bor (bi on b n) (1*2^n) else bi on b n:=by
 unfold bi;rw[zf,jS];rfl
theorem mT (n:Nat):(1:Int)*2^n=2^n:=Int.one_mul _
theorem Dz:Ay:=by
 unfold Ay jfX jht;rintro⟨(_|r),b,⟨⟩⟩ g d;cases g;have d:(bO r).length<=60:=d;have c:U.ro (some r)=r:=rfl;refine⟨rfl,fun _=>⟨⟨0,⟨⟨rfl,rfl,tZ⟩,tZ⟩,jm _⟩,fun x f=>⟨fun h=> ?_,fun h=> ?_⟩⟩⟩;have h:(x:Int)<(bO r).length:=ja h;have e:=Dy (bO r) b x;have i:BT.qd ((2:Int)^x):=BT.ld (by omega);unfold BT.qd at i;simp only[jw,c];refine⟨by omega,h,fun a=>⟨by omega,by omega,by rw[mT];exact iZ6,iZ6,x+1,⟨⟨by simp,?_,tZ⟩,tZ⟩,by omega,by omega⟩,fun a=>⟨iZ6,x+1,⟨⟨?_,by simp,tZ⟩,tZ⟩,by omega,by omega⟩⟩;rw[e];have a:((nth (bO r) x).any fun y=>decide (y=b))=true:=a;rw[je a];rw[e];have a:((nth (bO r) x).any fun y=>decide (y=b))=false:=a;rw[jd (by rw[a];simp)];have h:¬(x:Int)<(bO r).length:=jc h;have f:x<=(bO r).length:=f;rw[show x=(bO r).length by omega];rfl
theorem lq:wZ PR 106 Aw:=vl Ax Dz Tryz.func106 (kcC dL kcN) koN
theorem DA:AA:=by
 unfold AA jhW;rintro⟨(_|r),b,t,⟨⟩⟩ c a;cases c;have a:au (U.rd r) b:=a;exact⟨rfl,rfl,a.1,a.2,rfl⟩
theorem AD:wZ PR 107 Az:=wL DA Tryz.func107 (kcC NO kcN) koN
theorem rc {l:List ShD} {s:ShD}:s∈qq l↔s∈l:=by
 have e:qq l=bU (fun a b=>decide (a=b)) (wd (we tSh fun x=>(dS x.1 x.2.1,())) l):=by
  unfold qq;congr 1
 rw[e,L.comp_mem];exact(qo l).mem_iff
theorem KW (l:List ShD):(qq l).Nodup:=by
 have e:qq l=bU (fun a b=>decide (a=b)) (wd (we tSh fun x=>(dS x.1 x.2.1,())) l):=by
  unfold qq;congr 1
 rw[e];refine L.asc_nodup (lt:=we tSh fun x=>(dS x.1 x.2.1,())) (fun x=> ?_) (L.comp_asc (Zm _) (cw (Zm l)));exact(Zm [x]).irrefl x (zZ.2 rfl)
theorem jaE (l:List ShD):∀i,i<=l.length->∀k,wQ 0 (wB .int k (yY [] l i))=(((l.take i).countP (fun s=>decide (gA s=k)):Nat):Int)
 |0,_,k=>rfl
 |i+1,hi,k=>by
  have a:=jaE l i (by omega)
  rw[fE (by omega),L.wO (by omega),zL]
  unfold nV
  by_cases e:k=gA (nth l i)
  rw[e]
  rw[M.rE (kt:= .int) (gA (nth l i)) (wQ 0 (wB .int (gA (nth l i)) (yY [] l i))+1) (yY [] l i)]
  show wQ 0 (wB .int (gA (nth l i)) (yY [] l i))+1=_
  rw[a]
  simp
  rw[M.eD (kt:= .int) (k:=gA (nth l i)) (k':=k) e (wQ 0 (wB .int (gA (nth l i)) (yY [] l i))+1) (yY [] l i),a]
  have:decide (gA (nth l i)=k)=false:=zt fun h=>e h.symm
  simp[this]
theorem QL {l:List ShD} {i:Nat} (h:i<l.length):tR [] l i=(l.take i).any (fun s=>decide (gA s=gA (nth l i))):=by
 unfold tR Ri;rw[<-fE h,jaE l (i+1) (by omega),L.wO h,zL];rw[jZ,jp,za];have b:List.countP (fun s=>decide (gA s=gA (nth l i))) [nth l i]=1:=(by simp);rw[b];constructor;intro a;have:0<(l.take i).countP (fun s=>decide (gA s=gA (nth l i))):=(by omega);rw[List.countP_pos_iff] at this;exact this;intro a;have:0<(l.take i).countP (fun s=>decide (gA s=gA (nth l i))):=List.countP_pos_iff.2 a;omega
theorem jb4 (l:List ShD):Uv l=false↔(l.map gA).Nodup:=by
 have g:Uv l=false↔∀i,i<l.length->tR [] l i=false:=by
  unfold Uv;constructor;intro h i hi;cases k:tR [] l i with
  |false=>rfl
  |true=>
   exfalso;have b:(List.range l.length).findIdx? (tR [] l)≠none:=by
    intro f;rw[z7] at f;have:=f i (jG.2 hi);rw[k] at this;cases this
   unfold nj yT at h;cases d:(List.range l.length).findIdx? (tR [] l) with
   |none=>exact b d
   |some j=>
    rw[d] at h;have h:=jc h;exact h (j8 j)
  intro h;rw[(GP h).1];rfl
 rw[g,kR,ku,zI];constructor;intro h i j hi a m e;have:=h j a;rw[QL a,zi] at this;have c:=this (l[i]) (by rw[zb];exact⟨i,by omega,rfl⟩);rw[L.qI a] at c;simp[e] at c;intro h i hi;rw[QL hi,zi];intro s b;rw[zb] at b;obtain⟨j,a,rfl⟩:=b;have:=h j i (by omega) hi (by omega);rw[L.qI hi];simpa using this
theorem Wl (l:List ShD):Uv (qq l)=false↔∀a∈l,∀b∈l,gA a=gA b->a=b:=by
 rw[jb4];constructor;intro h a c b d e;exact L.nodup_inj h (rc.2 c) (rc.2 d) e;intro h;rw[kR,ku];exact(List.Pairwise.imp_of_mem (fun{a b} c d f e=>f (h a (rc.1 c) b (rc.1 d) e)) (KW l))
theorem Wm (l:List ShD):b8 l=false↔∀a∈l,∀b∈l,gA a=gA b->a=b:=by
 have k:b8 l=false↔∀i,i<l.length->∀j,j<i->Er (nth l i) (nth l j)=false:=by
  unfold b8 aC Bv;rw[zi];constructor;intro h i hi j d;have:=h i (jG.2 hi);rw[ki,zi] at this;have:=this (nth l j) (by rw[zb];exact⟨j,by omega,(L.qI (by omega)).symm⟩);simpa using this;intro h i hi;have hi:=jG.1 hi;rw[ki,zi];intro s g;rw[zb] at g;obtain⟨j,d,rfl⟩:=g;have:=h i hi j (by omega);rw[L.qI (l:=l) (i:=j) (by omega)] at this;simpa using this
 rw[k];have f:∀a b:ShD,Er a b=false↔(gA a=gA b->a=b):=by
  intro a b;unfold Er;rw[km];simp only[jH,ze,jp];constructor;rintro(h|h) e;exact absurd e h;exact h;intro h;by_cases e:gA a=gA b;exact .inr (h e);exact .inl e
 constructor;intro h a m b n e;obtain⟨i,hi,rfl⟩:=L.mem_iff.1 m;obtain⟨j,d,rfl⟩:=L.mem_iff.1 n;rcases Nat.lt_trichotomy i j with c|rfl|c;exact((f _ _).1 (h j d i c) e.symm).symm;rfl;exact(f _ _).1 (h i hi j c) e;intro h i hi j d;exact(f _ _).2 (h _ (L.wi hi) _ (L.wi (by omega)))
theorem Wn (l:List ShD):Uv (qq l)=b8 l:=by
 have:=(Wl l).trans (Wm l).symm;cases a:Uv (qq l) with
 |false=>exact(this.1 a).symm
 |true=>
  cases b:b8 l with
  |false=>rw[this.2 b] at a;cases a
  |true=>rfl
theorem fL (d:DyD):qg d=gN d:=by
 unfold qg xi gN;rw[Wn]
 split
 rfl
 split
 rfl;rw[jd (by simp)]
abbrev tSt:Ty:= .st [.int,.int]
abbrev jew:Sh:= .box 168 [.dat .int,.dat (.slice tPe),.dat (.slice tLw),.dat (.slice (.slice tSp)),.dat (.slice tBk),.dat .int,.dat .int,.dat (.slice tSh),.row 3 .int .yes,.row 31 (.slice .int) .no,.row 3 .int .unk]
namespace U
def noI:List Int:=[]
def yK (b:jew.D):RoD:=(((b.1,b.2.1,b.2.2.1,()),b.2.2.2.1,b.2.2.2.2.1,b.2.2.2.2.2.1,b.2.2.2.2.2.2.1,b.2.2.2.2.2.2.2.1,()),b.2.2.2.2.2.2.2.2.1,b.2.2.2.2.2.2.2.2.2.1,b.2.2.2.2.2.2.2.2.2.2.1,())
def A6 (b:jew.D) (x:List (List Int)×List Int):jew.D:=(b.1,b.2.1,b.2.2.1,b.2.2.2.1,b.2.2.2.2.1,b.2.2.2.2.2.1,b.2.2.2.2.2.2.1,b.2.2.2.2.2.2.2.1,b.2.2.2.2.2.2.2.2.1,x.1,x.2,())
def fU (s:ShD):Int×Int×Unit:=(lV s,ar s,())
def vk (l:List ShD) (n:Nat):List ((Int×Int×Unit)×ShD):=(l.take n).foldl (fun m s=>fY tSt (fU s) s m) []
def yC (m:List ((Int×Int×Unit)×ShD)) (s:ShD):Bool:= !(!decide (wQ (Ty.dflt tSh) (wB tSt (fU s) m)=s)|| !decide (X1 s=1))
def Mh (d:DyD) (dR:List Int) (m:List ((Int×Int×Unit)×ShD)) (x:List (List Int)×List Int) (s:ShD):List (List Int)×List Int:=
 if yC m s=true then(if PO d dR (ar s) (nth x.1 (ar s).toNat++[lV s])=true then(x.1.set (ar s).toNat (nth x.1 (ar s).toNat++[lV s]),x.2) else(x.1,x.2++[gA s])) else x
def jfy (l:List ShD):List ShD:=wd (we tSh fun x=>(wA x.1 x.2.1,())) l
def vz (d:DyD):List ShD:=jfy (qq (qc d))
def yG (r:RoD) (l:List ShD) (n:Nat):List (List Int)×List Int:=(l.take n).foldl (Mh (rd r) (nq r) (vk l l.length)) (bO r,je3 r)
def bV (r:RoD):List (List Int)×List Int:=((yG r (vz (rd r)) (vz (rd r)).length).1,Ep (yG r (vz (rd r)) (vz (rd r)).length).2)
def jcV (l:List (List Int)):Prop:=∀x∈l,x=noI
def jaf (r:RoD):Prop:=(qg (rd r)=0/\(nq r).length=(wq (rd r)).length)/\((bO r).length=(wj (wt (rd r))).length/\jcV (bO r))/\je3 r=noI
def dT (r:RoD) (l:List ShD) (n:Nat) (x:List (List Int)×List Int):Prop:=x.1.length=(wj (wt (rd r))).length/\x.2.length<=n/\∀p:Nat,(nth x.1 p).Nodup/\∀b∈nth x.1 p,au (rd r) b/\∃i:Nat,i<n/\fU (nth l i)=(b,(p:Int),())/\wQ (Ty.dflt tSh) (wB tSt (fU (nth l i)) (vk l l.length))=nth l i
end U
def bx (σ:St) (o:Nat):List SV:=match σ.obj o with|some (.box _ _ cs)=>cs|_=>[]
def gb (t:Ty) (σ:St) (o:Nat):t.Data:=match y6 σ t (bx σ o) with|some (x,_)=>x|none=>t.dflt
abbrev Fb:vi:=VO 3
def uR:vi:=⟨[.own jew true],[],fun d=>[jaf (yK d.1)],fun d=>((),(A6 d.1 (bV (yK d.1)),()))⟩
def uS:Ann:=fun r=>match r with
 |4=>some fun σ=>{X:=Nat,sl:=fun i=>[(20,.dat .int (i:Int))],ob:=fun i=>[(9,some (.map false tSt tSh (vk (gr tSh σ 3) i)))],inv:=fun i=>i<=(gr tSh σ 3).length,mu:=fun i=>(gr tSh σ 3).length-i}
 |9=>some fun σ=>{X:=Nat,sl:=fun i=>[(34,.dat .int (i:Int))],ob:=fun i=>[(400009,some (.row 31 (.slice .int) false .no (yG (gb tRo σ 1000000) (gr tSh σ 3) i).1)),(400010,some (.row 3 .int false .unk (yG (gb tRo σ 1000000) (gr tSh σ 3) i).2))],inv:=fun i=>i<=(gr tSh σ 3).length/\dT (gb tRo σ 1000000) (gr tSh σ 3) i (yG (gb tRo σ 1000000) (gr tSh σ 3) i),mu:=fun i=>(gr tSh σ 3).length-i}
 |_=>none
abbrev jfP (d:(Int×List PeD×List LwD×List (List (Int×Int×Unit))×List BkD×Int×Int×List ShD×List Int×List (List Int)×List Int×Unit)×Unit):=(((d.1.1,d.1.2.1,d.1.2.2.1,()),d.1.2.2.2.1,d.1.q4.1,d.1.q4.2.1,d.1.q4.2.2.1,d.1.q4.2.2.2.1,()),d.1.q4.q4)
abbrev jiy:=(Ty.int.pair (Ty.int.pair Ty.unit))
abbrev jjV:=(we (Ty.int.pair (Ty.int.pair (Ty.int.pair jiy))) fun(a:ShD×ShD×Unit)=>(wA a.1 a.2.1,()))
abbrev jfA (d:(Int×List PeD×List LwD×List (List (Int×Int×Unit))×List BkD×Int×Int×List ShD×List Int×List (List Int)×List Int×Unit)×Unit):=(wd jjV (qq d.1.q4.2.2.2.1))
abbrev jfE (d:(Int×List PeD×List LwD×List (List (Int×Int×Unit))×List BkD×Int×Int×List ShD×List Int×List (List Int)×List Int×Unit)×Unit)(a:Nat):=(nth (jfA d) (a:Int).toNat)
abbrev jfI (d:(Int×List PeD×List LwD×List (List (Int×Int×Unit))×List BkD×Int×Int×List ShD×List Int×List (List Int)×List Int×Unit)×Unit)(a:Nat):=(yG (jfP d) (jfA d) a)
abbrev jhu (d:(Int×List PeD×List LwD×List (List (Int×Int×Unit))×List BkD×Int×Int×List ShD×List Int×List (List Int)×List Int×Unit)×Unit)(a:Nat):=(some (((d.1.1,d.1.2.1,d.1.2.2.1,()),d.1.2.2.2.1,d.1.q4.1,d.1.q4.2.1,d.1.q4.2.2.1,d.1.q4.2.2.2.1,()),d.1.q4.q4.1,(jfI d a).1,(jfI d a).2,()))
abbrev jjW:=((0:Int),(0:Int),(0:Int),(0:Int),(0:Int),())
def uT:Prop:=∀(d:(Int×List PeD×List LwD×List (List (Int×Int×Unit))×List BkD×Int×Int×List ShD×List Int×List (List Int)×List Int×Unit)×Unit),jaf (yK d.1)->d.1.q4.2.2.2.1.length<=100000/\(∀(c:ShD),c∈qq d.1.q4.2.2.2.1->∀(y:ShD),y∈qq d.1.q4.2.2.2.1->wz [])/\yg jjV (qq d.1.q4.2.2.2.1)/\((jfA d).length<4611686018427387904->(∃(x:Nat),((0=(x:Int)/\True)/\[]=vk (jfA d) x/\True)/\x<=(jfA d).length)/\∀(x:Nat),x<=(jfA d).length->(decide ((x:Int)<(jfA d).length)=true->0<=(x:Int)/\(x:Int)<(jfA d).length/\wn ((x:Int)+1)/\∃(b:Nat),(((x:Int)+1=(b:Int)/\True)/\fY jiy (nth (jfA d) (x:Int).toNat).2.2.2 (nth (jfA d) (x:Int).toNat) (vk (jfA d) x)=vk (jfA d) b/\True)/\b<=(jfA d).length/\(jfA d).length-b<(jfA d).length-x)/\(decide ((x:Int)<(jfA d).length)=false->(jfA d).length<4611686018427387904->(∃(x:Nat),((0=(x:Int)/\True)/\d.1.q4.q4.2.1=(yG (jfP d) (jfA d) x).1/\d.1.q4.q4.2.2.1=(yG (jfP d) (jfA d) x).2/\True)/\x<=(jfA d).length/\dT (jfP d) (jfA d) x (yG (jfP d) (jfA d) x))/\∀(a:Nat),a<=(jfA d).length/\dT (jfP d) (jfA d) a (jfI d a)->(decide ((a:Int)<(jfA d).length)=true->0<=(a:Int)/\(a:Int)<(jfA d).length/\((!decide (wQ jjW (wB jiy (jfE d a).2.2.2 (vk (jfA d) x))=nth (jfA d) (a:Int).toNat)||decide ((jfE d a).2.2.1≠1))=true->wn ((a:Int)+1)/\∃(b:Nat),(((a:Int)+1=(b:Int)/\True)/\(jfI d a).2=(yG (jfP d) (jfA d) b).2/\(jfI d a).1=(yG (jfP d) (jfA d) b).1/\True)/\(b<=(jfA d).length/\dT (jfP d) (jfA d) b (yG (jfP d) (jfA d) b))/\(jfA d).length-b<(jfA d).length-a)/\((!decide (wQ jjW (wB jiy (jfE d a).2.2.2 (vk (jfA d) x))=nth (jfA d) (a:Int).toNat)||decide ((jfE d a).2.2.1≠1))=false->(0:Int)<=(jfE d a).q4.1/\(jfE d a).q4.1<(↑(jfI d a).1.length:Int)/\(0:Int)<=(jfE d a).q4.1/\(jfE d a).q4.1<(↑(jfI d a).1.length:Int)/\(0:Int)<=(jfE d a).q4.1/\(jfE d a).q4.1<(↑(jfI d a).1.length:Int)/\(↑(nth (jfI d a).1 (jfE d a).q4.1.toNat).length:Int)=(nth (jfI d a).1 (jfE d a).q4.1.toNat).length/\(↑(nth (jfI d a).1 (jfE d a).q4.1.toNat).length:Int)=(nth (jfI d a).1 (jfE d a).q4.1.toNat).length/\((nth (jfI d a).1 (jfE d a).q4.1.toNat).length+[(jfE d a).2.2.2.1].length)*8<=140737488355328/\(jhu d a).isSome=true/\Rj (U.ro (jhu d a))/\My (U.rd (U.ro (jhu d a))) (jfE d a).q4.1/\Et (U.rd (U.ro (jhu d a))) (nth (jfI d a).1 (jfE d a).q4.1.toNat++[(jfE d a).2.2.2.1])/\(Mg (U.ro (jhu d a)) (jfE d a).q4.1 (nth (jfI d a).1 (jfE d a).q4.1.toNat++[(jfE d a).2.2.2.1])=true->(0:Int)<=(jfE d a).q4.1/\(jfE d a).q4.1<(↑(jfI d a).1.length:Int)/\wn ((a:Int)+1)/\∃(b:Nat),(((a:Int)+1=(b:Int)/\True)/\(jfI d a).2=(yG (jfP d) (jfA d) b).2/\(jfI d a).1.set (jfE d a).q4.1.toNat (nth (jfI d a).1 (jfE d a).q4.1.toNat++[(jfE d a).2.2.2.1])=(yG (jfP d) (jfA d) b).1/\True)/\(b<=(jfA d).length/\dT (jfP d) (jfA d) b (yG (jfP d) (jfA d) b))/\(jfA d).length-b<(jfA d).length-a)/\(Mg (U.ro (jhu d a)) (jfE d a).q4.1 (nth (jfI d a).1 (jfE d a).q4.1.toNat++[(jfE d a).2.2.2.1])=false->((jfI d a).2.length+[(jfE d a).1].length)*8<=140737488355328/\wn ((a:Int)+1)/\∃(b:Nat),(((a:Int)+1=(b:Int)/\True)/\(jfI d a).1=(yG (jfP d) (jfA d) b).1/\(d.1.1=d.1.1/\d.1.2.1=d.1.2.1/\d.1.2.2.1=d.1.2.2.1/\d.1.2.2.2.1=d.1.2.2.2.1/\d.1.q4.1=d.1.q4.1/\d.1.q4.2.1=d.1.q4.2.1/\d.1.q4.2.2.1=d.1.q4.2.2.1/\d.1.q4.2.2.2.1=d.1.q4.2.2.2.1/\True/\True/\True/\True)/\(jfI d a).2++[(jfE d a).1]=(yG (jfP d) (jfA d) b).2/\True)/\(b<=(jfA d).length/\dT (jfP d) (jfA d) b (yG (jfP d) (jfA d) b))/\(jfA d).length-b<(jfA d).length-a)))/\(decide ((a:Int)<(jfA d).length)=false->()=()/\((d.1.1,d.1.2.1,d.1.2.2.1,d.1.2.2.2.1,d.1.q4.1,d.1.q4.2.1,d.1.q4.2.2.1,d.1.q4.2.2.2.1,d.1.q4.q4.1,(jfI d a).1,Ep (jfI d a).2,()),())=(A6 d.1 (bV (yK d.1)),()))))
theorem gK {d:DyD} (h:qg d=0):FV d/\∀a∈qc d,∀b∈qc d,gA a=gA b->a=b:=by
 unfold qg xi at h;cases c:wu (wt d) with
 |false=>rw[c] at h;simp at h
 |true=>
  cases e:I8 d with
  |false=>rw[c,e] at h;simp at h
  |true=>
   cases f:qD d with
   |false=>rw[c,e,f] at h;simp at h
   |true=>
    cases g:Uv (qq (qc d)) with
    |true=>rw[c,e,f,g] at h;simp at h
    |false=>exact⟨⟨c,e,f⟩,(Wl _).1 g⟩
theorem jb5:iJ wA:=by
 have e:wA=Ur (fun a b=>dr (EG a) (EG b)) (fun a b=>dr (gA a) (gA b)):=by
  funext a b;unfold wA;rw[qB,yk];rfl
 rw[e];exact pS (oQ mH EG) (oQ mH gA)
theorem Wo {a b:ShD} (h:wA a b=0):gA a=gA b:=by
 unfold wA at h;rw[qB,yk] at h
 split at h
 contradiction;exact bn.1 h
theorem jfe {d:DyD} (h:qg d=0):yg (we tSh fun x=>(wA x.1 x.2.1,())) (qq (qc d)):=
 Bq jb5 (fun a b e f c=>(gK h).2 a (rc.1 e) b (rc.1 f) (Wo c))
theorem iW {d:DyD} {s:ShD}:s∈vz d↔s∈qc d:=((qo _).mem_iff).trans rc
theorem fM (d:DyD):(vz d).Nodup:=(qo _).nodup_iff.2 (KW _)
theorem jb6 (d:DyD):(vz d).length<=(qc d).length:=by
 unfold vz jfy;rw[(qo _).length_eq];exact We _
theorem nM {d:DyD} (h:qD d=true) {s:ShD} (a:s∈qc d):(0<=ar s/\ar s<((wj (wt d)).length:Int))/\au d (lV s):=by
 have:=(yh h).2.2.2.2.2.2.2 _ a;unfold nf at this;have:=ja this;unfold au;omega
theorem DB {l:List ShD} {i:Nat} (h:i<l.length):vk l (i+1)=fY tSt (fU (nth l i)) (nth l i) (vk l i):=by
 unfold vk;rw[L.wO h,jS];rfl
theorem tn {r:RoD} {l:List ShD} {i:Nat} (h:i<l.length):yG r l (i+1)=Mh (U.rd r) (nq r) (vk l l.length) (yG r l i) (nth l i):=by
 unfold yG;rw[L.wO h,jS];rfl
theorem jeP {d:DyD} {l:List Int} (c:l.Nodup) (a:∀b∈l,au d b):l.length<=(wq d).length:=by
 have:=L.nodup_len l ((List.range (wq d).length).map (fun(b:Nat)=>(b:Int))) c (fun x e=>by
  have:=a x e;unfold au at this;exact j6.2 ⟨x.toNat,jG.2 (by omega),by omega⟩)
 simpa using this
section
variable {r:RoD} {l:List ShD} {i:Nat}
theorem Wp (t:qD (U.rd r)=true) (u:∀s∈l,s∈qc (U.rd r)) (nd:l.Nodup) (h:i<l.length) {x:List (List Int)×List Int} (w:dT (U.rd r,nq r,bO r,je3 r,()) l i x)
 (g:yC (vk l l.length) (nth l i)=true):(nth x.1 (ar (nth l i)).toNat++[lV (nth l i)]).Nodup/\(∀b∈nth x.1 (ar (nth l i)).toNat++[lV (nth l i)],au (U.rd r) b)/\
  ∀b∈nth x.1 (ar (nth l i)).toNat++[lV (nth l i)],∃j:Nat,j<i+1/\fU (nth l j)=(b,((ar (nth l i)).toNat:Int),())/\wQ (Ty.dflt tSh) (wB tSt (fU (nth l j)) (vk l l.length))=nth l j:=by
 obtain⟨z,A,p⟩:=w;have v:=nM t (u _ (L.wi h));have d:wQ (Ty.dflt tSh) (wB tSt (fU (nth l i)) (vk l l.length))=nth l i:=by
  unfold yC at g;simp only[jN,jR,ze,jp] at g;exact g.1
 have n:((ar (nth l i)).toNat:Int)=ar (nth l i):=(by omega);obtain⟨y,k⟩:=p (ar (nth l i)).toNat;refine⟨?_,fun b c=> ?_,fun b c=> ?_⟩;refine zG.2 ⟨y,by simp,fun a q b c e=> ?_⟩;simp at c;subst c;subst e;obtain⟨_,j,m,f,e2⟩:=k _ q;rw[n] at f;have o:fU (nth l j)=fU (nth l i):=f;rw[o,d] at e2;have:=(kR.1 nd);rw[zI] at this;refine this j i (by omega) h m ?_;rw[<-L.qI,<-L.qI h];exact e2.symm;rcases jr.1 c with c|c;exact(k b c).1;simp at c;subst c;exact v.2;rcases jr.1 c with c|c;obtain⟨_,j,m,f,e2⟩:=k b c;exact⟨j,by omega,f,e2⟩;simp at c;subst c;exact⟨i,by omega,by rw[n];rfl,d⟩
theorem Wq {r:RoD} {x:List (List Int)×List Int} (a:dT r l i x):dT r l (i+1) x:=
 ⟨a.1,by have:=a.2.1;omega,fun p=>⟨(a.2.2 p).1,fun b c=>⟨((a.2.2 p).2 b c).1,by
  obtain⟨j,d,e⟩:=((a.2.2 p).2 b c).2
  exact⟨j,by omega,e⟩⟩⟩⟩
theorem jaF (g:qD (U.rd r)=true) (j:∀s∈l,s∈qc (U.rd r)) (nd:l.Nodup) (h:i<l.length) {x:List (List Int)×List Int} (a:dT r l i x):
 dT r l (i+1) (Mh (U.rd r) (nq r) (vk l l.length) x (nth l i)):=by
 unfold Mh;cases k:yC (vk l l.length) (nth l i) with
 |false=>rw[jd (by simp)];exact Wq a
 |true=>
  rw[je rfl];have d:=Wp g j nd h a k;have m:=nM g (j _ (L.wi h))
  split
  refine⟨by show(x.1.set _ _).length=_;rw[kg];exact a.1,by have:=a.2.1;show x.2.length<=_;omega,fun p=> ?_⟩;have c:(ar (nth l i)).toNat<x.1.length:=(by rw[a.1];omega);show(nth (x.1.set (ar (nth l i)).toNat (nth x.1 (ar (nth l i)).toNat++[lV (nth l i)])) p).Nodup/\_;rw[L.br c]
  split
  rename_i e;subst e;exact⟨d.1,fun b f=>⟨d.2.1 b f,d.2.2 b f⟩⟩;exact(Wq a).2.2 p;refine⟨a.1,?_,(Wq a).2.2⟩;have:=a.2.1;show(x.2++[gA (nth l i)]).length<=_;rw[jL];simp;omega
end
theorem QM {l:List (List Int)} (h:jcV l) (p:Nat):nth l p=[]:=by
 by_cases a:p<l.length;exact h _ (L.wi a);unfold nth;rw[zc,List.getElem?_eq_none (by omega)];rfl
theorem Wr {r:RoD} {l:List ShD} (a:(bO r).length=(wj (wt (U.rd r))).length) (c:jcV (bO r)) (d:je3 r=U.noI):dT r l 0 (yG r l 0):=by
 refine⟨a,?_,fun p=> ?_⟩;show(je3 r).length<=0;rw[d];exact jk 0;have e:nth (yG r l 0).1 p=[]:=QM c p;rw[e];exact⟨kZ,fun b f=>by cases f⟩
theorem jdJ (m:List ((Int×Int×Unit)×ShD)) (s:ShD):yC m s= !(!decide (wQ (Ty.dflt tSh) (wB tSt (fU s) m)=s)||decide (X1 s≠1)):=by
 unfold yC;by_cases h:X1 s=1<;>simp[h]
section
variable {r:RoD} {l:List ShD} {i:Nat}
theorem QN (h:i<l.length) (a:yC (vk l l.length) (nth l i)=false):yG r l (i+1)=yG r l i:=by
 rw[tn h];unfold Mh;rw[a,jd (by simp)]
theorem Ws (h:i<l.length) (a:yC (vk l l.length) (nth l i)=true) (b:PO (U.rd r) (nq r) (ar (nth l i)) (nth (yG r l i).1 (ar (nth l i)).toNat++[lV (nth l i)])=true):
 yG r l (i+1)=((yG r l i).1.set (ar (nth l i)).toNat (nth (yG r l i).1 (ar (nth l i)).toNat++[lV (nth l i)]),(yG r l i).2):=by
 rw[tn h];unfold Mh;rw[a,je rfl,je b]
theorem jaG (h:i<l.length) (a:yC (vk l l.length) (nth l i)=true) (b:PO (U.rd r) (nq r) (ar (nth l i)) (nth (yG r l i).1 (ar (nth l i)).toNat++[lV (nth l i)])=false):
 yG r l (i+1)=((yG r l i).1,(yG r l i).2++[gA (nth l i)]):=by
 rw[tn h];unfold Mh;rw[a,je rfl,b,jd (by simp)]
end
theorem AE:uT:=by
 unfold uT jjW jhu jfI jfE jfA jjV jiy jfP Prod.q4;rintro⟨b,⟨⟩⟩ J;obtain⟨⟨hk,N⟩,⟨O,B⟩,C⟩:jaf (yK b):=J;have F:=(gK hk).1;have u:=F.2.2;have v:(qc (U.rd (yK b))).length<=30:=(yh u).2.2.2.2.1;have H:b.2.2.2.2.2.2.2.1.length<=30:=v;have M:(vz (U.rd (yK b))).length<=30:=jF (jb6 _) v;have g:∀s∈vz (U.rd (yK b)),s∈qc (U.rd (yK b)):=fun s D=>iW.1 D
 have w:=fM (U.rd (yK b));have K:(wq (U.rd (yK b))).length<=4:=(yh u).1;refine⟨by show b.2.2.2.2.2.2.2.1.length<=100000;omega,fun _ _ _ _=>tZ,jfe hk,fun _=>⟨⟨0,⟨⟨rfl,tZ⟩,rfl,tZ⟩,jm _⟩,fun x I=>⟨fun h=> ?_,fun h _=>⟨⟨0,⟨⟨rfl,tZ⟩,rfl,rfl,tZ⟩,jm _,Wr (r:=yK b) O B C⟩,fun y n=>⟨fun t=> ?_,fun t=> ?_⟩⟩⟩⟩⟩;have h:(x:Int)<(vz (U.rd (yK b))).length:=ja h;have D:=DB (l:=vz (U.rd (yK b))) (i:=x) (by omega);exact⟨by omega,h,iZ6,x+1,⟨⟨by simp,tZ⟩,D.symm,tZ⟩,by show x+1<=(vz (U.rd (yK b))).length;omega,by show(vz (U.rd (yK b))).length-(x+1)<(vz (U.rd (yK b))).length-x;omega⟩;have I:x<=(vz (U.rd (yK b))).length:=I;have h:¬(x:Int)<(vz (U.rd (yK b))).length:=jc h;have E:x=(vz (U.rd (yK b))).length:=(by omega);have t:(y:Int)<(vz (U.rd (yK b))).length:=ja t;have a:y<(vz (U.rd (yK b))).length:=(by omega);obtain⟨_,e⟩:y<=(vz (U.rd (yK b))).length/\dT (yK b) (vz (U.rd (yK b))) y (yG (yK b) (vz (U.rd (yK b))) y):=n;have c:=jaF (r:=yK b) u g w a e;rw[<-tn a] at c;have up:y+1<=(vz (U.rd (yK b))).length:=a;have A:(vz (U.rd (yK b))).length-(y+1)<(vz (U.rd (yK b))).length-y:=(by omega);have q:=nM u (g _ (L.wi a));have o:=jdJ (vk (vz (U.rd (yK b))) (vz (U.rd (yK b))).length) (nth (vz (U.rd (yK b))) y);subst E;refine⟨by omega,t,fun p=> ?_,fun p=> ?_⟩;have f:yC (vk (vz (U.rd (yK b))) (vz (U.rd (yK b))).length) (nth (vz (U.rd (yK b))) y)=false:=by
  rw[o];have p:(!decide (wQ (Ty.dflt tSh) (wB tSt (fU (nth (vz (U.rd (yK b))) y)) (vk (vz (U.rd (yK b))) (vz (U.rd (yK b))).length))=nth (vz (U.rd (yK b))) y)||decide (X1 (nth (vz (U.rd (yK b))) y)≠1))=true:=p;rw[p];rfl
 have d:=QN (r:=yK b) a f;exact⟨iZ6,y+1,⟨⟨by simp,tZ⟩,jE (·.2) d.symm,jE (·.1) d.symm,tZ⟩,⟨up,c⟩,A⟩;have f:yC (vk (vz (U.rd (yK b))) (vz (U.rd (yK b))).length) (nth (vz (U.rd (yK b))) y)=true:=by
  rw[o];have p:(!decide (wQ (Ty.dflt tSh) (wB tSt (fU (nth (vz (U.rd (yK b))) y)) (vk (vz (U.rd (yK b))) (vz (U.rd (yK b))).length))=nth (vz (U.rd (yK b))) y)||decide (X1 (nth (vz (U.rd (yK b))) y)≠1))=false:=p;rw[p];rfl
 have j:=Wp (r:=yK b) u g w a e f;have z:=jeP j.1 j.2.1;have G:(nth (yG (yK b) (vz (U.rd (yK b))) y).1 (ar (nth (vz (U.rd (yK b))) y)).toNat).length<=4:=by
  rw[jL] at z;omega
 have k:0<=ar (nth (vz (U.rd (yK b))) y):=q.1.1;have m:ar (nth (vz (U.rd (yK b))) y)<((yG (yK b) (vz (U.rd (yK b))) y).1.length:Int):=(by rw[e.1];exact q.1.2);have P:=e.2.1;refine⟨k,m,k,m,k,m,rfl,rfl,?_,rfl,⟨F,N⟩,q.1,⟨jF z (by omega),j.2.1⟩,fun n=> ?_,fun n=> ?_⟩;show((nth (yG (yK b) (vz (U.rd (yK b))) y).1 (ar (nth (vz (U.rd (yK b))) y)).toNat).length+1)*8<=140737488355328;omega;have d:=Ws (r:=yK b) a f n;exact⟨k,m,iZ6,y+1,⟨⟨by simp,tZ⟩,jE (·.2) d.symm,jE (·.1) d.symm,tZ⟩,⟨up,c⟩,A⟩;have d:=jaG (r:=yK b) a f n;refine⟨?_,iZ6,y+1,⟨⟨by simp,tZ⟩,jE (·.1) d.symm,⟨rfl,rfl,rfl,rfl,rfl,rfl,rfl,rfl,tZ,tZ,tZ,tZ⟩,jE (·.2) d.symm,tZ⟩,⟨up,c⟩,A⟩;show((yG (yK b) (vz (U.rd (yK b))) y).2.length+1)*8<=140737488355328;omega;have t:¬(y:Int)<(vz (U.rd (yK b))).length:=jc t;have n:=n.1;have n:y<=(vz (U.rd (yK b))).length:=n;have a:y=(vz (U.rd (yK b))).length:=(by omega);subst a;exact⟨rfl,rfl⟩
theorem Fc:ac PR 183 Fb:=Y2 Tryz.sortI 3 (vQ Tryz.func183 (c:=qh Tryz.f183) (by kernel_rfl) (by kernel_rfl))
theorem uU:ac PR 143 uR:=sF uS AE Tryz.func143 (kcC NY (kcC Dx kcN)) (koC s0 (koC bY (koC Fc koN)))
end Go.X
namespace Go.X
open U
open Go.Proofs
namespace U
def ly (l:List Int) (n:Nat):Int:=(l.take n).foldl (fun s p=>bor s (1*2^p.toNat)) 0
def Rk (l:List Int):Int:=ly l l.length
def yD (d:DyD) (n:Nat):List Int:=((wq d).take n).map (fun b=>Rk (dR (wt d) (gL b)))
def jde (d:DyD):List (List Int):=List.replicate (wj (wt d)).length noI
def Mz (d:DyD):RoD:=(d,yD d (wq d).length,jde d,noI,())
def Uw (d:DyD):RoD:=(d,yD d (wq d).length,(bV (Mz d)).1,(bV (Mz d)).2,())
def t7 (d:DyD):Option RoD:=if qg d=0 then some (Uw d) else none
end U
def KX:vi:=⟨[.val tDy,.nil true],[.cl (.dat (.ptr tRo)),.cl (.dat .int)],fun d=>[(qc d.1).length<=100000],fun d=>((t7 d.1,qg d.1,()),())⟩
def Wt:Ann:=fun r=>match r with
 |8=>some fun σ=>{X:=Nat,sl:=fun i=>[(39,.dat .int (i:Int))],ob:=fun i=>[(27,some (.box 168 false (((bx σ 27).set 8 (.own (ig 27 8) .int)).set 10 (.own (ig 27 10) .int)))),(ig 27 10,some (.row 3 .int false .yes U.noI)),(ig 27 8,some (.row 3 .int false .yes (yD (gb tDy σ 2) i)))],inv:=fun i=>i<=(wq (gb tDy σ 2)).length,mu:=fun i=>(wq (gb tDy σ 2)).length-i}
 |13=>some fun σ=>{X:=Nat,sl:=fun i=>[(53,.dat .int (i:Int)),(12,.dat .int (ly (gd (.slice .int) σ 51) i))],ob:=fun _=>[],inv:=fun i=>i<=(gd (.slice .int) σ 51).length,mu:=fun i=>(gd (.slice .int) σ 51).length-i}
 |3000005=>some fun _=>{X:=Unit,sl:=fun _=>[],ob:=fun _=>[],inv:=fun _=>True,mu:=fun _=>0}
 |_=>none
abbrev jfQ (d:DyD×Unit×Unit)(x:Nat):=(dR d.1.1 (nth d.1.2.2.1 (x:Int).toNat).1)
abbrev jjX (d:DyD×Unit×Unit):=(d.1.1.1=d.1.1.1/\d.1.1.2.1=d.1.1.2.1/\d.1.1.2.2.1=d.1.1.2.2.1/\d.1.2.1=d.1.2.1/\d.1.2.2.1=d.1.2.2.1/\d.1.2.2.2.1=d.1.2.2.2.1/\d.1.q4.1=d.1.q4.1/\d.1.q4.2.1=d.1.q4.2.1/\True/\True/\True/\True)
abbrev jhv (d:DyD×Unit×Unit):=(d.1.1.2.1.length:Int)
abbrev jjY (d:DyD×Unit×Unit)(x:Nat):=(yK (d.1.1.1,d.1.1.2.1,d.1.1.2.2.1,d.1.2.1,d.1.2.2.1,d.1.2.2.2.1,d.1.q4.1,d.1.q4.2.1,yD d.1 x,List.replicate (jhv d).toNat [],U.noI,()))
abbrev jgi (d:DyD×Unit×Unit)(x:Nat):=(A6 (d.1.1.1,d.1.1.2.1,d.1.1.2.2.1,d.1.2.1,d.1.2.2.1,d.1.2.2.2.1,d.1.q4.1,d.1.q4.2.1,yD d.1 x,List.replicate (jhv d).toNat [],U.noI,()) (bV (jjY d x)))
def KY:Prop:=∀(d:DyD×Unit×Unit),(qc d.1).length<=100000->(qc d.1).length<=100000/\(decide (qg d.1≠0)=true->(none,qg d.1,())=(t7 d.1,qg d.1,())/\()=())/\(decide (qg d.1≠0)=false->0<=(jhv d)/\(jhv d)=(jhv d)/\(jhv d).toNat*24<=140737488355328/\((!true)=true->(!true)=true/\(!true)=true/\False)/\((!true)=false->(!true)=false/\(!true)=false/\(!true)=false/\(!true)=false/\(false=true->(none,(1:Int),())=(t7 d.1,qg d.1,())/\()=())/\(qF->d.1.2.2.1.length<4611686018427387904->(∃(x:Nat),((0=(x:Int)/\True)/\(jjX d)/\U.noI=[]/\yD d.1 x=[]/\True)/\x<=(wq d.1).length)/\∀(x:Nat),x<=(wq d.1).length->(decide ((x:Int)<d.1.2.2.1.length)=true->0<=(x:Int)/\(x:Int)<d.1.2.2.1.length/\((jfQ d x).length<4611686018427387904->(∃(a:Nat),((0=(a:Int)/\0=ly (jfQ d x) a/\True)/\True)/\a<=(jfQ d x).length)/\∀(a:Nat),a<=(jfQ d x).length->(decide ((a:Int)<(jfQ d x).length)=true->0<=(a:Int)/\(a:Int)<(jfQ d x).length/\0<=nth (jfQ d x) (a:Int).toNat/\nth (jfQ d x) (a:Int).toNat<=64/\wn ((1:Int)*2^(nth (jfQ d x) (a:Int).toNat).toNat)/\wn ((a:Int)+1)/\∃(b:Nat),(((a:Int)+1=(b:Int)/\bor (ly (jfQ d x) a) ((1:Int)*2^(nth (jfQ d x) (a:Int).toNat).toNat)=ly (jfQ d x) b/\True)/\True)/\b<=(jfQ d x).length/\(jfQ d x).length-b<(jfQ d x).length-a)/\(decide ((a:Int)<(jfQ d x).length)=false->((yD d.1 x).length+[ly (jfQ d x) a].length)*8<=140737488355328/\wn ((x:Int)+1)/\∃(b:Nat),(((x:Int)+1=(b:Int)/\True)/\U.noI=U.noI/\(jjX d)/\yD d.1 x++[ly (jfQ d x) a]=yD d.1 b/\True)/\b<=(wq d.1).length/\(wq d.1).length-b<(wq d.1).length-x)))/\(decide ((x:Int)<d.1.2.2.1.length)=false->jaf (jjY d x)/\(some ((((jgi d x).1,(jgi d x).2.1,(jgi d x).2.2.1,()),(jgi d x).2.2.2.1,(jgi d x).q4.1,(jgi d x).q4.2.1,(jgi d x).q4.2.2.1,(jgi d x).q4.2.2.2.1,()),(jgi d x).q4.q4.1,(jgi d x).q4.q4.2.1,(jgi d x).q4.q4.2.2.1,()),(0:Int),())=(t7 d.1,qg d.1,())/\()=()))))
theorem uV {l:List Int} {i:Nat} (h:i<l.length):ly l (i+1)=bor (ly l i) (1*2^(nth l i).toNat):=by
 unfold ly;rw[L.wO h,jS];rfl
theorem Wu {d:DyD} {i:Nat} (h:i<(wq d).length):yD d (i+1)=yD d i++[Rk (dR (wt d) (gL (nth (wq d) i)))]:=by
 unfold yD;rw[L.wO h,zw];rfl
theorem Zr (d:DyD) (i:Nat):(yD d i).length<=i:=by
 unfold yD;rw[zj,jT];omega
theorem Wv {c:CrD} (h:wu c=true) {j:JbD} {p:Int} (a:p∈dR c j):0<=p/\p<8:=by
 have d:=(w8 h).2.2.1;unfold dR at a
 split at a
 unfold cV at a;obtain⟨n,b,rfl⟩:=j6.1 a;have:=jG.1 (jX.1 b).1;omega;cases a
theorem jb7 {c:CrD} (h:wu c=true) (j:JbD):(dR c j).length<=8:=by
 have a:=(w8 h).2.2.1;unfold dR
 split
 unfold cV;rw[zj];exact jF (zF _ _) (by simpa using a);exact jm _
theorem Ww {d:DyD} (h:qg d=0):jaf (Mz d):=by
 refine⟨⟨h,?_⟩,⟨?_,fun x a=> ?_⟩,rfl⟩;show(yD d (wq d).length).length=(wq d).length;unfold yD;simp;show(jde d).length=(wj (wt d)).length;unfold jde;simp;have a:x∈jde d:=a;unfold jde at a;exact(List.mem_replicate.1 a).2
theorem N7:KY:=by
 unfold KY jgi jjY jhv jjX jfQ Prod.q4;rintro⟨d,⟨⟩,⟨⟩⟩ j;refine⟨j,fun h=>⟨?_,rfl⟩,fun h=>⟨j8 _,rfl,?_,fun c=>(by cases c),fun _=>⟨rfl,rfl,rfl,rfl,fun c=>(by cases c),fun _=> ?_⟩⟩⟩;have h:qg d≠0:=ja h;show(none,qg d,())=(t7 d,qg d,());unfold t7;rw[jd h];have hk:qg d=0:=jO.1 (jc h);have e:=(w8 (gK hk).1.1).2.2.1;have e:d.1.2.1.length<=8:=e;show((d.1.2.1.length:Int)).toNat*24<=140737488355328;omega;have hk:qg d=0:=jO.1 (jc h);clear j h;have f:=(gK hk).1;have r:=f.2.2;have g:(wq d).length<=4:=(yh r).1;have n:d.2.2.1.length<=4:=g;refine fun _=>⟨⟨0,⟨⟨rfl,tZ⟩,⟨rfl,rfl,rfl,rfl,rfl,rfl,rfl,rfl,tZ,tZ,tZ,tZ⟩,rfl,rfl,tZ⟩,jm _⟩,fun x o=>⟨fun h=>⟨by omega,ja h,fun _=>⟨⟨0,⟨⟨rfl,rfl,tZ⟩,tZ⟩,jm _⟩,fun y p=>⟨fun a=> ?_,fun a=> ?_⟩⟩⟩,fun h=> ?_⟩⟩
 have a:(y:Int)<(dR (wt d) (nth d.2.2.1 (x:Int).toNat).1).length:=ja a;have b:y<(dR (wt d) (nth d.2.2.1 (x:Int).toNat).1).length:=(by omega);have s:=Wv f.1 (L.wi b);have k:=uV b;have e:=jb7 f.1 (nth d.2.2.1 (x:Int).toNat).1;have q:BT.qd ((2:Int)^(nth (dR (wt d) (nth d.2.2.1 (x:Int).toNat).1) y).toNat):=BT.ld (by omega);unfold BT.qd at q;exact⟨by omega,a,s.1,by show nth (dR (wt d) (nth d.2.2.1 (x:Int).toNat).1) y<=64;omega,by show wn (1*2^(nth (dR (wt d) (nth d.2.2.1 (x:Int).toNat).1) y).toNat);rw[mT];exact iZ6,iZ6,y+1,⟨⟨by simp,k.symm,tZ⟩,tZ⟩,by show y+1<=(dR (wt d) (nth d.2.2.1 (x:Int).toNat).1).length;omega,by show(dR (wt d) (nth d.2.2.1 (x:Int).toNat).1).length-(y+1)<(dR (wt d) (nth d.2.2.1 (x:Int).toNat).1).length-y;omega⟩;have h:(x:Int)<(wq d).length:=ja h;have k:=Wu (d:=d) (i:=x) (by omega);have j:=Zr d x;have p:y<=(dR (wt d) (nth d.2.2.1 (x:Int).toNat).1).length:=p;have a:¬(y:Int)<(dR (wt d) (nth d.2.2.1 (x:Int).toNat).1).length:=jc a;have m:y=(dR (wt d) (nth d.2.2.1 (x:Int).toNat).1).length:=(by omega);subst m;refine⟨?_,iZ6,x+1,⟨⟨by simp,tZ⟩,rfl,⟨rfl,rfl,rfl,rfl,rfl,rfl,rfl,rfl,tZ,tZ,tZ,tZ⟩,k.symm,tZ⟩,by show x+1<=(wq d).length;omega,by show(wq d).length-(x+1)<(wq d).length-x;omega⟩;show((yD d x).length+1)*8<=140737488355328;omega;have h:¬(x:Int)<(wq d).length:=jc h;have o:x<=(wq d).length:=o;have l:x=(wq d).length:=(by omega);subst l;refine⟨Ww hk,?_⟩;refine⟨?_,rfl⟩;show(some (Uw d),(0:Int),())=(t7 d,qg d,());unfold t7;rw[je hk,hk]
theorem xI:ac PR 105 KX:=sF Wt N7 Tryz.func105 (kcC GQ (kcC Zg kcN)) (koC uU koN)
namespace U
def aG (d:DyD) (n:Nat):List Int:=(List.range n).map (fun(b:Nat)=>eB (bO (Uw d)) (b:Int))
def fV (d:DyD):List Int:=if qg d=0 then aG d (wq d).length else[]
def Rm (d:DyD) (b:Nat):Bool:=Eu d (b:Int) (eB (bO (Uw d)) (b:Int))
def aH (d:DyD) (n:Nat):List Int:=((List.range n).filter (Rm d)).map (fun(b:Nat)=>(b:Int))
def wb (d:DyD):List Int:=if qg d=0 then aH d (wq d).length else[]
def Mi (d:DyD) (p:Int):Bool:=wa p 0 (((wj (wt d)).length:Int)-1)
def X4 (d:DyD) (b:Int):Bool:=wa b 0 (((wq d).length:Int)-1)
end U
def SB:wS:=⟨[.val tDy],[.slice .int,.int],false,fun d=>[(qc d.1).length<=100000],fun d=>(fV d.1,qg d.1,())⟩
def SC:Ann:=fun r=>match r with
 |6=>some fun σ=>{X:=Nat,sl:=fun i=>[(19,.dat .int (i:Int)),(6,.own 6 .int)],ob:=fun i=>[(6,some (.row 3 .int false .yes (aG (gb tDy σ 1) i)))],inv:=fun i=>i<=(wq (gb tDy σ 1)).length,mu:=fun i=>(wq (gb tDy σ 1)).length-i}
 |_=>none
def SD:Prop:=∀(d:DyD×Unit),(qc d.1).length<=100000->(qc d.1).length<=100000/\(decide (qg d.1≠0)=true->([],qg d.1,())=(fV d.1,qg d.1,()))/\(decide (qg d.1≠0)=false->d.1.2.2.1.length<4611686018427387904->(∃(x:Nat),((0=(x:Int)/\True/\True)/\aG d.1 x=[]/\True)/\x<=(wq d.1).length)/\∀(x:Nat),x<=(wq d.1).length->(decide ((x:Int)<d.1.2.2.1.length)=true->(t7 d.1).isSome=true/\(bO (U.ro (t7 d.1))).length<=60/\((aG d.1 x).length+[eB (bO (U.ro (t7 d.1))) (x:Int)].length)*8<=140737488355328/\wn ((x:Int)+1)/\∃(a:Nat),(((x:Int)+1=(a:Int)/\True/\True)/\aG d.1 x++[eB (bO (U.ro (t7 d.1))) (x:Int)]=aG d.1 a/\True)/\a<=(wq d.1).length/\(wq d.1).length-a<(wq d.1).length-x)/\(decide ((x:Int)<d.1.2.2.1.length)=false->(aG d.1 x,(0:Int),())=(fV d.1,qg d.1,())))
def N8:wS:=⟨[.val tDy],[.slice .int,.int],false,fun d=>[(qc d.1).length<=100000],fun d=>(wb d.1,qg d.1,())⟩
def N9:Ann:=fun r=>match r with
 |6=>some fun σ=>{X:=Nat,sl:=fun i=>[(19,.dat .int (i:Int)),(6,.own 6 .int)],ob:=fun i=>[(6,some (.row 3 .int false .yes (aH (gb tDy σ 1) i)))],inv:=fun i=>i<=(wq (gb tDy σ 1)).length,mu:=fun i=>(wq (gb tDy σ 1)).length-i}
 |_=>none
def Oa:Prop:=∀(d:DyD×Unit),(qc d.1).length<=100000->(qc d.1).length<=100000/\(decide (qg d.1≠0)=true->([],qg d.1,())=(wb d.1,qg d.1,()))/\(decide (qg d.1≠0)=false->d.1.2.2.1.length<4611686018427387904->(∃(x:Nat),((0=(x:Int)/\True/\True)/\aH d.1 x=[]/\True)/\x<=(wq d.1).length)/\∀(x:Nat),x<=(wq d.1).length->(decide ((x:Int)<d.1.2.2.1.length)=true->(t7 d.1).isSome=true/\(bO (U.ro (t7 d.1))).length<=60/\(t7 d.1).isSome=true/\au (U.rd (U.ro (t7 d.1))) (x:Int)/\(Eu (U.rd (U.ro (t7 d.1))) (x:Int) (eB (bO (U.ro (t7 d.1))) (x:Int))=true->((aH d.1 x).length+[(x:Int)].length)*8<=140737488355328/\wn ((x:Int)+1)/\∃(a:Nat),(((x:Int)+1=(a:Int)/\True/\True)/\aH d.1 x++[(x:Int)]=aH d.1 a/\True)/\a<=(wq d.1).length/\(wq d.1).length-a<(wq d.1).length-x)/\(Eu (U.rd (U.ro (t7 d.1))) (x:Int) (eB (bO (U.ro (t7 d.1))) (x:Int))=false->wn ((x:Int)+1)/\∃(a:Nat),((True/\(x:Int)+1=(a:Int)/\True)/\aH d.1 x=aH d.1 a/\True)/\a<=(wq d.1).length/\(wq d.1).length-a<(wq d.1).length-x))/\(decide ((x:Int)<d.1.2.2.1.length)=false->(aH d.1 x,(0:Int),())=(wb d.1,qg d.1,())))
theorem Oc {r:RoD} {l:List ShD} (d:qD (U.rd r)=true) (e:∀s∈l,s∈qc (U.rd r)) (nd:l.Nodup) (a:(bO r).length=(wj (wt (U.rd r))).length) (b:jcV (bO r)) (c:je3 r=U.noI):
 ∀i,i<=l.length->dT r l i (yG r l i)
 |0,_=>Wr a b c
 |i+1,hi=>by
  rw[tn hi]
  exact jaF d e nd hi (Oc d e nd a b c i (by omega))
structure jb8 (d:DyD):Prop where
 may:Rj (Uw d)
 len:(bO (Uw d)).length=(wj (wt d)).length
 row:∀p,(nth (bO (Uw d)) p).Nodup/\∀b∈nth (bO (Uw d)) p,au d b
theorem Wx {d:DyD} (h:qg d=0):jb8 d:=by
 obtain⟨⟨_,i⟩,⟨j,c⟩,e⟩:=Ww h;have f:=(gK h).1;have a:=Oc (r:=Mz d) (l:=vz d) f.2.2 (fun s k=>iW.1 k) (fM d) j c e _ (jk _);refine⟨⟨f,i⟩,a.1,fun p=> ?_⟩;have:=a.2.2 p;exact⟨this.1,fun b g=>(this.2 b g).1⟩
theorem jb8.len60 {d:DyD} (h:jb8 d):(bO (Uw d)).length<=60:=by
 have a:=(w8 h.may.1.1).2.2.1;have a:(wj (wt d)).length<=8:=a;rw[h.len];omega
theorem jaH {d:DyD} (h:qg d=0):t7 d=some (Uw d):=je h
theorem SE (d:DyD) (n:Nat):aG d (n+1)=aG d n++[eB (bO (Uw d)) (n:Int)]:=by
 unfold aG;rw[zf,zw];rfl
theorem Wy:SD:=by
 rintro⟨d,⟨⟩⟩ j;refine⟨j,fun h=> ?_,fun h _=>⟨⟨0,⟨⟨rfl,tZ,tZ⟩,rfl,tZ⟩,jm _⟩,fun x g=>⟨fun a=> ?_,fun a=> ?_⟩⟩⟩;have h:qg d≠0:=ja h;show([],qg d,())=(fV d,qg d,());unfold fV;rw[jd h];have hk:qg d=0:=jO.1 (jc h);have f:=Wx hk;have i:(wq d).length<=4:=(yh f.may.1.2.2).1;have a:(x:Int)<(wq d).length:=ja a;have k:=SE d x;have e:(aG d x).length=x:=(by unfold aG;simp);have b:=jaH hk;refine⟨by show(t7 d).isSome=true;rw[b];rfl,by show(bO (U.ro (t7 d))).length<=60;rw[b];exact f.len60,?_,iZ6,x+1,⟨⟨by simp,tZ,tZ⟩,?_,tZ⟩,by show x+1<=(wq d).length;omega,by show(wq d).length-(x+1)<(wq d).length-x;omega⟩;show((aG d x).length+1)*8<=_;omega;show aG d x++[eB (bO (U.ro (t7 d))) (x:Int)]=aG d (x+1);rw[b,k];rfl;have hk:qg d=0:=jO.1 (jc h);have g:x<=(wq d).length:=g;have a:¬(x:Int)<(wq d).length:=jc a;have c:x=(wq d).length:=(by omega);subst c;show(aG d _,(0:Int),())=(fV d,qg d,());unfold fV;rw[je hk,hk]
theorem SF:wZ PR 66 SB:=vl SC Wy Tryz.func66 (kcC lq kcN) (koC xI koN)
theorem SG (d:DyD) (n:Nat):aH d (n+1)=aH d n++(if Rm d n=true then[(n:Int)] else[]):=by
 unfold aH;rw[L.yj,zw];by_cases h:Rm d n=true;rw[je h,je h];rfl;rw[jd h,jd h];rfl
theorem SH:Oa:=by
 rintro⟨d,⟨⟩⟩ p;refine⟨p,fun h=> ?_,fun h _=>⟨⟨0,⟨⟨rfl,tZ,tZ⟩,rfl,tZ⟩,jm _⟩,fun x m=>⟨fun b=> ?_,fun b=> ?_⟩⟩⟩;have h:qg d≠0:=ja h;show([],qg d,())=(wb d,qg d,());unfold wb;rw[jd h];have hk:qg d=0:=jO.1 (jc h);have l:=Wx hk;have o:(wq d).length<=4:=(yh l.may.1.2.2).1;have b:(x:Int)<(wq d).length:=ja b;have e:=SG d x;have k:(aH d x).length<=x:=by
  unfold aH;rw[zj];exact jF (zF _ _) (by simp)
 have c:=jaH hk;have i:(t7 d).isSome=true:=(by rw[c];rfl);have e2:(bO (U.ro (t7 d))).length<=60:=(by rw[c];exact l.len60);have n:au (U.rd (U.ro (t7 d))) (x:Int):=(by rw[c];exact⟨by omega,b⟩);have j:Eu (U.rd (U.ro (t7 d))) (x:Int) (eB (bO (U.ro (t7 d))) (x:Int))=Rm d x:=(by rw[c];rfl);have up:x+1<=(wq d).length:=(by omega);have g:(wq d).length-(x+1)<(wq d).length-x:=(by omega);refine⟨i,e2,i,n,fun a=> ?_,fun a=> ?_⟩;have a:Rm d x=true:=(by rw[<-j];exact a);refine⟨?_,iZ6,x+1,⟨⟨by simp,tZ,tZ⟩,?_,tZ⟩,up,g⟩;show((aH d x).length+1)*8<=_;omega;rw[je a] at e;exact e.symm;have a:Rm d x=false:=(by rw[<-j];exact a);refine⟨iZ6,x+1,⟨⟨tZ,by simp,tZ⟩,?_,tZ⟩,up,g⟩;rw[jd (by rw[a];simp),j7] at e;exact e.symm;have hk:qg d=0:=jO.1 (jc h);have m:x<=(wq d).length:=m;have b:¬(x:Int)<(wq d).length:=jc b;have f:x=(wq d).length:=(by omega);subst f;show(aH d _,(0:Int),())=(wb d,qg d,());unfold wb;rw[je hk,hk]
theorem Od:wZ PR 67 N8:=vl N9 SH Tryz.func67 (kcC lq (kcC AD kcN)) (koC xI koN)
theorem re {l:List Int} (h:∀p∈l,0<=p/\p<8):∀n,n<=l.length->BT.qd (ly l n)/\∀q,BT.has (ly l n) q=true->q<8
 |0,_=>⟨BT.ED,fun q a=>by rw[show ly l 0=0 from rfl,BT.tY] at a;cases a⟩
 |n+1,d=>by
  have b:=re h n (by omega)
  have e:=h _ (L.wi (l:=l) (i:=n) (by omega))
  have c:BT.qd ((2:Int)^(nth l n).toNat):=BT.ld (by omega)
  rw[uV (by omega),mT]
  refine⟨BT.bor_set b.1 c,fun q a=> ?_⟩
  rw[BT.has_bor b.1 c,zo,BT.BA,jp] at a
  rcases a with a|a
  exact b.2 q a
  omega
end Go.X
namespace Go.X
open U
open Go.Proofs
end Go.X
namespace Go.X
open U
open Go.Proofs
end Go.X
