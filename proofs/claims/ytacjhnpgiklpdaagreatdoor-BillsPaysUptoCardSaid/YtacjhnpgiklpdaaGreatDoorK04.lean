/-
  Part 4 of the road: a checked reading of bodies, and what the functions on it do (T L BT BS NL DF RC FX A1 P1 A2 P2 A4 P4 A5 P5 A3 P6 CM MP O1 B1 P7 IS B2 P8 B3 P9 DI B4 P10 B5 P11 B6 P12 P13 B7 P14 B8 P15).
-/
import Derived.Test.YtacjhnpgiklpdaaGreatDoorK03
import Derived.Test.YtacjhnpgiklpdaaGreatDoorProg
import Derived.KernelRfl
import Derived.Shelf.SlSortCmp.WholeK
import Derived.Shelf.Sort.Plain
namespace Go.X
open U
open Go.Proofs
abbrev bT:=true
abbrev bF:=false
abbrev vO:Value:=.int .i64 0
abbrev qy0:Ty:=.ptr (.uint .u8)
abbrev qy1:Ty:=.st [.int,.int]
abbrev qy2:Ty:=.ptr (.uint .u64)
abbrev qy3:Ty:=.slice (.slice .int)
abbrev qy4:Ty:=.st [.int,.int,.int]
abbrev qy5:Ty:=.st [.int,.int,.bool]
abbrev qy6:Ty:=.slice qy1
abbrev qy7:Ty:=.slice qy4
abbrev qy8:Ty:=.slice qy5
abbrev qy9:Ty:=.slice qy6
abbrev qy10:Ty:=.map .int qy4
abbrev qy11:Ty:=.st [.int,.int,.bool,.uint .u8]
abbrev qy12:Ty:=.st [.int,.int,.int,.int,.int]
abbrev qy13:Ty:=.st [.int,.int,.int,.int,.int,.int]
abbrev qy14:Ty:=.slice qy12
abbrev qy15:Ty:=.slice qy13
abbrev qy16:Ty:=.st [.slice .int,.int,.int,.slice .int,.bool,.int]
abbrev qy17:Ty:=.map qy1 qy12
abbrev qy18:Ty:=.st [qy13,.int,.int,.int]
abbrev qy19:Ty:=.slice qy16
abbrev qy20:Ty:=.slice qy18
abbrev qy21:Ty:=.st [.int,.int,.int,.int,.int,.int,.int,.int,.slice .int,qy6]
abbrev qy22:Ty:=.st [.int,qy19,qy8]
abbrev qy23:Ty:=.st [qy22,qy13,qy5]
abbrev qy24:Ty:=.ptr qy23
abbrev qy25:Ty:=.st [qy18,qy21,.int,.int,.slice .int,.int,.int,.bool,.int]
abbrev qy26:Ty:=.ptr qy25
abbrev qy27:Ty:=.map .int qy26
abbrev qy28:Ty:=.st [qy22,qy9,qy20,.int,.int,qy14]
abbrev qy29:Ty:=.st [qy28,.slice .int,qy3,.slice .int]
abbrev qy30:Ty:=.ptr qy29
abbrev qy31:Ty:=.st [qy28,.slice .int,.slice .int,qy21,qy7]
abbrev qy32:Ty:=.st [qy31,qy27]
def rr (i:Nat)(t:Ty)(n:Nat)(a:Bool)(f:List (Nat×Nat))(s:Bool)(e b:Nat)(z:List Value)(c m:Bool)(k:Nat)(q:Bool):TI:=⟨i,t,n,a,f,s,e,b,z,c,m,k,q,false,false,false⟩
def rf (i:Nat):TI:=⟨i,.unit,1,false,[],false,0,8,[.nilFunc],false,false,0,false,false,false,true⟩
def rq (i:Nat):TI:=⟨i,.unit,1,false,[],false,0,8,[.pointer none],false,false,0,false,false,true,false⟩
def ti:List TI:=[
 rf 1,
 rr 2 .int 1 bF [] bF 0 8 [vO] bF bF 0 bT,
 rr 3 .int 1 bF [] bF 0 8 [vO] bF bF 0 bT,
 rr 4 .bool 1 bF [] bF 0 1 [.bool false] bT bF 0 bF,
 rr 5 (.uint .u8) 1 bF [] bF 0 1 [.int .u8 0] bF bF 0 bF,
 rr 6 (.uint .u8) 1 bF [] bF 0 1 [.int .u8 0] bF bF 0 bF,
 rr 7 qy11 4 bT [(0,2),(1,3),(2,4),(3,6)] bF 0 24 [vO,vO,.bool false,.int .u8 0] bT bF 0 bT,
 rr 8 qy11 4 bT [(0,2),(1,3),(2,4),(3,6)] bF 0 24 [vO,vO,.bool false,.int .u8 0] bT bF 0 bT,
 rr 12 (.uint .u64) 1 bF [] bF 0 8 [.int .u64 0] bF bF 0 bF,
 rq 15,
 rq 16,
 rq 17,
 rr 18 .unit 1 bT [(0,17)] bF 0 8 [.pointer none] bF bF 0 bF,
 rr 19 .unit 1 bT [(0,17)] bF 0 8 [.pointer none] bF bF 0 bF,
 rr 21 (.uint .i32) 1 bF [] bF 0 4 [.int .i32 0] bF bF 0 bF,
 rr 22 qy19 1 bF [] bT 136 24 [.slice none 0 0] bF bF 0 bF,
 rr 23 qy8 1 bF [] bT 145 24 [.slice none 0 0] bF bF 0 bF,
 rr 24 qy22 3 bT [(0,3),(1,22),(2,23)] bF 0 56 [vO,.slice none 0 0,.slice none 0 0] bF bF 0 bF,
 rr 25 qy22 3 bT [(0,3),(1,22),(2,23)] bF 0 56 [vO,.slice none 0 0,.slice none 0 0] bF bF 0 bF,
 rr 26 qy9 1 bF [] bT 107 24 [.slice none 0 0] bF bF 0 bF,
 rr 27 qy20 1 bF [] bT 65 24 [.slice none 0 0] bF bF 0 bF,
 rr 28 qy14 1 bF [] bT 134 24 [.slice none 0 0] bF bF 0 bF,
 rr 29 qy28 8 bT [(0,25),(3,26),(4,27),(5,3),(6,3),(7,28)] bF 0 144 [vO,.slice none 0 0,.slice none 0 0,.slice none 0 0,.slice none 0 0,vO,vO,.slice none 0 0] bF bF 0 bF,
 rr 30 qy28 8 bT [(0,25),(3,26),(4,27),(5,3),(6,3),(7,28)] bF 0 144 [vO,.slice none 0 0,.slice none 0 0,.slice none 0 0,.slice none 0 0,vO,vO,.slice none 0 0] bF bF 0 bF,
 rr 31 (.slice .int) 1 bF [] bT 3 24 [.slice none 0 0] bF bF 0 bF,
 rr 32 qy6 1 bF [] bT 87 24 [.slice none 0 0] bF bF 0 bF,
 rr 33 qy21 10 bT [(0,3),(1,3),(2,3),(3,3),(4,3),(5,3),(6,3),(7,3),(8,31),(9,32)] bF 0 112 [vO,vO,vO,vO,vO,vO,vO,vO,.slice none 0 0,.slice none 0 0] bF bF 0 bF,
 rr 34 qy21 10 bT [(0,3),(1,3),(2,3),(3,3),(4,3),(5,3),(6,3),(7,3),(8,31),(9,32)] bF 0 112 [vO,vO,vO,vO,vO,vO,vO,vO,.slice none 0 0,.slice none 0 0] bF bF 0 bF,
 rr 35 qy7 1 bF [] bT 95 24 [.slice none 0 0] bF bF 0 bF,
 rr 36 qy31 21 bT [(0,30),(8,31),(9,31),(10,34),(20,35)] bF 0 328 [vO,.slice none 0 0,.slice none 0 0,.slice none 0 0,.slice none 0 0,vO,vO,.slice none 0 0,.slice none 0 0,.slice none 0 0,vO,vO,vO,vO,vO,vO,vO,vO,.slice none 0 0,.slice none 0 0,.slice none 0 0] bF bF 0 bF,
 rr 37 qy31 21 bT [(0,30),(8,31),(9,31),(10,34),(20,35)] bF 0 328 [vO,.slice none 0 0,.slice none 0 0,.slice none 0 0,.slice none 0 0,vO,vO,.slice none 0 0,.slice none 0 0,.slice none 0 0,vO,vO,vO,vO,vO,vO,vO,vO,.slice none 0 0,.slice none 0 0,.slice none 0 0] bF bF 0 bF,
 rr 38 qy4 3 bT [(0,3),(1,3),(2,3)] bF 0 24 [vO,vO,vO] bT bF 0 bT,
 rr 39 qy4 3 bT [(0,3),(1,3),(2,3)] bF 0 24 [vO,vO,vO] bT bF 0 bT,
 rf 40,
 rf 41,
 rf 42,
 rr 43 .int 1 bF [] bF 0 8 [vO] bF bF 0 bT,
 rf 45,
 rf 46,
 rf 47,
 rf 49,
 rf 51,
 rf 52,
 rf 53,
 rr 54 qy15 1 bF [] bT 61 24 [.slice none 0 0] bF bF 0 bF,
 rf 56,
 rf 57,
 rf 58,
 rf 59,
 rr 60 qy13 6 bT [(0,3),(1,3),(2,3),(3,3),(4,3),(5,3)] bF 0 48 [vO,vO,vO,vO,vO,vO] bT bF 0 bT,
 rr 61 qy13 6 bT [(0,3),(1,3),(2,3),(3,3),(4,3),(5,3)] bF 0 48 [vO,vO,vO,vO,vO,vO] bT bF 0 bT,
 rr 62 qy13 6 bT [(0,3),(1,3),(2,3),(3,3),(4,3),(5,3)] bF 0 48 [vO,vO,vO,vO,vO,vO] bT bF 0 bT,
 rr 63 qy13 6 bT [(0,3),(1,3),(2,3),(3,3),(4,3),(5,3)] bF 0 48 [vO,vO,vO,vO,vO,vO] bT bF 0 bT,
 rr 64 qy18 9 bT [(0,63),(6,3),(7,3),(8,3)] bF 0 72 [vO,vO,vO,vO,vO,vO,vO,vO,vO] bT bF 0 bT,
 rr 65 qy18 9 bT [(0,63),(6,3),(7,3),(8,3)] bF 0 72 [vO,vO,vO,vO,vO,vO,vO,vO,vO] bT bF 0 bT,
 rf 67,
 rf 68,
 rf 69,
 rf 70,
 rr 71 qy27 1 bF [] bF 79 8 [.map none] bF bT 3 bF,
 rr 72 qy32 22 bT [(0,37),(21,71)] bF 0 336 [vO,.slice none 0 0,.slice none 0 0,.slice none 0 0,.slice none 0 0,vO,vO,.slice none 0 0,.slice none 0 0,.slice none 0 0,vO,vO,vO,vO,vO,vO,vO,vO,.slice none 0 0,.slice none 0 0,.slice none 0 0,.map none] bF bF 0 bF,
 rr 73 qy32 22 bT [(0,37),(21,71)] bF 0 336 [vO,.slice none 0 0,.slice none 0 0,.slice none 0 0,.slice none 0 0,vO,vO,.slice none 0 0,.slice none 0 0,.slice none 0 0,vO,vO,vO,vO,vO,vO,vO,vO,.slice none 0 0,.slice none 0 0,.slice none 0 0,.map none] bF bF 0 bF,
 rf 75,
 rf 76,
 rf 77,
 rf 78,
 {rr 79 qy26 1 bF [] bF 0 8 [.pointer none] bF bF 0 bF with pt:=true},
 rf 80,
 rf 81,
 rf 82,
 rf 83,
 rr 84 qy25 26 bT [(0,65),(9,34),(19,3),(20,3),(21,31),(22,3),(23,3),(24,4),(25,3)] bF 0 256 [vO,vO,vO,vO,vO,vO,vO,vO,vO,vO,vO,vO,vO,vO,vO,vO,vO,.slice none 0 0,.slice none 0 0,vO,vO,.slice none 0 0,vO,vO,.bool false,vO] bF bF 0 bF,
 rr 85 qy25 26 bT [(0,65),(9,34),(19,3),(20,3),(21,31),(22,3),(23,3),(24,4),(25,3)] bF 0 256 [vO,vO,vO,vO,vO,vO,vO,vO,vO,vO,vO,vO,vO,vO,vO,vO,vO,.slice none 0 0,.slice none 0 0,vO,vO,.slice none 0 0,vO,vO,.bool false,vO] bF bF 0 bF,
 rr 86 qy1 2 bT [(0,3),(1,3)] bF 0 16 [vO,vO] bT bF 0 bT,
 rr 87 qy1 2 bT [(0,3),(1,3)] bF 0 16 [vO,vO] bT bF 0 bT,
 rf 88,
 rf 89,
 rf 90,
 rf 91,
 rr 92 (.uint .u64) 1 bF [] bF 0 8 [.int .u64 0] bF bF 0 bF,
 rf 93,
 rr 94 qy4 3 bT [(0,3),(1,3),(2,3)] bF 0 24 [vO,vO,vO] bT bF 0 bT,
 rr 95 qy4 3 bT [(0,3),(1,3),(2,3)] bF 0 24 [vO,vO,vO] bT bF 0 bT,
 rf 96,
 rf 97,
 rf 98,
 rf 99,
 rr 100 qy10 1 bF [] bF 95 8 [.map none] bF bT 3 bF,
 rf 102,
 rf 103,
 rf 104,
 rf 105,
 rf 106,
 rr 107 qy6 1 bF [] bT 131 24 [.slice none 0 0] bF bF 0 bF,
 rf 108,
 rf 109,
 rf 110,
 rf 111,
 rf 112,
 rf 113,
 rf 115,
 rf 116,
 rf 117,
 rf 118,
 rf 119,
 rf 120,
 rf 121,
 rf 122,
 rf 123,
 rf 124,
 rf 125,
 rf 126,
 rr 127 qy15 1 bF [] bT 63 24 [.slice none 0 0] bF bF 0 bF,
 rf 129,
 rr 130 qy1 2 bT [(0,3),(1,3)] bF 0 16 [vO,vO] bT bF 0 bT,
 rr 131 qy1 2 bT [(0,3),(1,3)] bF 0 16 [vO,vO] bT bF 0 bT,
 rf 132,
 rr 133 qy12 5 bT [(0,3),(1,3),(2,3),(3,3),(4,3)] bF 0 40 [vO,vO,vO,vO,vO] bT bF 0 bT,
 rr 134 qy12 5 bT [(0,3),(1,3),(2,3),(3,3),(4,3)] bF 0 40 [vO,vO,vO,vO,vO] bT bF 0 bT,
 rr 135 qy16 6 bT [(0,31),(1,3),(2,3),(3,31),(4,4),(5,3)] bF 0 80 [.slice none 0 0,vO,vO,.slice none 0 0,.bool false,vO] bF bF 0 bF,
 rr 136 qy16 6 bT [(0,31),(1,3),(2,3),(3,31),(4,4),(5,3)] bF 0 80 [.slice none 0 0,vO,vO,.slice none 0 0,.bool false,vO] bF bF 0 bF,
 {rr 137 qy30 1 bF [] bF 0 8 [.pointer none] bF bF 0 bF with pt:=true},
 rf 139,
 rf 140,
 rf 141,
 rf 142,
 rf 143,
 rr 144 qy5 3 bT [(0,3),(1,3),(2,4)] bF 0 24 [vO,vO,.bool false] bT bF 0 bT,
 rr 145 qy5 3 bT [(0,3),(1,3),(2,4)] bF 0 24 [vO,vO,.bool false] bT bF 0 bT,
 rf 146,
 rf 147,
 rf 148,
 rf 149,
 rf 150,
 rf 151,
 rf 152,
 rf 153,
 rf 154,
 rf 155,
 rf 156,
 rr 157 (.map .int .int) 1 bF [] bF 3 8 [.map none] bF bT 3 bF,
 rf 158,
 rf 159,
 rf 160,
 rf 161,
 rf 162,
 rf 163,
 rf 164,
 rf 165,
 rr 166 qy3 1 bF [] bT 31 24 [.slice none 0 0] bF bF 0 bF,
 rr 167 qy29 11 bT [(0,30),(8,31),(9,166),(10,31)] bF 0 216 [vO,.slice none 0 0,.slice none 0 0,.slice none 0 0,.slice none 0 0,vO,vO,.slice none 0 0,.slice none 0 0,.slice none 0 0,.slice none 0 0] bF bF 0 bF,
 rr 168 qy29 11 bT [(0,30),(8,31),(9,166),(10,31)] bF 0 216 [vO,.slice none 0 0,.slice none 0 0,.slice none 0 0,.slice none 0 0,vO,vO,.slice none 0 0,.slice none 0 0,.slice none 0 0,.slice none 0 0] bF bF 0 bF,
 rf 169,
 rf 170,
 rf 171,
 rf 172,
 rf 173,
 rf 174,
 rf 175,
 rf 176,
 rf 177,
 rf 178,
 rf 179,
 rf 180,
 rf 181,
 rr 182 .int 1 bF [] bF 0 8 [vO] bF bF 0 bT,
 rf 184,
 rf 185,
 rf 186,
 rf 187,
 rf 188,
 rr 189 (.uint .u32) 1 bF [] bF 0 4 [.int .u32 0] bF bF 0 bF,
 rf 190,
 rr 191 (.uint .u64) 1 bF [] bF 0 8 [.int .u64 0] bF bF 0 bF,
 {rr 192 qy24 1 bF [] bF 0 8 [.pointer none] bF bF 0 bF with pt:=true},
 rf 194,
 rr 195 (.uint .u64) 1 bF [] bF 0 8 [.int .u64 0] bF bF 0 bF,
 rf 196,
 rr 197 qy17 1 bF [] bF 134 8 [.map none] bF bT 199 bF,
 rr 198 qy1 2 bT [(0,3),(1,3)] bF 0 16 [vO,vO] bT bF 0 bT,
 rr 199 qy1 2 bT [(0,3),(1,3)] bF 0 16 [vO,vO] bT bF 0 bT,
 rf 200,
 rf 201,
 rf 202,
 rf 203,
 rf 204,
 rf 205,
 rf 206,
 rf 207,
 rf 208,
 rf 209,
 rf 210,
 rf 211,
 rf 212,
 rr 213 (.uint .u64) 1 bF [] bF 0 8 [.int .u64 0] bF bF 0 bF,
 rf 214,
 rf 215,
 rf 216,
 {rr 217 (.ptr .int) 1 bF [] bF 0 8 [.pointer none] bF bF 0 bF with pt:=true},
 rf 218,
 rr 219 qy23 12 bT [(0,25),(3,63),(9,145)] bF 0 128 [vO,.slice none 0 0,.slice none 0 0,vO,vO,vO,vO,vO,vO,vO,vO,.bool false] bF bF 0 bF,
 rr 220 qy23 12 bT [(0,25),(3,63),(9,145)] bF 0 128 [vO,.slice none 0 0,.slice none 0 0,vO,vO,vO,vO,vO,vO,vO,vO,.bool false] bF bF 0 bF,
 rf 221,
 rf 222,
 rf 223,
 rf 224,
 rf 225,
 rf 226,
 rf 227,
 rf 228,
 rf 229,
 rf 230,
 {rr 231 qy2 1 bF [] bF 0 8 [.pointer none] bF bF 0 bF with pt:=true},
 rf 233,
 rf 234,
 rf 235,
 rf 236,
 rf 237,
 rf 238,
 rf 239,
 rf 240,
 rf 241,
 rf 242,
 rf 243,
 rf 244,
 rf 245,
 rf 246,
 rf 247,
 rf 248,
 rf 249,
 rf 251,
 rf 252,
 rf 253,
 rf 254,
 rf 256,
 rf 258,
 rf 259,
 rf 260,
 rf 261,
 rf 262,
 rf 263,
 rf 264,
 rf 265,
 rf 266,
 rf 267,
 rr 271 .unit 0 bT [(0,270)] bF 0 0 [] bF bF 0 bF,
 rr 272 .unit 0 bT [(0,270)] bF 0 0 [] bF bF 0 bF,
 rr 273 (.uint .u8) 1 bF [] bF 0 1 [.int .u8 0] bF bF 0 bF,
 rr 274 (.uint .u8) 1 bF [] bF 0 1 [.int .u8 0] bF bF 0 bF,
 rf 275,
 {rr 276 qy0 1 bF [] bF 0 8 [.pointer none] bF bF 0 bF with pt:=true},
 rr 277 (.uint .i32) 1 bF [] bF 0 4 [.int .i32 0] bF bF 0 bF,
 rr 278 (.uint .i32) 1 bF [] bF 0 4 [.int .i32 0] bF bF 0 bF,
 rr 279 .unit 11 bT [(0,12),(1,12),(2,189),(3,273),(4,5),(5,5),(6,274),(7,275),(8,276),(9,277),(10,278)] bF 0 48 [.int .u64 0,.int .u64 0,.int .u32 0,.int .u8 0,.int .u8 0,.int .u8 0,.int .u8 0,.nilFunc,.pointer none,.int .i32 0,.int .i32 0] bF bF 0 bF,
 rr 280 .unit 11 bT [(0,12),(1,12),(2,189),(3,273),(4,5),(5,5),(6,274),(7,275),(8,276),(9,277),(10,278)] bF 0 48 [.int .u64 0,.int .u64 0,.int .u32 0,.int .u8 0,.int .u8 0,.int .u8 0,.int .u8 0,.nilFunc,.pointer none,.int .i32 0,.int .i32 0] bF bF 0 bF,
 rf 281,
 rf 283]
def strs:List Nat:=[9,10,11]
noncomputable abbrev PR:Program:=Tryz.prog
theorem Z6:ti.all (jfF PR)=true:=by kernel_rfl
def jc2 (P:Program) (k:Nat):Bool:=match P.underlying k with|some .string=>true|_=>false
theorem WP {P:Program} {l:List Nat} (a:l.all (jc2 P)=true) (T:Nat) (h:cw l T=true):P.underlying T=some .string:=by
 have:=jV.1 a T ((yD _ _).1 h);unfold jc2 at this
 split at this
 assumption
 cases this
theorem jc3:strs.all (jc2 PR)=true:=by kernel_rfl
theorem RR:∀T,cw strs T=true->PR.underlying T=some .string:=WP jc3
theorem mixed:PR.follows .mixedOrders=true:=by kernel_rfl
def jf1 (n:Nat) (fs:List (Nat×w4)):Ctx:=⟨n,ti,fs,fun _ _ _ _=>none,strs,false⟩
def ctx (n:Nat) (fs:List (Nat×w4)) (os:List (Nat×vq)):Ctx:=⟨n,ti,fs,jfV (jf1 n fs) os,strs,false⟩
def oG:List (Nat×w4)->Prop
 |[]=>True
 |p::r=>(p.2.own=false->w9 PR p.1 p.2)/\oG r
def dX:List (Nat×vq)->Prop
 |[]=>True
 |p::r=>ax PR p.1 p.2/\dX r
theorem fD:∀{l:List (Nat×w4)},oG l->∀f s,wS l f=some s->s.own=false->w9 PR f s
 |[],_,f,s,h,_=>by simp[wS] at h
 | (j,x)::r,hk,f,s,h,ho=>by
  simp only[wS] at h
  cases a:Nat.beq j f with
  |true=>rw[a] at h;simp at h;subst h;have:=jb a;subst this;exact hk.1 ho
  |false=>rw[a] at h;exact fD hk.2 f s h ho
theorem ri:∀{l:List (Nat×vq)},dX l->∀f s,wS l f=some s->ax PR f s
 |[],_,f,s,h=>by simp[wS] at h
 | (j,x)::r,hk,f,s,h=>by
  simp only[wS] at h
  cases a:Nat.beq j f with
  |true=>rw[a] at h;simp at h;subst h;have:=jb a;subst this;exact hk.1
  |false=>rw[a] at h;exact ri hk.2 f s h
theorem WQ {n:Nat} {fs:List (Nat×w4)} (h:oG fs):(jf1 n fs).ok PR:=
 ⟨Ry Z6,fD h,RR,rfl,fun _ _ _ _ _ a=>by cases a⟩
theorem pm {n:Nat} {fs:List (Nat×w4)} {os:List (Nat×vq)} (h:oG fs) (b:dX os):(ctx n fs os).ok PR:=
 ⟨Ry Z6,fD h,RR,rfl,fun _ _ _ _ _ a=>Tc (WQ h) (ri b) a⟩
def gd (t:Ty) (σ:St) (s:Nat):t.Data:=match σ.get s with
 | .dat a d=>(match qS a t d with|some x=>x|none=>t.dflt)
 |_=>t.dflt
def gr (t:Ty) (σ:St) (o:Nat):List t.Data:=match σ.obj o with
 |some (.row _ a _ _ l)=>(match qS (.slice a) (.slice t) l with|some l'=>l'|none=>[])
 |_=>[]
def gfn (ps rs:List Ty) (σ:St) (s:Nat):(Ty.st ps).Data->(Ty.st rs).Data:=match σ.get s with
 | .fn a b _ F=>if h:a=ps/\b=rs then h.1▸h.2▸F else fun _=>(Ty.st rs).dflt
 |_=>fun _=>(Ty.st rs).dflt
def qq (fn:Func):Code:=match fn.body with|some c=>c|none=> .skip
theorem jgq {f:Nat} {fn:Func} {n:Nat} {fs:List (Nat×w4)} {os:List (Nat×vq)} {s:w4} {A:Ann} (h:jek (ctx n fs os) A fn (qq fn) s) (d:PR.funcs[f]? =some fn) (c:fn.body=some (qq fn)) (a:(fn.name== "runtime.NumGoroutine")=false)
 (e:fn.ntmps=n) (b:Nat.ble s.ps.length n=true) (hk:oG fs) (g:dX os):w9 PR f s:=
 jeG (pm hk g) mixed d c a e (jz b) A h
theorem jeS {f:Nat} {fn:Func} {n:Nat} {fs:List (Nat×w4)} {os:List (Nat×vq)} {s:vq} {A:Ann} (h:Wt (ctx n fs os) A fn (qq fn) s) (e:PR.funcs[f]? =some fn) (d:fn.body=some (qq fn)) (a:(fn.name== "runtime.NumGoroutine")=false)
 (g:fn.ntmps=n) (c:Nat.ble s.ps.length n=true) (b:aI (Ol s.ps 0)=true) (hk:oG fs) (i:dX os):ax PR f s:=
 jeJ (pm hk i) mixed e d a g (jz c) b A h
abbrev qF:Prop:=false=false
theorem tZ:True:=True.intro
theorem iZ6 {x:Int} (a: -9223372036854775808<=x:=by omega) (b:x<=9223372036854775807:=by omega):wl x:=⟨a,b⟩
theorem kcC {f:Nat} {s:w4} {fs:List (Nat×w4)} (h:w9 PR f s) (hk:oG fs):oG ((f,s)::fs):=⟨fun _=>h,hk⟩
theorem kcN:oG []:=trivial
theorem koC {f:Nat} {s:vq} {fs:List (Nat×vq)} (h:ax PR f s) (hk:dX fs):dX ((f,s)::fs):=⟨h,hk⟩
theorem koN:dX []:=trivial
theorem vb (A:Ann) {f:Nat} {fn:Func} {fs:List (Nat×w4)} {os:List (Nat×vq)} {s:w4} {P:Prop} (h:P) (e:PR.funcs[f]? =some fn) (hk:oG fs) (g:dX os) (d:jek (ctx fn.ntmps fs os) A fn (qq fn) s=P:=by kernel_rfl) (c:fn.body=some (qq fn):=by kernel_rfl) (a:(fn.name== "runtime.NumGoroutine")=false:=by kernel_rfl) (b:Nat.ble s.ps.length fn.ntmps=true:=by kernel_rfl):w9 PR f s:=jgq (d.mpr h) e c a rfl b hk g
theorem wT {f:Nat} {fn:Func} {fs:List (Nat×w4)} {os:List (Nat×vq)} {s:w4} {P:Prop} (h:P) (e:PR.funcs[f]? =some fn) (hk:oG fs) (g:dX os) (d:jek (ctx fn.ntmps fs os) (fun _=>none) fn (qq fn) s=P:=by kernel_rfl) (c:fn.body=some (qq fn):=by kernel_rfl) (a:(fn.name== "runtime.NumGoroutine")=false:=by kernel_rfl) (b:Nat.ble s.ps.length fn.ntmps=true:=by kernel_rfl):w9 PR f s:=jgq (d.mpr h) e c a rfl b hk g
theorem tD (A:Ann) {f:Nat} {fn:Func} {fs:List (Nat×w4)} {os:List (Nat×vq)} {s:vq} {P:Prop} (h:P) (g:PR.funcs[f]? =some fn) (hk:oG fs) (i:dX os) (e:Wt (ctx fn.ntmps fs os) A fn (qq fn) s=P:=by kernel_rfl) (d:fn.body=some (qq fn):=by kernel_rfl) (a:(fn.name== "runtime.NumGoroutine")=false:=by kernel_rfl) (c:Nat.ble s.ps.length fn.ntmps=true:=by kernel_rfl) (b:aI (Ol s.ps 0)=true:=by kernel_rfl):ax PR f s:=jeS (e.mpr h) g d a rfl c b hk i
theorem DA {f:Nat} {fn:Func} {fs:List (Nat×w4)} {os:List (Nat×vq)} {s:vq} {P:Prop} (h:P) (g:PR.funcs[f]? =some fn) (hk:oG fs) (i:dX os) (e:Wt (ctx fn.ntmps fs os) (fun _=>none) fn (qq fn) s=P:=by kernel_rfl) (d:fn.body=some (qq fn):=by kernel_rfl) (a:(fn.name== "runtime.NumGoroutine")=false:=by kernel_rfl) (c:Nat.ble s.ps.length fn.ntmps=true:=by kernel_rfl) (b:aI (Ol s.ps 0)=true:=by kernel_rfl):ax PR f s:=jeS (e.mpr h) g d a rfl c b hk i
def NA (n:Nat) (fs:List (Nat×w4)) (os:List (Nat×vq)) (cs:List (Nat×rc)) (vs:List (Nat×IF)):Ctx:=⟨n,ti,fs,jf0 (jf1 n fs) os cs vs,strs,false⟩
def WR:List (Nat×rc)->Prop
 |[]=>True
 |p::r=>K4 PR p.1 p.2/\WR r
def WS:List (Nat×IF)->Prop
 |[]=>True
 |p::r=>VOK PR p.1 p.2/\WS r
theorem DB:∀{l:List (Nat×rc)},WR l->∀f s,wS l f=some s->K4 PR f s
 |[],_,f,s,h=>by simp[wS] at h
 | (j,x)::r,hk,f,s,h=>by
  simp only[wS] at h
  cases a:Nat.beq j f with
  |true=>rw[a] at h;simp at h;subst h;have:=jb a;subst this;exact hk.1
  |false=>rw[a] at h;exact DB hk.2 f s h
theorem DC:∀{l:List (Nat×IF)},WS l->∀f s,wS l f=some s->VOK PR f s
 |[],_,f,s,h=>by simp[wS] at h
 | (j,x)::r,hk,f,s,h=>by
  simp only[wS] at h
  cases a:Nat.beq j f with
  |true=>rw[a] at h;simp at h;subst h;have:=jb a;subst this;exact hk.1
  |false=>rw[a] at h;exact DC hk.2 f s h
theorem OF {n:Nat} {fs:List (Nat×w4)} {os:List (Nat×vq)} {cs:List (Nat×rc)} {vs:List (Nat×IF)} (h:oG fs) (c:dX os) (a:WR cs) (d:WS vs):(NA n fs os cs vs).ok PR:=
 ⟨Ry Z6,fD h,RR,rfl,fun _ _ _ _ _ b=>Te (WQ h) (ri c) (DB a) (DC d) b⟩
theorem jeT {f:Nat} {fn:Func} {n:Nat} {fs:List (Nat×w4)} {os:List (Nat×vq)} {s:rc} {A:Ann} (h:WI (ctx n fs os) A fn (qq fn) s) (d:PR.funcs[f]? =some fn) (c:fn.body=some (qq fn)) (a:(fn.name== "runtime.NumGoroutine")=false)
 (e:fn.ntmps=n) (b:Nat.ble s.ps.length n=true) (hk:oG fs) (g:dX os):K4 PR f s:=
 jeP (pm hk g) mixed d c a e (jz b) A h
end Go.X
namespace Go.X
open U
namespace L
theorem qy {α:Type} [Inhabited α] {l:List α} {i:Nat} (h:i<l.length):nth l i=l[i]:=by
 unfold nth;simp[h]
theorem wQ {α:Type} [Inhabited α] {l:List α} {i:Nat} (h:i<l.length):l.take (i+1)=l.take i++[nth l i]:=by
 rw[qy h];exact List.take_succ_eq_append_getElem h
theorem wh {α:Type} [Inhabited α] {l:List α} {i:Nat} (h:i<l.length):nth l i∈l:=by
 rw[qy h];exact kR h
theorem mem_iff {α:Type} [Inhabited α] {l:List α} {x:α}:x∈l↔∃i,i<l.length/\nth l i=x:=by
 constructor;intro h;obtain⟨i,hi,e⟩:=List.getElem_of_mem h;exact⟨i,hi,by rw[qy hi,e]⟩;rintro⟨i,hi,rfl⟩;exact wh hi
theorem all_false {α:Type} [Inhabited α] {l:List α} {i:Nat} {p:α->Bool} (h:i<l.length) (a:p (nth l i)=false):l.all p=false:=by
 rw[zW];exact⟨nth l i,wh h,by simp[a]⟩
theorem GM {x:Int} (a: -9223372036854775808<=x) (b:x<=9223372036854775807):wl x:=⟨a,b⟩
end L
namespace BT
theorem Ci (k:Nat):(2:Int)^k=((2^k:Nat):Int):=by simp
theorem div_nat (n k:Nat):(n:Int)/2^k=((n/2^k:Nat):Int):=by simp
theorem pow63 {k:Nat} (h:k<=62):2^k<2^63:=Nat.pow_lt_pow_right (by decide) (by omega)
theorem ofInt_nat {n:Nat} (a:n<2^63):(BitVec.ofInt 64 (n:Int)).toNat=n:=by
 simp only[BitVec.toNat_ofInt];omega
theorem wrap_nat {n:Nat} (h:n<2^63):IntKind.i64.wrap (n:Int)=(n:Int):=by
 unfold IntKind.wrap;simp[IntKind.signed,IntKind.bits];omega
theorem wrapU_nat {n:Nat} (h:n<2^63):IntKind.u64.wrap (n:Int)=(n:Int):=by
 unfold IntKind.wrap;simp[IntKind.signed,IntKind.bits];omega
theorem band_nat {a b:Nat} (c:a<2^63) (d:b<2^63):iA (a:Int) (b:Int)=((a&&&b:Nat):Int):=by
 unfold iA;rw[BitVec.toNat_and,ofInt_nat c,ofInt_nat d];exact wrap_nat (kG Nat.and_le_left c)
theorem uand_nat {a b:Nat} (c:a<2^63) (d:b<2^63):gZ (a:Int) (b:Int)=((a&&&b:Nat):Int):=by
 unfold gZ;rw[BitVec.toNat_and,ofInt_nat c,ofInt_nat d];exact wrapU_nat (kG Nat.and_le_left c)
theorem bor_nat {a b:Nat} (c:a<2^63) (d:b<2^63):bor (a:Int) (b:Int)=((a|||b:Nat):Int):=by
 unfold bor;rw[BitVec.toNat_or,ofInt_nat c,ofInt_nat d,wrap_nat (kw c d)]
def qm (s:Int):Prop:=0<=s/\s<2^62
def has (s:Int) (p:Nat):Bool:=s.toNat.testBit p
theorem nat_of {s:Int} (h:qm s):∃n:Nat,s=(n:Int)/\n<2^62:=⟨s.toNat,by unfold qm at h;omega,by unfold qm at h;omega⟩
theorem lt63 {n:Nat} (h:n<2^62):n<2^63:=by omega
theorem has_shr {s:Int} (h:qm s) (p:Nat):decide (iA (s/2^p) 1=1)=has s p:=by
 obtain⟨n,rfl,b⟩:=nat_of h;unfold has;rw[jw,div_nat];have a:n/2^p<2^63:=kG (Nat.div_le_self _ _) (lt63 b);rw[show(1:Int)=((1:Nat):Int) from rfl,band_nat a (by decide),kH,kB];exact decide_eq_decide.2 ⟨fun h=>by omega,fun h=>by omega⟩
theorem has_ushr {s:Int} (h:qm s) (p:Nat):decide (gZ (s/2^p) 1=1)=has s p:=by
 obtain⟨n,rfl,b⟩:=nat_of h;unfold has;rw[jw,div_nat];have a:n/2^p<2^63:=kG (Nat.div_le_self _ _) (lt63 b);rw[show(1:Int)=((1:Nat):Int) from rfl,uand_nat a (by decide),kH,kB];exact decide_eq_decide.2 ⟨fun h=>by omega,fun h=>by omega⟩
theorem bit_num {s:Int} (h:qm s) (p:Nat):iA (s/2^p) 1=if has s p=true then 1 else 0:=by
 obtain⟨n,rfl,b⟩:=nat_of h;unfold has;rw[jw,div_nat];have a:n/2^p<2^63:=kG (Nat.div_le_self _ _) (lt63 b);rw[show(1:Int)=((1:Nat):Int) from rfl,band_nat a (by decide),kH,kB]
 split
 rename_i h;have:=ja h;omega;rename_i h;have:¬(n/2^p%2=1):=fun e=>h (jG e);omega
theorem uL (p:Nat):has 0 p=false:=by unfold has;simp
theorem Cj (k p:Nat):has ((2:Int)^k) p=decide (k=p):=by
 unfold has;rw[Ci,jw,Nat.testBit_two_pow]
theorem has_bor {a b:Int} (c:qm a) (d:qm b) (p:Nat):has (bor a b) p=(has a p||has b p):=by
 obtain⟨n,rfl,f⟩:=nat_of c;obtain⟨m,rfl,e⟩:=nat_of d;unfold has;rw[bor_nat (lt63 f) (lt63 e)];simp only[jw,k8]
theorem bor_set {a b:Int} (e:qm a) (f:qm b):qm (bor a b):=by
 obtain⟨n,rfl,d⟩:=nat_of e;obtain⟨m,rfl,c⟩:=nat_of f;rw[bor_nat (lt63 d) (lt63 c)];have:n|||m<2^62:=kw d c;unfold qm;omega
theorem Ff:qm 0:=by unfold qm;omega
theorem lC {k:Nat} (h:k<=61):qm ((2:Int)^k):=by
 rw[Ci];have:2^k<2^62:=Nat.pow_lt_pow_right (by decide) (by omega);obtain⟨q,a⟩:∃q,q=2^k:=⟨_,rfl⟩;rw[<-a] at this⊢;unfold qm;omega
theorem ext {a b:Int} (c:qm a) (d:qm b) (h:∀p,has a p=has b p):a=b:=by
 obtain⟨n,rfl,f⟩:=nat_of c;obtain⟨m,rfl,e⟩:=nat_of d;have:n=m:=kg (fun i=>by have:=h i;unfold has at this;simpa using this);rw[this]
theorem has_lt {s:Int} {k:Nat} (c:0<=s) (h:s<2^k) {p:Nat} (b:has s p=true):p<k:=by
 obtain⟨n,rfl⟩:∃n:Nat,s=(n:Int):=⟨s.toNat,by omega⟩;rw[Ci] at h;unfold has at b;rw[jw] at b;have d:=Nat.ge_two_pow_of_testBit b;rcases Nat.lt_or_ge p k with a|a;exact a;have:=Nat.pow_le_pow_right (n:=2) (by decide) a;omega
theorem lt_of_has {s:Int} {k:Nat} (a:qm s) (h:∀p,has s p=true->p<k):s<2^k:=by
 obtain⟨n,rfl,b⟩:=nat_of a;rw[Ci];have:n<2^k:=Nat.lt_pow_two_of_testBit n (fun i hi=>by
  cases e:n.testBit i with
  |false=>rfl
  |true=>have:=h i (by unfold has;simpa using e);omega)
 omega
theorem or_two {n p:Nat} (h:n.testBit p=false):n+2^p=n|||2^p:=by
 have f:n=2^(p+1)*(n/2^(p+1))+n%2^(p+1):=(Nat.div_add_mod _ _).symm;have c:n%2^(p+1)<2^p:=by
  have b:n%2^(p+1)<2^(p+1):=Nat.mod_lt _ (Nat.pow_pos (by decide));rcases Nat.lt_or_ge (n%2^(p+1)) (2^p) with a|a
  .exact a
  .exfalso;have:(n%2^(p+1)).testBit p=true:=Nat.testBit_of_two_pow_le_and_two_pow_add_one_gt a b;rw[Nat.testBit_mod_two_pow,h] at this;simp at this
 apply kg;intro i;rw[k8,Nat.testBit_two_pow];have e:n+2^p=2^(p+1)*(n/2^(p+1))+(2^p+n%2^(p+1)):=(by omega);have g:2^p+n%2^(p+1)<2^(p+1):=zG (Nat.add_lt_add_left c _) (by rw[Nat.pow_succ];omega);rw[e,kP _ g]
 conv=>rhs;rw[f,kP _ (Nat.mod_lt _ (Nat.pow_pos (by decide)))]
 have e2:2^p+n%2^(p+1)=2^p*1+n%2^(p+1):=(by omega);by_cases hi:i<p+1
 .rw[je hi,je hi,e2,kP _ c];by_cases d:i<p
  .rw[je d,zp (by omega),kS]
  .have:i=p:=(by omega);subst this;rw[jd d,Nat.sub_self,jG rfl,Bool.or_true];simp
 .rw[jd hi,jd hi,zp (by omega),kS]
theorem add_two {s:Int} (b:qm s) {p:Nat} (c:p<=61) (h:has s p=false):s+2^p=bor s (2^p):=by
 obtain⟨n,rfl,a⟩:=nat_of b;rw[Ci,bor_nat (lt63 a) (pow63 (by omega))];unfold has at h;rw[jw] at h;rw[<-or_two h];omega
def size (s:Int):Int:=(((List.range 62).countP (fun p=>has s p):Nat):Int)
theorem size_zero:size 0=0:=by
 unfold size;have:(List.range 62).countP (fun p=>has 0 p)=0:=zZ.2 (fun p _=>by rw[uL];simp);rw[this];rfl
theorem uM (s:Int):0<=size s/\size s<=62:=by
 have:=List.countP_le_length (l:=List.range 62) (p:=fun p=>has s p);rw[zx] at this;unfold size;omega
theorem has_half {s:Int} (a:qm s) (p:Nat):has (s/2) p=has s (p+1):=by
 obtain⟨n,rfl,b⟩:=nat_of a;unfold has;have:((n:Int)/2).toNat=n/2:=(by omega);rw[this,jw,kC]
theorem size_half {s:Int} (d:qm s):size s=s%2+size (s/2):=by
 obtain⟨n,e,i⟩:=nat_of d;have b:has (s/2) 61=false:=by
  rw[has_half d];subst e;unfold has;rw[jw];exact Nat.testBit_lt_two_pow i
 have j:(List.range 62)=0::(List.range 61).map (·+1):=by
  rw[show(62:Nat)=61+1 from rfl,List.range_succ_eq_map]
 have c:(List.range 62)=List.range 61++[61]:=(by rw[show(62:Nat)=61+1 from rfl,j8]);have f:(has s 0=true)↔s%2=1:=by
  subst e;unfold has;rw[jw,Nat.testBit_zero];simp only[jp];omega
 have g:(List.range 62).countP (fun p=>has (s/2) p)=(List.range 61).countP (fun p=>has s (p+1)):=by
  rw[c,zL];simp only[kh,List.countP_nil,b];simp only[has_half d];simp
 unfold size;rw[g]
 conv=>lhs;rw[j]
 rw[kh,List.countP_map];have h:((fun p=>has s p)∘fun(x:Nat)=>x+1)=fun p=>has s (p+1):=rfl
 rw[h];by_cases a:has s 0=true
 .rw[je a];have:=f.1 a;omega
 .rw[jd a];have:¬s%2=1:=fun e=>a (f.2 e);omega
end BT
namespace BT
theorem uor_nat {a b:Nat} (c:a<2^63) (d:b<2^63):uor (a:Int) (b:Int)=((a|||b:Nat):Int):=by
 unfold uor;rw[BitVec.toNat_or,ofInt_nat c,ofInt_nat d,wrapU_nat (kw c d)]
theorem has_uor {a b:Int} (c:qm a) (d:qm b) (p:Nat):has (uor a b) p=(has a p||has b p):=by
 obtain⟨n,rfl,f⟩:=nat_of c;obtain⟨m,rfl,e⟩:=nat_of d;unfold has;rw[uor_nat (lt63 f) (lt63 e)];simp only[jw,k8]
theorem uor_set {a b:Int} (e:qm a) (f:qm b):qm (uor a b):=by
 obtain⟨n,rfl,d⟩:=nat_of e;obtain⟨m,rfl,c⟩:=nat_of f;rw[uor_nat (lt63 d) (lt63 c)];have:n|||m<2^62:=kw d c;unfold qm;omega
theorem pred_odd (k:Nat):(2*k+1)&&&(2*k+1-1)=2*k:=by
 apply kg;intro i;rw[Nat.testBit_and,Nat.add_sub_cancel];cases i with
 |zero=>simp
 |succ i=>
  rw[kC,kC];have:(2*k+1)/2=k:=(by omega);have a:(2*k)/2=k:=(by omega);rw[this,a,Bool.and_self]
theorem pred_even (k:Nat) (_:k≠0):(2*k)&&&(2*k-1)=2*(k&&&(k-1)):=by
 apply kg;intro i;rw[Nat.testBit_and];cases i with
 |zero=>simp
 |succ i=>
  rw[kC,kC,kC];have:(2*k)/2=k:=(by omega);have a:(2*k-1)/2=k-1:=(by omega);have b:(2*(k&&&(k-1)))/2=k&&&(k-1):=(by omega);rw[this,a,b,Nat.testBit_and]
theorem size_dbl {k:Nat} (h:k<2^61):size ((2*k:Nat):Int)=size (k:Int):=by
 rw[size_half (s:=((2*k:Nat):Int)) (by unfold qm;omega)];have a:((2*k:Nat):Int)%2=0:=(by omega);have b:((2*k:Nat):Int)/2=(k:Int):=(by omega);rw[a,b];omega
theorem size_odd {k:Nat} (h:k<2^61):size ((2*k+1:Nat):Int)=1+size (k:Int):=by
 rw[size_half (s:=((2*k+1:Nat):Int)) (by unfold qm;omega)];have a:((2*k+1:Nat):Int)%2=1:=(by omega);have b:((2*k+1:Nat):Int)/2=(k:Int):=(by omega);rw[a,b]
theorem pred_nat:∀(n:Nat),n≠0->n<2^62->(n&&&(n-1))<n/\size ((n&&&(n-1):Nat):Int)+1=size (n:Int)
 |n,b,d=>by
  rcases Nat.mod_two_eq_zero_or_one n with e|e
  obtain⟨k,rfl⟩:∃k,n=2*k:=⟨n/2,by omega⟩
  have hk:k≠0:=by omega
  obtain⟨c,a⟩:=pred_nat k hk (by omega)
  rw[pred_even k hk]
  exact⟨by omega,by rw[size_dbl (by omega),size_dbl (by omega)];exact a⟩
  obtain⟨k,rfl⟩:∃k,n=2*k+1:=⟨n/2,by omega⟩
  rw[pred_odd]
  exact⟨by omega,by rw[size_dbl (by omega),size_odd (by omega)];omega⟩
termination_by n=>n
theorem pred {s:Int} (d:qm s) (h:s≠0):qm (gZ s (s-1))/\gZ s (s-1)<s/\size (gZ s (s-1))+1=size s:=by
 obtain⟨n,rfl,a⟩:=nat_of d;have b:n≠0:=(by omega);have e:(n:Int)-1=((n-1:Nat):Int):=(by omega);rw[e,uand_nat (lt63 a) (by omega)];obtain⟨f,c⟩:=pred_nat n b a;exact⟨by unfold qm;omega,by omega,c⟩
end BT
namespace U
def ik {α:Type} (eq:α->α->Bool) (p:α):List α->List α
 |[]=>[]
 |y::r=>if eq y p=true then ik eq y r else y::ik eq y r
def ck {α:Type} (eq:α->α->Bool):List α->List α
 |[]=>[]
 |x::r=>x::ik eq x r
def jd5 {α:Type} (eq:α->α->Bool) (l:List α) (i:Nat):Prop:=1<=i/\i<=l.length/\ck eq (l.take i)=l.take i
def pw {α:Type} (eq:α->α->Bool) (l:List α) (n:Nat):Int:=((ck eq (l.take n)).length:Int)
def QQ {α:Type} (eq:α->α->Bool) (l:List α) (i k:Nat) (r:List α):Prop:=1<=k/\i+k<=l.length/\r.length=l.length/\ck eq (l.take (i+k))=r.take (ck eq (l.take (i+k))).length/\r.drop (i+k-1)=l.drop (i+k-1)/\(ck eq (l.take (i+k))).length<i+k
end U
namespace L
theorem nodup_len {α:Type}:∀(a b:List α),a.Nodup->(∀x∈a,x∈b)->a.length<=b.length
 |[],_,_,_=>by simp
 |x::a,b,hn,h=>by
  obtain⟨e,f,rfl⟩:=List.append_of_mem (h x (by simp))
  rw[zv] at hn
  have:=nodup_len a (e++f) hn.2 (fun y d=>by
   have:=h y (by simp[d])
   rw[jr,jk] at this
   rw[jr]
   rcases this with c|c|c
   exact .inl c
   subst c;exact absurd d hn.1
   exact .inr c)
  simp at this⊢
  omega
theorem pD {α:Type} [DecidableEq α]:∀{a b:List α},a.Nodup->b.Nodup->(∀n,n∈a↔n∈b)->a.Perm b
 |[],b,_,_,h=>by
  have:b=[]:=by
   cases b with
   |nil=>rfl
   |cons x r=>exact absurd ((h x).2 (by simp)) (by simp)
  rw[this]
 |x::r,b,ha,hb,h=>by
  have i:x∈b:=(h x).1 (by simp);have f:=List.perm_cons_erase i;refine(List.Perm.cons x (pD (zv.1 ha).2 (hb.erase x) (fun n=> ?_))).trans f.symm;rw[hb.mem_erase_iff];constructor;intro c;exact⟨fun e=>by subst e;exact(zv.1 ha).1 c,(h n).1 (jm _ c)⟩;rintro⟨d,c⟩;rcases jk.1 ((h n).2 c) with e|g;exact absurd e d;exact g
theorem nodup_inj {α β:Type} {f:α->β}:∀{l:List α},(l.map f).Nodup->∀{x y:α},x∈l->y∈l->f x=f y->x=y
 |[],_,_,_,h,_,_=>by simp at h
 |a::r,hn,x,y,hx,hy,e=>by
  simp only[zy,zv] at hn
  rcases jk.1 hx with rfl|c
  rcases jk.1 hy with rfl|b
  rfl
  exact absurd (jS.2 ⟨y,b,e.symm⟩) hn.1
  rcases jk.1 hy with rfl|b
  exact absurd (jS.2 ⟨x,c,e⟩) hn.1
  exact nodup_inj hn.2 c b e
theorem nth_take {α:Type} [Inhabited α] {l:List α} {i n:Nat} (h:i<n):nth (l.take n) i=nth l i:=by
 unfold nth;rw[zg,zg,jR h]
theorem nth_drop {α:Type} [Inhabited α] {l r:List α} {a n:Nat} (h:l.drop a=r.drop a) (b:a<=n):nth l n=nth r n:=by
 have e:=jD (fun x=>x[n-a]?) h;simp only[zi] at e;rw[show a+(n-a)=n by omega] at e;unfold nth;rw[zg,zg,e]
theorem nth_map {α β:Type} [Inhabited α] [Inhabited β] {f:α->β} {l:List α} {i:Nat} (h:i<l.length):nth (l.map f) i=f (nth l i):=by
 rw[qy (by simpa using h),qy h];simp
theorem gz {α:Type} [Inhabited α] {l:List α} {i j:Nat} {x:α} (h:i<l.length):nth (l.set i x) j=if i=j then x else nth l j:=by
 unfold nth;rw[zg,zg,ku]
 split
 rename_i e;subst e;simp[h];rfl
theorem bN {α:Type} [Inhabited α] {n i:Nat} {x:α} (h:i<n):nth (List.replicate n x) i=x:=by
 unfold nth;rw[zg,kE,je h];rfl
theorem ext_nth {α:Type} [Inhabited α] {a b:List α} (h:a.length=b.length) (d:∀i,i<a.length->nth a i=nth b i):a=b:=by
 apply List.ext_getElem h;intro i c e;rw[<-qy c,<-qy e];exact d i c
theorem range_map_nth {α:Type} [Inhabited α] (l:List α):(List.range l.length).map (nth l)=l:=by
 apply ext_nth;simp;intro i hi;rw[nth_map (by simpa using hi)];congr 1;rw[qy (by simpa using hi)];simp
section
variable {α:Type} [Inhabited α] {eq:α->α->Bool}
theorem compT_snoc (y:α):∀(r:List α) (p:α),ik eq p (r++[y])=ik eq p r++(if eq y (nth (p::r) r.length)=true then[] else[y])
 |[],p=>rfl
 |z::r,p=>by
  have e:nth (p::z::r) (z::r).length=nth (z::r) r.length:=rfl
  rw[e]
  simp only[j9,ik]
  split
  exact compT_snoc y r z
  rw[compT_snoc y r z];rfl
theorem comp_snoc (y:α) {l:List α} (h:l≠[]):ck eq (l++[y])=ck eq l++(if eq y (nth l (l.length-1))=true then[] else[y]):=by
 cases l with
 |nil=>exact absurd rfl h
 |cons x r=>
  show x::ik eq x (r++[y])=_;rw[compT_snoc];have:(x::r).length-1=r.length:=(by simp);rw[this];rfl
theorem comp_take {l:List α} {n:Nat} (b:1<=n) (a:n<l.length):ck eq (l.take (n+1))=ck eq (l.take n)++(if eq (nth l n) (nth l (n-1))=true then[] else[nth l n]):=by
 rw[L.wQ a,comp_snoc];have e:(l.take n).length-1=n-1:=(by rw[jZ];omega);rw[e,nth_take (by omega)];intro e;have:=jD List.length e;rw[jZ,zu] at this;omega
end
theorem comp_short {α:Type} {eq:α->α->Bool} {l:List α} (h:l.length<2):ck eq l=l:=by
 match l,h with
 |[],_=>rfl
 |[x],_=>rfl
theorem comp_len {α:Type} {eq:α->α->Bool} (l:List α):(ck eq l).length<=l.length:=by
 have:∀(r:List α) (p:α),(ik eq p r).length<=r.length:=by
  intro r
  induction r with
  |nil=>intro p;simp[ik]
  |cons y r a=>
   intro p;unfold ik
   split
   have:=a y;simp;omega;have:=a y;simp;omega
 cases l with
 |nil=>simp[ck]
 |cons x r=>have:=this r x;simp[ck];omega
theorem inv9_next {α:Type} [Inhabited α] {eq:α->α->Bool} {l r:List α} {i k:Nat} (hi:1<=i) (h:QQ eq l i k r) (g:i+k<l.length):
 (eq (nth r (i+k)) (nth r (i+k-1))=false->pw eq l (i+(k+1))=pw eq l (i+k)+1/\QQ eq l i (k+1) (r.set (pw eq l (i+k)).toNat (nth r (i+k))))/\
 (eq (nth r (i+k)) (nth r (i+k-1))=true->pw eq l (i+(k+1))=pw eq l (i+k)/\QQ eq l i (k+1) r):=by
 obtain⟨s,t,j,d,e,p⟩:=h;have o:nth r (i+k)=nth l (i+k):=nth_drop e (by omega);have e2:nth r (i+k-1)=nth l (i+k-1):=nth_drop e (by omega);have a:=comp_take (eq:=eq) (l:=l) (n:=i+k) (by omega) g;rw[show i+k+1=i+(k+1) by omega] at a;have m:r.drop (i+k)=l.drop (i+k):=by
  have:=jD (List.drop 1) e;rw[List.drop_drop,List.drop_drop,show i+k-1+1=i+k by omega] at this;exact this
 rw[o,e2];obtain⟨c,b⟩:∃c,c=ck eq (l.take (i+k)):=⟨_,rfl⟩;rw[<-b] at a d p;have q:(pw eq l (i+k))=(c.length:Int):=(by unfold pw;rw[<-b]);rw[q];refine⟨fun f=> ?_,fun f=> ?_⟩;rw[jd (by rw[f];simp)] at a;refine⟨by unfold pw;rw[a];simp,by omega,by omega,by simpa using j,?_,?_,?_⟩;rw[a];simp only[jw,jH,za,zu];rw[List.take_add_one,List.getElem?_set_self (by omega)];rw[List.take_set_of_le (by omega),<-d];rfl;rw[show i+(k+1)-1=i+k by omega];simp only[jw];rw[List.drop_set_of_lt (by omega)];exact m;rw[a];simp;omega;rw[je f,j6] at a;refine⟨by unfold pw;rw[a],by omega,by omega,j,?_,?_,?_⟩;rw[a];exact d;rw[show i+(k+1)-1=i+k by omega];exact m;rw[a];omega
theorem compT_sub {α:Type} {eq:α->α->Bool}:∀(r:List α) (p x:α),x∈ik eq p r->x∈r
 |[],_,_,h=>by simp[ik] at h
 |y::r,p,x,h=>by
  unfold ik at h
  split at h
  exact jm _ (compT_sub r y x h)
  rcases jk.1 h with rfl|h
  simp
  exact jm _ (compT_sub r y x h)
theorem comp_sub {α:Type} {eq:α->α->Bool} {l:List α} {x:α} (h:x∈ck eq l):x∈l:=by
 cases l with
 |nil=>simp[ck] at h
 |cons y r=>
  unfold ck at h;rcases jk.1 h with rfl|h;simp;exact jm _ (compT_sub r y x h)
theorem compT_mem {α:Type} [DecidableEq α]:∀(r:List α) (p x:α),x∈r->x=p\/x∈ik (fun a b=>decide (a=b)) p r
 |y::r,p,x,h=>by
  unfold ik
  rcases jk.1 h with rfl|h
  by_cases e:x=p
  exact .inl e
  rw[jd (by simpa using e)];right;simp
  rcases compT_mem r y x h with rfl|c
  by_cases e:x=p
  exact .inl e
  rw[jd (by simpa using e)];right;simp
  right
  split
  exact c
  exact jm _ c
theorem comp_mem {α:Type} [DecidableEq α] {l:List α} {x:α}:x∈ck (fun a b=>decide (a=b)) l↔x∈l:=by
 refine⟨comp_sub,fun h=> ?_⟩;cases l with
 |nil=>simp at h
 |cons y r=>
  unfold ck;rcases jk.1 h with rfl|h;simp;rcases compT_mem r y x h with rfl|c;simp;exact jm _ c
theorem comp_asc {α:Type} [DecidableEq α] {lt:α->α->Bool}:∀{l:List α},yq lt l->Tf lt l->(ck (fun a b=>decide (a=b)) l).Pairwise (fun a b=>lt a b=true):=by
 have i:∀(r:List α) (p:α),yq lt (p::r)->Tf lt (p::r)->(p::ik (fun a b=>decide (a=b)) p r).Pairwise (fun a b=>lt a b=true):=by
  intro r
  induction r with
  |nil=>intro p _ _;exact List.pairwise_singleton _ _
  |cons y r n=>
   intro p f j;have d:=zB.1 j;have k:yq lt (y::r):=f.sub (fun z c=>jm _ c);have hi:=n y k d.2;unfold ik;by_cases e:y=p;rw[je (by simpa using e)];subst e;exact hi;rw[jd (by simpa using e)];refine zB.2 ⟨fun z c=> ?_,hi⟩;have g:lt p y=true:=by
    cases h:lt p y with
    |true=>rfl
    |false=>exact absurd (f.total p y (by simp) (by simp) h (d.1 y (by simp))).symm e
   rcases jk.1 c with rfl|c;exact g;have m:=compT_sub r y z c;exact f.trans p y z (by simp) (by simp) (by simp[m]) g ((zB.1 hi).1 z c)
 intro l f j;cases l with
 |nil=>exact List.Pairwise.nil
 |cons p r=>exact i r p f j
theorem asc_nodup {α:Type} {lt:α->α->Bool} {l:List α} (hi:∀x,lt x x=false) (h:l.Pairwise (fun a b=>lt a b=true)):l.Nodup:=
 h.imp (fun{a b} h e=>by subst e;rw[hi] at h;cases h)
theorem filter_take {α:Type} [Inhabited α] {p:α->Bool} {l:List α} {i:Nat} (h:i<l.length):(l.take (i+1)).filter p=(l.take i).filter p++(if p (nth l i)=true then[nth l i] else[]):=by
 rw[wQ h,kj];congr 1;by_cases e:p (nth l i)=true<;>simp[e]
theorem yt {p:Nat->Bool} {n:Nat}:(List.range (n+1)).filter p=(List.range n).filter p++(if p n=true then[n] else[]):=by
 rw[j8,kj];congr 1;by_cases e:p n=true<;>simp[e]
end L
end Go.X
namespace Go.X
open U
abbrev tSp:Ty:= .st [.int,.int]
abbrev tPe:Ty:= .st [.slice .int,.int,.int,.slice .int,.bool,.int]
abbrev tLw:Ty:= .st [.int,.int,.bool]
abbrev tCr:Ty:= .st [.int,.slice tPe,.slice tLw]
abbrev tJb:Ty:= .st [.int,.int,.int,.int,.int,.int]
abbrev tBk:Ty:= .st [tJb,.int,.int,.int]
abbrev tSh:Ty:= .st [.int,.int,.int,.int,.int]
abbrev tDy:Ty:= .st [tCr,.slice (.slice tSp),.slice tBk,.int,.int,.slice tSh]
abbrev SpD:Type:=Int×Int×Unit
abbrev PeD:Type:=List Int×Int×Int×List Int×Bool×Int×Unit
abbrev LwD:Type:=Int×Int×Bool×Unit
abbrev CrD:Type:=Int×List PeD×List LwD×Unit
abbrev JbD:Type:=Int×Int×Int×Int×Int×Int×Unit
abbrev BkD:Type:=JbD×Int×Int×Int×Unit
abbrev ShD:Type:=Int×Int×Int×Int×Int×Unit
abbrev DyD:Type:=CrD×List (List SpD)×List BkD×Int×Int×List ShD×Unit
namespace U
def lo (s:SpD):Int:=s.1
def hi (s:SpD):Int:=s.2.1
def wa (n a b:Int):Bool:=decide (a<=n)&&decide (n<=b)
def lv (p:PeD):List Int:=p.1
def fd (p:PeD):Int:=p.2.1
def cl (p:PeD):Int:=p.2.2.1
def vw (p:PeD):List Int:=p.2.2.2.1
def jd6 (p:PeD):Bool:=p.2.2.2.2.1
def fe (p:PeD):Int:=p.2.2.2.2.2.1
def Vt (l:LwD):Int:=l.1
def jd7 (l:LwD):Int:=l.2.1
def jfM (l:LwD):Bool:=l.2.2.1
def la (c:CrD):Int:=c.1
def wj (c:CrD):List PeD:=c.2.1
def ga (c:CrD):List LwD:=c.2.2.1
def NB (j:JbD):Int:=j.1
def HT (j:JbD):Int:=j.2.1
def Zn (j:JbD):Int:=j.2.2.1
def QR (j:JbD):Int:=j.2.2.2.1
def ct (j:JbD):Int:=j.2.2.2.2.1
def jbp (j:JbD):Int:=j.2.2.2.2.2.1
def gg (b:BkD):JbD:=b.1
def Vi (b:BkD):Int:=b.2.1
def qh (b:BkD):Int:=b.2.2.1
def gH (b:BkD):Int:=b.2.2.2.1
def gM (s:ShD):Int:=s.1
def Fi (s:ShD):Int:=s.2.1
def Zb (s:ShD):Int:=s.2.2.1
def mo (s:ShD):Int:=s.2.2.2.1
def aL (s:ShD):Int:=s.2.2.2.2.1
def ww (d:DyD):CrD:=d.1
def qg (d:DyD):List (List SpD):=d.2.1
def wm (d:DyD):List BkD:=d.2.2.1
def BN (d:DyD):Int:=d.2.2.2.1
def jbq (d:DyD):Int:=d.2.2.2.2.1
def qi (d:DyD):List ShD:=d.2.2.2.2.2.1
def il (L:Int) (p:PeD):Bool:=decide (((lv p).length:Int)=L/\0<=fd p/\fd p<=255/\0<=cl p/\cl p<=255/\(vw p).length<=10/\0<=fe p/\fe p<=1000)&&((lv p).all (fun n=>wa n 0 5)&&(vw p).all (fun n=>wa n 0 99))
def im (l:LwD):Bool:=wa (Vt l) 1 5&&wa (jd7 l) 1 8
def wy (c:CrD):Bool:=decide (2<=la c/\la c<=5/\(wj c).length<=8/\(ga c).length=4)&&((wj c).all (il (la c))&&(ga c).all im)
def ql (c:CrD) (j:JbD):Bool:=decide (0<=NB j/\NB j<=la c-1/\0<=HT j/\HT j<=la c-1/\NB j≠HT j/\0<=Zn j/\Zn j<=99/\0<=QR j/\QR j<=7/\0<=ct j/\ct j<=3/\1<=jbp j/\jbp j<=8)
def vV (c:CrD) (j:JbD):Int:=if wy c=false then 30 else if ql c j=false then 31 else 0
def uC (s:SpD):Bool:=decide (0<=lo s/\lo s<=hi s/\hi s<=300)
def di (n:Nat) (r:List SpD):Bool:=decide (r.length=n)&&r.all uC
def nP (n:Nat) (b:BkD):Bool:=decide (0<=Vi b/\Vi b<=(n:Int)-1/\0<=qh b/\qh b<gH b/\gH b<=1440)
def nQ (nb a:Nat) (s:ShD):Bool:=decide (0<=gM s/\gM s<=99/\0<=Fi s/\Fi s<=9999/\1<=Zb s/\Zb s<=2/\0<=mo s/\mo s<=(nb:Int)-1/\0<=aL s/\aL s<=(a:Int)-1)
def qG (d:DyD):Bool:=decide ((wm d).length<=4/\1<=(qg d).length/\(qg d).length<=5/\0<=BN d/\BN d<=300/\0<=jbq d/\jbq d<=1440/\(qi d).length<=30)&&
 ((qg d).all (di (qg d).length)&&((wm d).all (nP (qg d).length)&&(qi d).all (nQ (wm d).length (wj (ww d)).length)))
def E6 (a b:ShD):Bool:=decide (gM a=gM b)&& !decide (a=b)
def Cg (l:List ShD) (i:Nat):Bool:=(l.take i).any (E6 (nth l i))
def aV (l:List ShD) (n:Nat):Bool:=(List.range n).any (Cg l)
def cu (l:List ShD):Bool:=aV l l.length
def J6 (d:DyD):Bool:=(wm d).all (fun b=>ql (ww d) (gg b))
def aA (d:DyD):Int:=if wy (ww d)=false then 30 else if J6 d=false then 31 else if qG d=false then 50 else if cu (qi d)=true then 51 else 0
def nR (l:List ShD) (i:Nat):Bool:= !((l.take i).any (fun x=>decide (x=nth l i)))
def dl (l:List ShD) (n m:Nat):List ShD:=((List.range n).filter (fun i=>decide (gM (nth l i)=(m:Int))&&nR l i)).map (nth l)
def ye (l:List ShD) (n:Nat):List ShD:=(List.range n).flatMap (dl l l.length)
def wg (l:List ShD):List ShD:=ye l 100
def dm (p:PeD) (a:Int):Bool:=(vw p).any (fun t=>decide (t=a))
def w7 (s n:Int):Bool:=decide (iA (s/2^n.toNat) 1=1)
def qP (c:CrD) (j:JbD) (p:Int):Bool:= !(dm (nth (wj c) p.toNat) (Zn j))&&w7 (fd (nth (wj c) p.toNat)) (QR j)&&w7 (cl (nth (wj c) p.toNat)) (ct j)
def bk (d:DyD) (b:Int):BkD:=nth (wm d) b.toNat
def QS (d:DyD) (a b:Int):Int:=hi (nth (nth (qg d) (Vi (bk d a)).toNat) (Vi (bk d b)).toNat)
def aJ (d:DyD) (a b:Int):Bool:=decide (qh (bk d a)<qh (bk d b)\/(qh (bk d a)=qh (bk d b)/\a<b))
def ca (d:DyD) (a b:Int):Int:=qh (bk d b)-gH (bk d a)-BN d-QS d a b
def qf (d:DyD) (a b:Int):Bool:=if aJ d b a=true then decide (0<=ca d b a) else decide (0<=ca d a b)
def J7 (d:DyD) (l:List Int):Int:=(l.map (fun b=>gH (bk d b)-qh (bk d b))).foldl (·+·) 0
def jcc (d:DyD) (l:List Int):Bool:=(List.range l.length).all (fun i=>(l.take i).all (fun b=>qf d (nth l i) b))
def gI (d:DyD) (p:Int) (l:List Int):Bool:=l.all (fun b=>qP (ww d) (gg (bk d b)) p)&&(jcc d l&&decide (J7 d l<=jbq d))
def vl (a b:ShD):Bool:=decide (Fi b<Fi a\/(Fi a=Fi b/\gM b<gM a))
def Ch (l:List ShD) (s:ShD):Bool:=decide (Zb s=1)&& !(l.any (fun t=>decide (mo t=mo s)&&decide (aL t=aL s)&&vl t s))
def jd8 (a b:ShD):Bool:=vl b a
def o7 (t:List Int) (p:Int) (n:Nat):List Int:=((List.range n).filter (fun b=>w7 (nth t b) p)).map (fun(b:Nat)=>(b:Int))
def on (t:List Int) (p:Int):List Int:=o7 t p t.length
def cM (d:DyD) (x:List Int×List Int) (s:ShD):List Int×List Int:=
 if gI d (aL s) (on x.1 (aL s)++[mo s])=true then(x.1.set (mo s).toNat (nth x.1 (mo s).toNat+2^(aL s).toNat),x.2) else(x.1,x.2++[gM s])
def lP (c:CrD) (t:Int) (d a b:Int):Bool:=(List.range (wj c).length).any (fun i=>w7 t (i:Int)&&decide (d<=nth (lv (nth (wj c) i)) a.toNat)&&decide (d<=nth (lv (nth (wj c) i)) b.toNat))
def dH (c:CrD) (j:JbD):LwD:=nth (ga c) (ct j).toNat
end U
inductive Rch (J:Nat->Nat->Bool) (n s:Nat):Nat->Prop where
 |base:Rch J n s s
 |step {a b:Nat}:Rch J n s a->b<n->J a b=true->Rch J n s b
theorem Rch.lt {J:Nat->Nat->Bool} {n s t:Nat} (a:s<n) (h:Rch J n s t):t<n:=by
 cases h with
 |base=>exact a
 |step _ h _=>exact h
theorem Rch.trans {J:Nat->Nat->Bool} {n s t u:Nat} (a:Rch J n s t) (b:Rch J n t u):Rch J n s u:=by
 induction b with
 |base=>exact a
 |step _ c d e=>exact .step e c d
theorem Rch.symm {J:Nat->Nat->Bool} {n s t:Nat} (c:∀a b,J a b=J b a) (f:s<n) (h:Rch J n s t):Rch J n t s:=by
 induction h with
 |base=>exact .base
 |step d i e g=>
  rename_i a b;have:Rch J n b a:= .step .base (d.lt f) (by rw[c];exact e);exact this.trans g
theorem Rch.closed {J:Nat->Nat->Bool} {n s t:Nat} {S:Nat->Prop} (i:s<n) (c:S s) (f:∀a b,a<n->S a->b<n->J a b=true->S b) (h:Rch J n s t):S t:=by
 induction h with
 |base=>exact c
 |step d e g j=>exact f _ _ (d.lt i) j e g
namespace U
def oB (J:Nat->Nat->Bool) (r a:Nat) (out:List Int) (b:Nat):List Int:=if nth out a=(r:Int)/\nth out b<0/\J a b=true then out.set b ((r:Int)+1) else out
def yQ (J:Nat->Nat->Bool) (r a:Nat) (out:List Int) (k:Nat):List Int:=(List.range k).foldl (oB J r a) out
def yk (J:Nat->Nat->Bool) (n r:Nat) (out:List Int) (k:Nat):List Int:=(List.range k).foldl (fun o a=>yQ J r a o n) out
def gw (n s:Nat):List Int:=(List.replicate n (-1:Int)).set s 0
def qT (J:Nat->Nat->Bool) (n s k:Nat):List Int:=(List.range k).foldl (fun o r=>yk J n r o n) (gw n s)
def uD (J:Nat->Nat->Bool) (q:Nat) (x:List Int×List Int) (b:Nat):List Int×List Int:=if nth x.1 b<0/\J q b=true then(x.1.set b (nth x.1 q+1),x.2++[(b:Int)]) else x
def uE (J:Nat->Nat->Bool) (q:Nat) (x:List Int×List Int) (k:Nat):List Int×List Int:=(List.range k).foldl (uD J q) x
def aW (J:Nat->Nat->Bool) (n:Nat) (x:List Int×List Int):List Int×List Int:=match x.2 with
 |[]=>x
 |q::_=>((uE J q.toNat x n).1,(uE J q.toNat x n).2.drop 1)
def bm (J:Nat->Nat->Bool) (n s:Nat):Nat->List Int×List Int
 |0=>(gw n s,[(s:Int)])
 |k+1=>aW J n (bm J n s k)
def jfv (J:Nat->Nat->Bool) (n s:Nat):List Int:=(bm J n s (n+1)).1
end U
theorem rj (n s:Nat):(gw n s).length=n:=by unfold gw;simp
theorem DD {n s x:Nat} (a:s<n) (b:x<n):nth (gw n s) x=if s=x then 0 else-1:=by
 unfold gw;rw[L.gz (by simpa using a),L.bN b]
structure Vr (J:Nat->Nat->Bool) (n s r a b:Nat) (out:List Int):Prop where
 len:out.length=n
 val:∀x,x<n->nth out x= -1\/(0<=nth out x/\nth out x<=(r:Int)+1)
 top:(a=0/\b=0)->∀x,x<n->nth out x<=(r:Int)
 zero:0<=nth out s
 rch:∀x,x<n->0<=nth out x->Rch J n s x
 lev:∀x,x<n->0<nth out x->∃y,y<n/\nth out y=nth out x-1
 cls:∀x y,x<n->y<n->0<=nth out x->(nth out x<(r:Int)\/(nth out x=(r:Int)/\(x<a\/(x=a/\y<b))))->J x y=true->0<=nth out y
theorem WT {J:Nat->Nat->Bool} {n s r a b:Nat} {out:List Int} (_:s<n) (t:a<n) (u:b<n) (h:Vr J n s r a b out):Vr J n s r a (b+1) (oB J r a out b):=by
 unfold oB
 split
 rename_i q;obtain⟨c1,c2,v⟩:=q;have p:b<out.length:=(by rw[h.len];exact u);have c:∀j,nth (out.set b ((r:Int)+1)) j=if b=j then(r:Int)+1 else nth out j:=fun j=>L.gz p
 have o:b≠a:=fun e=>by subst e;omega
 refine⟨by simpa using h.len,fun x g=> ?_,fun e=>by omega,?_,fun x g f=> ?_,fun x g f=> ?_,fun x y g k f d l=> ?_⟩;rw[c];split;right;omega;exact h.val x g;rw[c];split;omega;exact h.zero;rw[c] at f
 split at f
 rename_i e;subst e;exact .step (h.rch a t (by omega)) u v;exact h.rch x g f;rw[c] at f⊢
 split at f
 rename_i e;subst e;rw[je rfl];exact⟨a,t,by rw[c,jd o];omega⟩;rename_i e;rw[jd e];obtain⟨y,k,e2⟩:=h.lev x g f;refine⟨y,k,?_⟩;rw[c,jd (fun e=>by subst e;omega)];exact e2;rw[c] at f d⊢
 split
 omega;rename_i z
 split at f
 rename_i e;rw[je e] at d;omega;rename_i e;rw[jd e] at d;refine h.cls x y g k f ?_ l;rcases d with d|⟨d,i|⟨i,w⟩⟩;exact .inl d;exact .inr ⟨d,.inl i⟩;exact .inr ⟨d,.inr ⟨i,by omega⟩⟩;rename_i q;refine⟨h.len,h.val,fun e=>by omega,h.zero,h.rch,h.lev,fun x y g k f d l=> ?_⟩;rcases d with d|⟨d,i|⟨i,w⟩⟩;exact h.cls x y g k f (.inl d) l;exact h.cls x y g k f (.inr ⟨d,.inl i⟩) l;by_cases e:y=b;subst e;subst i;rcases Int.lt_or_le (nth out y) 0 with m|m;exact absurd ⟨d,m,l⟩ q;exact m;exact h.cls x y g k f (.inr ⟨d,.inr ⟨i,by omega⟩⟩) l
theorem jbO {J:Nat->Nat->Bool} {n s r a:Nat} {out:List Int} (c:s<n) (b:a<n) (h:Vr J n s r a 0 out):∀k,k<=n->Vr J n s r a k (yQ J r a out k)
 |0,_=>h
 |k+1,hk=>by
  have:=WT c b (show k<n by omega) (jbO c b h k (by omega))
  unfold yQ at this⊢
  rw[j8,jO];exact this
theorem jc4 {J:Nat->Nat->Bool} {n s r a:Nat} {out:List Int} (_:0<n) (h:Vr J n s r a n out):Vr J n s r (a+1) 0 out:=by
 refine⟨h.len,h.val,fun e=>by omega,h.zero,h.rch,h.lev,fun x y i c d b g=>h.cls x y i c d ?_ g⟩;rcases b with b|⟨b,f|⟨f,j⟩⟩;exact .inl b;by_cases e:x=a;exact .inr ⟨b,.inr ⟨e,c⟩⟩;exact .inr ⟨b,.inl (by omega)⟩;omega
theorem jbP {J:Nat->Nat->Bool} {n s r:Nat} {out:List Int} (a:s<n) (h:Vr J n s r 0 0 out):∀k,k<=n->Vr J n s r k 0 (yk J n r out k)
 |0,_=>h
 |k+1,hk=>by
  have:=jc4 (by omega) (jbO a (show k<n by omega) (jbP a h k (by omega)) n (jj _))
  unfold yk at this⊢
  rw[j8,jO];exact this
theorem jc5 {J:Nat->Nat->Bool} {n s r:Nat} {out:List Int} (h:Vr J n s r n 0 out):Vr J n s (r+1) 0 0 out:=by
 refine⟨h.len,fun x a=> ?_,fun _ x a=> ?_,h.zero,h.rch,h.lev,fun x y a i d b g=>h.cls x y a i d ?_ g⟩;rcases h.val x a with e|⟨c,e2⟩;exact .inl e;exact .inr ⟨c,by omega⟩;rcases h.val x a with e|⟨c,e2⟩<;>omega
 rcases b with b|⟨b,f|⟨f,j⟩⟩;by_cases e:nth out x=(r:Int);exact .inr ⟨e,.inl a⟩;exact .inl (by omega);omega;omega
theorem jbQ {J:Nat->Nat->Bool} {n s:Nat} (c:s<n):∀k,Vr J n s k 0 0 (qT J n s k)
 |0=>by
  have hi:∀x,x<n->nth (qT J n s 0) x=if s=x then 0 else-1:=fun x a=>DD c a
  refine⟨rj n s,fun x a=> ?_,fun _ x a=> ?_,by rw[hi s c,je rfl];omega,fun x a b=> ?_,fun x a b=> ?_,fun x y a g b f d=> ?_⟩
  rw[hi x a];split<;>simp
  rw[hi x a];split<;>simp
  rw[hi x a] at b
  split at b
  rename_i e;subst e;exact .base
  omega
  rw[hi x a] at b;split at b<;>omega
  omega
 |k+1=>by
  have:=jc5 (jbP c (jbQ (J:=J) c k) n (jj _))
  unfold qT at this⊢
  rw[j8,jO];exact this
theorem WU {J:Nat->Nat->Bool} {n s r a b:Nat} {out:List Int} (h:Vr J n s r a b out):∀(k:Nat) x,x<n->nth out x=(k:Int)->∀j,j<=k->∃y,y<n/\nth out y=(j:Int)
 |0,x,c,e,j,d=>⟨x,c,by rw[e];omega⟩
 |k+1,x,c,e,j,d=>by
  by_cases f:j=k+1
  exact⟨x,c,by rw[e];omega⟩
  obtain⟨y,g,e2⟩:=h.lev x c (by omega)
  exact WU h k y g (by rw[e2];omega) j (by omega)
theorem jeU {J:Nat->Nat->Bool} {n s x:Nat} (o:s<n) (u:x<n):nth (qT J n s n) x<0↔¬Rch J n s x:=by
 have h:=jbQ (J:=J) o n;have i:∀y,y<n->nth (qT J n s n) y<(n:Int):=by
  intro y p;have c:=h.top ⟨rfl,rfl⟩ y p;rcases Int.lt_or_le (nth (qT J n s n) y) (n:Int) with l|l;exact l;exfalso;have e:nth (qT J n s n) y=(n:Int):=(by omega);have d:=WU h n y p e;have:=L.nodup_len ((List.range (n+1)).map (fun(j:Nat)=>(j:Int))) (qT J n s n) (List.Pairwise.map _ (fun a b f=>by intro e2;exact f (by omega)) List.nodup_range) (fun z v=>by
   obtain⟨j,g,rfl⟩:=jS.1 v;obtain⟨w,t,q⟩:=d j (by have:=jE.1 g;omega);rw[<-q];exact L.wh (by rw[h.len];exact t))
  rw[h.len] at this;simp at this;omega
 constructor;intro A k;have:=k.closed (S:=fun y=>0<=nth (qT J n s n) y) o h.zero (fun a b m c r g=>h.cls a b m r c (.inl (i a m)) g);have this:0<=nth (qT J n s n) x:=this;omega;intro k;rcases Int.lt_or_le (nth (qT J n s n) x) 0 with c|c;exact c;exact absurd (h.rch x u c) k
def La (out:List Int):Nat:=out.countP (fun z=>decide (z<0))
theorem IH:∀{out:List Int} {b:Nat} {v:Int},b<out.length->nth out b<0->0<=v->La (out.set b v)+1=La out
 |[],b,v,h,_,_=>by simp at h
 |z::r,0,v,_,a,h2=>by
  have a:z<0:=a
  unfold La
  rw[List.set_cons_zero,kh,kh,jd (by simpa using h2),je (by simpa using a)]
 |z::r,b+1,v,h,a,h2=>by
  have:=IH (out:=r) (b:=b) (v:=v) (by simpa using h) a h2
  unfold La at this⊢
  rw[List.set_cons_succ,kh,kh]
  omega
structure jf2 (J:Nat->Nat->Bool) (n s:Nat) (ex:Nat->Nat->Prop) (x:List Int×List Int):Prop where
 len:x.1.length=n
 low:∀y,y<n->-1<=nth x.1 y/\nth x.1 y<=(n:Int)*2
 zero:0<=nth x.1 s
 rch:∀y,y<n->0<=nth x.1 y->Rch J n s y
 que:∀q,q∈x.2->0<=q/\q<(n:Int)/\0<=nth x.1 q.toNat
 cls:∀y z,y<n->z<n->0<=nth x.1 y->(y:Int)∉x.2\/ex y z->J y z=true->0<=nth x.1 z
def OG (n:Nat) (x:List Int×List Int):Prop:=∀y,y<n->nth x.1 y+(La x.1:Int)<=(n:Int)-1
theorem Hu (J:Nat->Nat->Bool) (q:Nat) (x:List Int×List Int) (k:Nat):uE J q x (k+1)=uD J q (uE J q x k) k:=by
 unfold uE;rw[j8,jO];rfl
structure InI (J:Nat->Nat->Bool) (n s q k:Nat) (x0 x:List Int×List Int):Prop where
 i:jf2 J n s (fun y z=>y=q/\z<k) x
 le:OG n x
 mu:La x.1+x.2.length=La x0.1+x0.2.length
 pre:∃l,x.2=x0.2++l
 keep:∀y,y<n->0<=nth x0.1 y->nth x.1 y=nth x0.1 y
theorem jc6 {J:Nat->Nat->Bool} {n s q k:Nat} {x0 x:List Int×List Int} (M:s<n) (p:q<n) (w:0<=nth x0.1 q) (hk:k<n) (h:InI J n s q k x0 x):InI J n s q (k+1) x0 (uD J q x k):=by
 have G:nth x.1 q=nth x0.1 q:=h.keep q p w;unfold uD
 split
 rename_i t;obtain⟨c1,c2⟩:=t;have m:k<x.1.length:=(by rw[h.i.len];exact hk);have b:∀j,nth (x.1.set k (nth x.1 q+1)) j=if k=j then nth x.1 q+1 else nth x.1 j:=fun j=>L.gz m
 have E:=IH (v:=nth x.1 q+1) m c1 (by omega);have F:=h.le q p;have u:k≠q:=fun e=>by subst e;omega
 obtain⟨l,C⟩:=h.pre;refine⟨⟨by simpa using h.i.len,fun y d=> ?_,?_,fun y d c=> ?_,fun z f=> ?_,fun y z d f c a g=> ?_⟩,fun y d=> ?_,?_,⟨l++[(k:Int)],by simp only[C,jN]⟩,fun y d c=> ?_⟩;simp only;rw[b];split;have:=h.i.low q p;omega;exact h.i.low y d;simp only;rw[b];split;omega;exact h.i.zero;simp only at c⊢;rw[b] at c
 split at c
 rename_i e;subst e;exact .step (h.i.rch q p (by omega)) hk c2;exact h.i.rch y d c;simp only at f⊢;rcases jr.1 f with f|f;obtain⟨H,I,K⟩:=h.i.que z f;refine⟨H,I,?_⟩;rw[b];split;omega;exact K;simp at f;subst f;refine⟨by omega,by omega,?_⟩;rw[jw,b,je rfl];omega;simp only at c a⊢;rw[b] at c⊢
 split
 omega;rename_i B;by_cases e:k=y;subst e;rcases a with a|⟨a,_⟩;exact absurd (jg _ (by simp)) a;exact absurd a u;rw[jd e] at c;refine h.i.cls y z d f c ?_ g;rcases a with a|⟨o,A⟩;exact .inl (fun D=>a (jh _ D));exact .inr ⟨o,by omega⟩;simp only;rw[b];split;omega;have:=h.le y d;omega;have:=h.mu;simp only[jH,za,zu];omega;have:=h.keep y d c;simp only;rw[b,jd (fun e=>by subst e;omega)];exact this;rename_i t;refine⟨⟨h.i.len,h.i.low,h.i.zero,h.i.rch,h.i.que,fun y z d f c a g=> ?_⟩,h.le,h.mu,h.pre,h.keep⟩;rcases a with a|⟨o,A⟩;exact h.i.cls y z d f c (.inl a) g;by_cases e:z=k;subst e;subst o;rcases Int.lt_or_le (nth x.1 z) 0 with r|r;exact absurd ⟨r,g⟩ t;exact r;exact h.i.cls y z d f c (.inr ⟨o,by omega⟩) g
theorem WV {J:Nat->Nat->Bool} {n s q:Nat} {x:List Int×List Int} (e:s<n) (d:q<n) (b:0<=nth x.1 q) (hi:jf2 J n s (fun _ _=>False) x) (a:OG n x):∀k,k<=n->InI J n s q k x (uE J q x k)
 |0,_=>⟨⟨hi.len,hi.low,hi.zero,hi.rch,hi.que,fun y z i j f c g=>hi.cls y z i j f (by rcases c with h|⟨_,h⟩;exact .inl h;omega) g⟩,a,rfl,⟨[],by simp[uE]⟩,fun _ _ _=>rfl⟩
 |k+1,hk=>by rw[Hu];exact jc6 e d b (by omega) (WV e d b hi a k (by omega))
structure jen (J:Nat->Nat->Bool) (n s:Nat) (x:List Int×List Int):Prop where
 i:jf2 J n s (fun _ _=>False) x
 le:OG n x
theorem Z7 {J:Nat->Nat->Bool} {n s:Nat} {x:List Int×List Int} (k:s<n) (h:jen J n s x):jen J n s (aW J n x)/\(x.2≠[]->La (aW J n x).1+(aW J n x).2.length+1=La x.1+x.2.length):=by
 obtain⟨st,o⟩:=x;cases o with
 |nil=>exact⟨h,fun h=>absurd rfl h⟩
 |cons q r=>
  obtain⟨p,t,m⟩:=h.i.que q (by simp);have hi:=WV k (q:=q.toNat) (by omega) m h.i h.le n (jj _);obtain⟨l,d⟩:=hi.pre;have e2:(aW J n (st,q::r))=((uE J q.toNat (st,q::r) n).1,r++l):=by
   show((uE J q.toNat (st,q::r) n).1,(uE J q.toNat (st,q::r) n).2.drop 1)=_;rw[d];rfl
  rw[e2];have b:=hi.mu;rw[d] at b;refine⟨⟨⟨hi.i.len,hi.i.low,hi.i.zero,hi.i.rch,fun z c=>hi.i.que z (by rw[d];simp only at c⊢;exact jm _ c),fun y z j c f a g=> ?_⟩,hi.le⟩,fun _=> ?_⟩;rcases a with a|a;by_cases e:y=q.toNat;exact hi.i.cls y z j c f (.inr ⟨e,c⟩) g;refine hi.i.cls y z j c f (.inl ?_) g;rw[d];intro b;rcases jk.1 b with e2|b;omega;exact a b;exact a.elim;simp only[j9,za] at b⊢;omega
theorem RT {J:Nat->Nat->Bool} {n s:Nat} (f:s<n):jen J n s (bm J n s 0)/\La (bm J n s 0).1+(bm J n s 0).2.length=n:=by
 have hi:∀x,x<n->nth (gw n s) x=if s=x then 0 else-1:=fun x i=>DD f i
 have h:La (gw n s)+1=n:=by
  have:=IH (out:=List.replicate n (-1:Int)) (b:=s) (v:=0) (by simpa using f) (by rw[L.bN f];decide) (by decide);unfold gw;rw[this];unfold La;rw[List.countP_replicate];simp
 refine⟨⟨⟨rj n s,fun y d=> ?_,?_,fun y d c=> ?_,fun q g=> ?_,fun y z d k c a j=> ?_⟩,fun y d=> ?_⟩,?_⟩;show-1<=nth (gw n s) y/\_;rw[show nth (bm J n s 0).1 y=_ from hi y d,hi y d];split<;>omega
 show 0<=nth (gw n s) s;rw[hi s f,je rfl];omega;have c:0<=nth (gw n s) y:=c;rw[hi y d] at c
 split at c
 rename_i e;subst e;exact .base;omega;have g:q∈[(s:Int)]:=g;simp at g;subst g;refine⟨by omega,by omega,?_⟩;show 0<=nth (gw n s) (s:Int).toNat;rw[jw,hi s f,je rfl];omega;have c:0<=nth (gw n s) y:=c;rw[hi y d] at c
 split at c
 rename_i e;subst e;rcases a with a|a;exact absurd (show(s:Int)∈[(s:Int)] by simp) a;exact a.elim;omega;show nth (gw n s) y+(La (gw n s):Int)<=(n:Int)-1;rw[hi y d];split<;>omega
 show La (gw n s)+1=n;exact h
theorem DE {J:Nat->Nat->Bool} {n s:Nat} (b:s<n):∀k,jen J n s (bm J n s k)/\((bm J n s k).2=[]\/La (bm J n s k).1+(bm J n s k).2.length+k=n)
 |0=>⟨(RT b).1,.inr (RT b).2⟩
 |k+1=>by
  obtain⟨d,a⟩:=DE b k
  obtain⟨f,g⟩:=Z7 b d
  refine⟨f,?_⟩
  by_cases e:(bm J n s k).2=[]
  left
  show(aW J n (bm J n s k)).2=[]
  unfold aW
  split
  exact e
  rename_i c;rw[e] at c;cases c
  right
  have:=g e
  rcases a with a|a
  exact absurd a e
  show La (aW J n (bm J n s k)).1+(aW J n (bm J n s k)).2.length+(k+1)=n
  omega
theorem jc7 {J:Nat->Nat->Bool} {n s:Nat} (a:s<n):(bm J n s (n+1)).2=[]:=by
 rcases(DE (J:=J) a (n+1)).2 with h|h;exact h;omega
theorem Z8 {J:Nat->Nat->Bool} {n s k:Nat} (h:(bm J n s k).2=[]):∀m,k<=m->bm J n s m=bm J n s k:=by
 intro m c
 induction m with
 |zero=>have:k=0:=by omega
        subst this;rfl
 |succ m b=>
  by_cases e:k=m+1;rw[e];have e2:=b (by omega);show aW J n (bm J n s m)=_;rw[e2];unfold aW
  split
  rfl;rename_i a;rw[h] at a;cases a
theorem jeV {J:Nat->Nat->Bool} {n s x:Nat} (e:s<n) (l:x<n):nth (jfv J n s) x<0↔¬Rch J n s x:=by
 have h:=(DE (J:=J) e (n+1)).1;have j:=jc7 (J:=J) e;constructor;intro m d;have:=d.closed (S:=fun y=>0<=nth (jfv J n s) y) e h.i.zero (fun a b f c g k=>h.i.cls a b f g c (.inl (by rw[j];simp)) k);have this:0<=nth (jfv J n s) x:=this;omega;intro d;rcases Int.lt_or_le (nth (jfv J n s) x) 0 with c|c;exact c;exact absurd (h.i.rch x l c) d
theorem jc8 {J:Nat->Nat->Bool} {n a b:Nat} (e:∀x y,J x y=J y x) (c:a<n) (d:b<n):nth (qT J n a n) b<0↔nth (jfv J n b) a<0:=by
 rw[jeU c d,jeV d c];exact not_congr ⟨fun h=>h.symm e c,fun h=>h.symm e d⟩
namespace U
def gN {α:Type} (p:α->Bool) (l:List α):Int:=match l.findIdx? p with|some i=>(i:Int)|none=> -1
def wc {α:Type} (F:α×Unit->Bool×Unit) (g:α):Bool:=(F (g,())).1
end U
def gfb (t:Ty) (σ:St) (s:Nat):(Ty.st [t]).Data->(Ty.st [.bool]).Data:=gfn [t] [.bool] σ s
theorem yj:∀(l:List Prop) {k:Prop},wC l->k->asks l k
 |[],_,_,hk=>hk
 |_::r,_,h,hk=>⟨h.1,yj r h.2 hk⟩
theorem yI {α:Type} [Inhabited α] {l:List α} {p:α->Bool} {i:Nat} (h:i<l.length) (a:∀b:Nat,b<i->p (nth l b)=false) (c:p (nth l i)=true):gN p l=i:=by
 have:l.findIdx? p=some i:=by
  rw[z6];refine⟨h,by rw[<-L.qy h];exact c,fun j d=> ?_⟩;have:=a j d;rw[L.qy (by omega)] at this;simp[this]
 unfold gN;rw[this]
theorem vu {α:Type} [Inhabited α] {l:List α} {p:α->Bool} {i:Nat} (h:l.length<=i) (a:∀b:Nat,b<i->p (nth l b)=false):gN p l= -1:=by
 have:l.findIdx? p=none:=by
  rw[kx];intro x c;obtain⟨k,hk,rfl⟩:=L.mem_iff.1 c;exact a k (by omega)
 unfold gN;rw[this]
theorem i8 {α:Type} (p:α->Bool) (l:List α):decide (0<=gN p l)=l.any p:=by
 rw[j7];unfold gN;simp only[jp]
 split
 rename_i i e;rw[z6] at e;obtain⟨h,a,_⟩:=e;exact⟨fun _=>zc.2 ⟨_,kR h,a⟩,fun _=>by omega⟩;rename_i e;rw[kx] at e;refine⟨fun h=>by omega,fun h=> ?_⟩;obtain⟨x,b,a⟩:=zc.1 h;have:=e x b;exact absurd (a.symm.trans this) (by simp)
theorem tE {α:Type} (F:α×Unit->Bool×Unit) (l:List α):(!l.any (wc fun(x:α×Unit)=>(!wc F x.fst,())))=l.all (wc F):=by
 induction l with
 |nil=>rfl
 |cons a r b=>
  simp only[List.any_cons,List.all_cons,Bool.not_or,b];have:(!wc (fun(x:α×Unit)=>(!wc F x.fst,())) a)=wc F a:=by
   show(!(!wc F a))=_;rw[Bool.not_not]
  rw[this]
open Go.Proofs
namespace U
def uF (s n:Int):Bool:=decide (gZ (s/2^n.toNat) 1=1)
def jeq (b:Bool):Int:=if b=true then 1 else 0
def Nd (c:CrD) (f g:Int->Bool) (p:PeD):Bool:=((((((decide (((lv p).length:Int)=la c)&&(lv p).all f)&&wa (fd p) 0 255)&&wa (cl p) 0 255)&&decide (((vw p).length:Int)<=10))&&(vw p).all g)&&wa (fe p) 0 1000)
end U
def OH:w4:=⟨[.val .int,.val .int,.val .int],[.bool],false,fun _=>[],fun d=>(wa d.1 d.2.1 d.2.2.1,())⟩
def OI:Prop:=∀(d:Int×Int×Int×Unit),(decide (d.2.1<=d.1)&&decide (d.1<=d.2.2.1),())=(wa d.1 d.2.1 d.2.2.1,())
def mX:w4:=⟨[.val (.uint .u64),.val .int],[.bool],false,fun d=>[0<=d.2.1,d.2.1<=64],fun d=>(uF d.1 d.2.1,())⟩
def Lb:Prop:=∀(d:Int×Int×Unit),0<=d.2.1->d.2.1<=64->0<=d.2.1/\d.2.1<=64/\(decide (gZ (d.1/(2:Int)^d.2.1.toNat) (1:Int)=1),())=(uF d.1 d.2.1,())
def gV:w4:=⟨[.val (.uint .u64)],[.int],false,fun d=>[BT.qm d.1],fun d=>(BT.size d.1,())⟩
def II:Ann:=fun r=>match r with
 |1=>some fun σ=>{X:=Int×Int,sl:=fun x=>[(0,.dat (.uint .u64) x.1),(2,.dat .int x.2)],ob:=fun _=>[],inv:=fun x=>BT.qm x.1/\x.2+BT.size x.1=BT.size (gd (.uint .u64) σ 0),mu:=fun x=>x.1.toNat}
 |_=>none
def IJ:Prop:=∀(d:Int×Unit),BT.qm d.1->(∃(x:Int×Int),((d.1=x.1/\0=x.2/\True)/\True)/\BT.qm x.1/\x.2+BT.size x.1=BT.size d.1)/\∀(x:Int×Int),BT.qm x.1/\x.2+BT.size x.1=BT.size d.1->(decide (x.1≠0)=true->wl (x.2+1)/\0<=x.1-1/\x.1-1<=18446744073709551615/\∃(a:Int×Int),((gZ x.1 (x.1-1)=a.1/\x.2+1=a.2/\True)/\True)/\(BT.qm a.1/\a.2+BT.size a.1=BT.size d.1)/\a.1.toNat<x.1.toNat)/\(decide (x.1≠0)=false->(x.2,())=(BT.size d.1,()))
def Tg:w4:=⟨[.val .bool],[.int],false,fun _=>[],fun d=>(jeq d.1,())⟩
def Th:Prop:=∀(d:Bool×Unit),(d.1=true->((1:Int),())=(jeq d.1,()))/\(d.1=false->((0:Int),())=(jeq d.1,()))
def rk:w4:=⟨[.val (.slice .int),.fn [.int] [.bool]],[.int],false,fun d=>[∀g∈d.1,wC (d.2.1.pre (g,()))],fun d=>(gN (wc (α:=Int) d.2.1.F) d.1,())⟩
def rm:Ann:=fun r=>match r with
 |2=>some fun σ=>{X:=Nat,sl:=fun i=>[(8,.dat .int (i:Int))],ob:=fun _=>[],inv:=fun i=>i<=(gd (.slice .int) σ 0).length/\∀b:Nat,b<i->wc (gfb .int σ 1) (nth (gd (.slice .int) σ 0) b)=false,mu:=fun i=>(gd (.slice .int) σ 0).length-i}
 |_=>none
def ru:Prop:=∀(d:List Int×FnD [Ty.int] [Ty.bool]×Unit),(∀(g:Int),g∈d.1->wC (d.2.1.1 (g,())))->d.1.length<4611686018427387904->(∃(x:Nat),((0=(x:Int)/\True)/\True)/\x<=d.1.length/\∀(b:Nat),b<x->wc d.2.1.2 (nth d.1 b)=false)/\∀(x:Nat),(x<=d.1.length/\∀(b:Nat),b<x->wc d.2.1.2 (nth d.1 b)=false)->(decide ((x:Int)<d.1.length)=true->0<=(x:Int)/\(x:Int)<d.1.length/\asks (d.2.1.1 (nth d.1 (x:Int).toNat,())) (((d.2.1.2 (nth d.1 (x:Int).toNat,())).1=true->((x:Int),())=(gN (wc d.2.1.2) d.1,()))/\((d.2.1.2 (nth d.1 (x:Int).toNat,())).1=false->wl ((x:Int)+1)/\∃(a:Nat),(((x:Int)+1=(a:Int)/\True)/\True)/\(a<=d.1.length/\∀(b:Nat),b<a->wc d.2.1.2 (nth d.1 b)=false)/\d.1.length-a<d.1.length-x)))/\(decide ((x:Int)<d.1.length)=false->((-1:Int),())=(gN (wc d.2.1.2) d.1,()))
def lW:w4:=⟨[.val (.slice .int),.fn [.int] [.bool]],[.bool],false,fun d=>[∀g∈d.1,wC (d.2.1.pre (g,()))],fun d=>(d.1.any (wc (α:=Int) d.2.1.F),())⟩
def lX:Prop:=∀(d:List Int×FnD [Ty.int] [Ty.bool]×Unit),(∀(g:Int),g∈d.1->wC (d.2.1.1 (g,())))->(∀(g:Int),g∈d.1->wC (d.2.1.1 (g,())))/\(decide (0<=gN (wc d.2.1.2) d.1),())=(d.1.any (wc d.2.1.2),())
def rz:w4:=⟨[.val (.slice tLw),.fn [tLw] [.bool]],[.int],false,fun d=>[∀g∈d.1,wC (d.2.1.pre (g,()))],fun d=>(gN (wc (α:=LwD) d.2.1.F) d.1,())⟩
def rA:Ann:=fun r=>match r with
 |2=>some fun σ=>{X:=Nat,sl:=fun i=>[(8,.dat .int (i:Int))],ob:=fun _=>[],inv:=fun i=>i<=(gd (.slice tLw) σ 0).length/\∀b:Nat,b<i->wc (gfb tLw σ 1) (nth (gd (.slice tLw) σ 0) b)=false,mu:=fun i=>(gd (.slice tLw) σ 0).length-i}
 |_=>none
def rB:Prop:=∀(d:List LwD×FnD [tLw] [Ty.bool]×Unit),(∀(g:LwD),g∈d.1->wC (d.2.1.1 (g,())))->d.1.length<4611686018427387904->(∃(x:Nat),((0=(x:Int)/\True)/\True)/\x<=d.1.length/\∀(b:Nat),b<x->wc d.2.1.2 (nth d.1 b)=false)/\∀(x:Nat),(x<=d.1.length/\∀(b:Nat),b<x->wc d.2.1.2 (nth d.1 b)=false)->(decide ((x:Int)<d.1.length)=true->0<=(x:Int)/\(x:Int)<d.1.length/\asks (d.2.1.1 (nth d.1 (x:Int).toNat,())) (((d.2.1.2 (nth d.1 (x:Int).toNat,())).1=true->((x:Int),())=(gN (wc d.2.1.2) d.1,()))/\((d.2.1.2 (nth d.1 (x:Int).toNat,())).1=false->wl ((x:Int)+1)/\∃(a:Nat),(((x:Int)+1=(a:Int)/\True)/\True)/\(a<=d.1.length/\∀(b:Nat),b<a->wc d.2.1.2 (nth d.1 b)=false)/\d.1.length-a<d.1.length-x)))/\(decide ((x:Int)<d.1.length)=false->((-1:Int),())=(gN (wc d.2.1.2) d.1,()))
def lY:w4:=⟨[.val (.slice tLw),.fn [tLw] [.bool]],[.bool],false,fun d=>[∀g∈d.1,wC (d.2.1.pre (g,()))],fun d=>(d.1.any (wc (α:=LwD) d.2.1.F),())⟩
def lZ:Prop:=∀(d:List LwD×FnD [tLw] [Ty.bool]×Unit),(∀(g:LwD),g∈d.1->wC (d.2.1.1 (g,())))->(∀(g:LwD),g∈d.1->wC (d.2.1.1 (g,())))/\(decide (0<=gN (wc d.2.1.2) d.1),())=(d.1.any (wc d.2.1.2),())
def l4:w4:=⟨[.val (.slice tPe),.fn [tPe] [.bool]],[.int],false,fun d=>[∀g∈d.1,wC (d.2.1.pre (g,()))],fun d=>(gN (wc (α:=PeD) d.2.1.F) d.1,())⟩
def l5:Ann:=fun r=>match r with
 |2=>some fun σ=>{X:=Nat,sl:=fun i=>[(8,.dat .int (i:Int))],ob:=fun _=>[],inv:=fun i=>i<=(gd (.slice tPe) σ 0).length/\∀b:Nat,b<i->wc (gfb tPe σ 1) (nth (gd (.slice tPe) σ 0) b)=false,mu:=fun i=>(gd (.slice tPe) σ 0).length-i}
 |_=>none
def l6:Prop:=∀(d:List PeD×FnD [tPe] [Ty.bool]×Unit),(∀(g:PeD),g∈d.1->wC (d.2.1.1 (g,())))->d.1.length<4611686018427387904->(∃(x:Nat),((0=(x:Int)/\True)/\True)/\x<=d.1.length/\∀(b:Nat),b<x->wc d.2.1.2 (nth d.1 b)=false)/\∀(x:Nat),(x<=d.1.length/\∀(b:Nat),b<x->wc d.2.1.2 (nth d.1 b)=false)->(decide ((x:Int)<d.1.length)=true->0<=(x:Int)/\(x:Int)<d.1.length/\asks (d.2.1.1 (nth d.1 (x:Int).toNat,())) (((d.2.1.2 (nth d.1 (x:Int).toNat,())).1=true->((x:Int),())=(gN (wc d.2.1.2) d.1,()))/\((d.2.1.2 (nth d.1 (x:Int).toNat,())).1=false->wl ((x:Int)+1)/\∃(a:Nat),(((x:Int)+1=(a:Int)/\True)/\True)/\(a<=d.1.length/\∀(b:Nat),b<a->wc d.2.1.2 (nth d.1 b)=false)/\d.1.length-a<d.1.length-x)))/\(decide ((x:Int)<d.1.length)=false->((-1:Int),())=(gN (wc d.2.1.2) d.1,()))
def eD:w4:=⟨[.val (.slice tPe),.fn [tPe] [.bool]],[.bool],false,fun d=>[∀g∈d.1,wC (d.2.1.pre (g,()))],fun d=>(d.1.any (wc (α:=PeD) d.2.1.F),())⟩
def eE:Prop:=∀(d:List PeD×FnD [tPe] [Ty.bool]×Unit),(∀(g:PeD),g∈d.1->wC (d.2.1.1 (g,())))->(∀(g:PeD),g∈d.1->wC (d.2.1.1 (g,())))/\(decide (0<=gN (wc d.2.1.2) d.1),())=(d.1.any (wc d.2.1.2),())
def AN:w4:=⟨[.val .int,.rfn [.int] [.bool]],[.bool],false,fun d=>[wC (d.2.1.pre (d.1,()))],fun d=>(!(wc (α:=Int) d.2.1.F d.1),())⟩
def AO:Prop:=∀(d:Int×FnD [Ty.int] [Ty.bool]×Unit),wC (d.2.1.1 (d.1,()))->asks (d.2.1.1 (d.1,())) ((!(d.2.1.2 (d.1,())).1,())=(!wc d.2.1.2 d.1,()))
def Fy:w4:=⟨[.val (.slice .int),.fn [.int] [.bool]],[.bool],false,fun d=>[∀g∈d.1,wC (d.2.1.pre (g,()))],fun d=>(d.1.all (wc (α:=Int) d.2.1.F),())⟩
def FA:Prop:=∀(d:List Int×FnD [Ty.int] [Ty.bool]×Unit),(∀(g:Int),g∈d.1->wC (d.2.1.1 (g,())))->(∀(g:Int),g∈d.1->wC [wC (d.2.1.1 (g,()))])/\(!d.1.any (wc fun(a:Int×Unit)=>(!wc d.2.1.2 a.1,())),())=(d.1.all (wc d.2.1.2),())
def AP:w4:=⟨[.val tLw,.rfn [tLw] [.bool]],[.bool],false,fun d=>[wC (d.2.1.pre (d.1,()))],fun d=>(!(wc (α:=LwD) d.2.1.F d.1),())⟩
def AQ:Prop:=∀(d:LwD×FnD [tLw] [Ty.bool]×Unit),wC (d.2.1.1 (d.1,()))->asks (d.2.1.1 (d.1,())) ((!(d.2.1.2 (d.1,())).1,())=(!wc d.2.1.2 d.1,()))
def FB:w4:=⟨[.val (.slice tLw),.fn [tLw] [.bool]],[.bool],false,fun d=>[∀g∈d.1,wC (d.2.1.pre (g,()))],fun d=>(d.1.all (wc (α:=LwD) d.2.1.F),())⟩
def FD:Prop:=∀(d:List LwD×FnD [tLw] [Ty.bool]×Unit),(∀(g:LwD),g∈d.1->wC (d.2.1.1 (g,())))->(∀(g:LwD),g∈d.1->wC [wC (d.2.1.1 (g,()))])/\(!d.1.any (wc fun(a:LwD×Unit)=>(!wc d.2.1.2 a.1,())),())=(d.1.all (wc d.2.1.2),())
def rC:w4:=⟨[.val tPe,.rfn [tPe] [.bool]],[.bool],false,fun d=>[wC (d.2.1.pre (d.1,()))],fun d=>(!(wc (α:=PeD) d.2.1.F d.1),())⟩
def rD:Prop:=∀(d:PeD×FnD [tPe] [Ty.bool]×Unit),wC (d.2.1.1 (d.1,()))->asks (d.2.1.1 (d.1,())) ((!(d.2.1.2 (d.1,())).1,())=(!wc d.2.1.2 d.1,()))
def xb:w4:=⟨[.val (.slice tPe),.fn [tPe] [.bool]],[.bool],false,fun d=>[∀g∈d.1,wC (d.2.1.pre (g,()))],fun d=>(d.1.all (wc (α:=PeD) d.2.1.F),())⟩
def xc:Prop:=∀(d:List PeD×FnD [tPe] [Ty.bool]×Unit),(∀(g:PeD),g∈d.1->wC (d.2.1.1 (g,())))->(∀(g:PeD),g∈d.1->wC [wC (d.2.1.1 (g,()))])/\(!d.1.any (wc fun(a:PeD×Unit)=>(!wc d.2.1.2 a.1,())),())=(d.1.all (wc d.2.1.2),())
def Lc:w4:=⟨[.val .int],[.bool],false,fun _=>[],fun d=>(wa d.1 0 5,())⟩
def Ld:Prop:=∀(d:Int×Unit),(wa d.1 (0:Int) (5:Int),())=(wa d.1 (0:Int) (5:Int),())
def Le:w4:=⟨[.val .int],[.bool],false,fun _=>[],fun d=>(wa d.1 0 99,())⟩
def Lf:Prop:=∀(d:Int×Unit),(wa d.1 (0:Int) (99:Int),())=(wa d.1 (0:Int) (99:Int),())
def Lg:w4:=⟨[.val tPe,.ref tCr,.rfn [.int] [.bool],.rfn [.int] [.bool]],[.bool],false,fun d=>[∀g∈U.lv d.1,wC (d.2.2.1.pre (g,())),∀g∈vw d.1,wC (d.2.2.2.1.pre (g,()))],fun d=>(Nd d.2.1 (wc d.2.2.1.F) (wc d.2.2.2.1.F) d.1,())⟩
def Lh:Prop:=∀(d:PeD×CrD×FnD [Ty.int] [Ty.bool]×FnD [Ty.int] [Ty.bool]×Unit),(∀(g:Int),g∈U.lv d.1->wC (d.2.2.1.1 (g,())))->(∀(g:Int),g∈vw d.1->wC (d.2.2.2.1.1 (g,())))->d.1.1.length<4611686018427387904->(decide ((d.1.1.length:Int)=d.2.1.1)=true->∀(g:Int),g∈d.1.1->wC (d.2.2.1.1 (g,())))/\(((decide ((d.1.1.length:Int)=d.2.1.1)&&d.1.1.all (wc d.2.2.1.2)&&wa d.1.2.1 (0:Int) (255:Int)&&wa d.1.2.2.1 (0:Int) (255:Int))=true->d.1.2.2.2.1.length<4611686018427387904)->((decide ((d.1.1.length:Int)=d.2.1.1)&&d.1.1.all (wc d.2.2.1.2)&&wa d.1.2.1 (0:Int) (255:Int)&&wa d.1.2.2.1 (0:Int) (255:Int)&&decide ((d.1.2.2.2.1.length:Int)<=10))=true->∀(g:Int),g∈d.1.2.2.2.1->wC (d.2.2.2.1.1 (g,())))/\(decide ((d.1.1.length:Int)=d.2.1.1)&&d.1.1.all (wc d.2.2.1.2)&&wa d.1.2.1 (0:Int) (255:Int)&&wa d.1.2.2.1 (0:Int) (255:Int)&&decide ((d.1.2.2.2.1.length:Int)<=10)&&d.1.2.2.2.1.all (wc d.2.2.2.1.2)&&wa d.1.q4.2.1 (0:Int) (1000:Int),())=(Nd d.2.1 (wc d.2.2.1.2) (wc d.2.2.2.1.2) d.1,()))
def Li:w4:=⟨[.val tLw],[.bool],false,fun _=>[],fun d=>(im d.1,())⟩
def Lj:Prop:=∀(d:LwD×Unit),(wa d.1.1 (1:Int) (5:Int)&&wa d.1.2.1 (1:Int) (8:Int),())=(im d.1,())
def Lk:w4:=⟨[.val .int,.ref tCr],[.bool],false,fun d=>[wl (U.la d.2.1-1)],fun d=>(wa d.1 0 (U.la d.2.1-1),())⟩
def Ll:Prop:=∀(d:Int×CrD×Unit),wl (U.la d.2.1-1)->wl (d.2.1.1-1)/\(wa d.1 (0:Int) (d.2.1.1-1),())=(wa d.1 (0:Int) (U.la d.2.1-1),())
def Ti:w4:=⟨[.val tCr,.val tJb],[.int],false,fun _=>[],fun d=>(vV d.1 d.2.1,())⟩
abbrev jk7 (d:CrD×JbD×Unit):=(!wa d.2.1.1 (0:Int) (U.la d.1-1)|| !wa d.2.1.2.1 (0:Int) (U.la d.1-1)||decide (d.2.1.1=d.2.1.2.1)|| !wa d.2.1.2.2.1 (0:Int) (99:Int)|| !wa d.2.1.2.2.2.1 (0:Int) (7:Int)|| !wa d.2.1.q4.1 (0:Int) (3:Int)|| !wa d.2.1.q4.2.1 (1:Int) (8:Int))
abbrev ji6 (d:CrD×JbD×Unit):=(8<(d.1.2.1.length:Int))
abbrev jk8:=(wc fun(a:LwD×Unit)=>(im a.1,()))
def Tj:Prop:=∀(d:CrD×JbD×Unit),((!!wa d.1.1 (2:Int) (5:Int))=true->d.1.2.1.length<4611686018427387904)->((!(!wa d.1.1 (2:Int) (5:Int)||decide (ji6 d)))=true->∀(g:PeD),g∈d.1.2.1->wC [∀(c:Int),c∈U.lv g->wC [],∀(c:Int),c∈vw g->wC []])/\(((!(!wa d.1.1 (2:Int) (5:Int)||decide (ji6 d)|| !d.1.2.1.all (wc fun(b:PeD×Unit)=>(Nd d.1 (wc fun(b:Int×Unit)=>(wa b.1 (0:Int) (5:Int),())) (wc fun(b:Int×Unit)=>(wa b.1 (0:Int) (99:Int),())) b.1,()))))=true->d.1.2.2.1.length<4611686018427387904)->((!(!wa d.1.1 (2:Int) (5:Int)||decide (ji6 d)|| !d.1.2.1.all (wc fun(a:PeD×Unit)=>(Nd d.1 (wc fun(a:Int×Unit)=>(wa a.1 (0:Int) (5:Int),())) (wc fun(a:Int×Unit)=>(wa a.1 (0:Int) (99:Int),())) a.1,()))||decide ((d.1.2.2.1.length:Int)≠4)))=true->∀(g:LwD),g∈d.1.2.2.1->wC [])/\((!wa d.1.1 (2:Int) (5:Int)||decide (ji6 d)|| !d.1.2.1.all (wc fun(a:PeD×Unit)=>(Nd d.1 (wc fun(a:Int×Unit)=>(wa a.1 (0:Int) (5:Int),())) (wc fun(a:Int×Unit)=>(wa a.1 (0:Int) (99:Int),())) a.1,()))||decide ((d.1.2.2.1.length:Int)≠4)|| !d.1.2.2.1.all jk8)=true->((30:Int),())=(vV d.1 d.2.1,()))/\((!wa d.1.1 (2:Int) (5:Int)||decide (ji6 d)|| !d.1.2.1.all (wc fun(a:PeD×Unit)=>(Nd d.1 (wc fun(a:Int×Unit)=>(wa a.1 (0:Int) (5:Int),())) (wc fun(a:Int×Unit)=>(wa a.1 (0:Int) (99:Int),())) a.1,()))||decide ((d.1.2.2.1.length:Int)≠4)|| !d.1.2.2.1.all jk8)=false->wl (U.la d.1-1)/\((!!wa d.2.1.1 (0:Int) (U.la d.1-1))=true->wl (U.la d.1-1))/\((jk7 d)=true->((31:Int),())=(vV d.1 d.2.1,()))/\((jk7 d)=false->((0:Int),())=(vV d.1 d.2.1,()))))
theorem Tk:OI:=by
 intro d;rfl
theorem ay:w9 PR 152 OH:=wT Tk Tryz.func152 kcN koN
theorem OJ:Lb:=by
 intro d a b;exact⟨a,b,rfl⟩
theorem Lm:w9 PR 235 mX:=wT OJ Tryz.func235 kcN koN
theorem Ln:IJ:=by
 rintro⟨s,⟨⟩⟩ e;refine⟨⟨(s,0),⟨⟨rfl,rfl,tZ⟩,tZ⟩,e,by simp⟩,?_⟩;rintro⟨x,n⟩ ⟨a,b⟩;have a:BT.qm x:=a;have g:=BT.uM s;have f:=BT.uM x;refine⟨fun h=> ?_,fun h=> ?_⟩;have h:x≠0:=ja h;obtain⟨d,i,j⟩:=BT.pred a h;have c:=a;unfold BT.qm at c;simp only at b⊢;exact⟨iZ6,by omega,by omega,(gZ x (x-1),n+1),⟨⟨rfl,rfl,tZ⟩,tZ⟩,⟨d,(by omega:n+1+BT.size (gZ x (x-1))=BT.size s)⟩,(by unfold BT.qm at d;omega:(gZ x (x-1)).toNat<x.toNat)⟩;have h:x=0:=(by simpa using h);subst h;simp only[BT.size_zero] at b;simp only at b⊢;rw[show n=BT.size s by omega]
theorem IK:w9 PR 214 gV:=vb II Ln Tryz.func214 kcN koN
theorem WW:Th:=by
 rintro⟨b,⟨⟩⟩;exact⟨fun h=>by simp only at h;subst h;rfl,fun h=>by simp only at h;subst h;rfl⟩
theorem Tl:w9 PR 208 Tg:=wT WW Tryz.func208 kcN koN
theorem tF:ru:=by
 rintro⟨l,f,⟨⟩⟩ a g;refine⟨⟨0,⟨⟨rfl,tZ⟩,tZ⟩,jl _,fun b c=>by omega⟩,fun i hi=>⟨fun h=> ?_,fun h=> ?_⟩⟩;have h:i<l.length:=(by simpa using h);simp only[jw] at*;refine⟨by omega,by omega,yj _ (a _ (L.wh h)) ⟨fun c=> ?_,fun c=>⟨iZ6,i+1,⟨⟨by simp,tZ⟩,tZ⟩,⟨by omega,fun b d=> ?_⟩,by omega⟩⟩⟩;rw[yI (p:=wc (α:=Int) f.F) h hi.2 c];by_cases e:b=i;subst e;exact c;exact hi.2 b (by omega);have h:l.length<=i:=(by simpa using h);rw[vu (p:=wc (α:=Int) f.F) h hi.2]
theorem rE:w9 PR 131 rk:=vb rm tF Tryz.func131 kcN koN
theorem mY:lX:=by
 rintro⟨l,f,⟨⟩⟩ a;refine⟨a,?_⟩;exact jD (·,()) (i8 (wc (α:=Int) f.F) l)
theorem gm:w9 PR 84 lW:=wT mY Tryz.func84 (kcC rE kcN) koN
theorem tG:rB:=by
 rintro⟨l,f,⟨⟩⟩ a g;refine⟨⟨0,⟨⟨rfl,tZ⟩,tZ⟩,jl _,fun b c=>by omega⟩,fun i hi=>⟨fun h=> ?_,fun h=> ?_⟩⟩;have h:i<l.length:=(by simpa using h);simp only[jw] at*;refine⟨by omega,by omega,yj _ (a _ (L.wh h)) ⟨fun c=> ?_,fun c=>⟨iZ6,i+1,⟨⟨by simp,tZ⟩,tZ⟩,⟨by omega,fun b d=> ?_⟩,by omega⟩⟩⟩;rw[yI (p:=wc (α:=LwD) f.F) h hi.2 c];by_cases e:b=i;subst e;exact c;exact hi.2 b (by omega);have h:l.length<=i:=(by simpa using h);rw[vu (p:=wc (α:=LwD) f.F) h hi.2]
theorem rF:w9 PR 217 rz:=vb rA tG Tryz.func217 kcN koN
theorem mZ:lZ:=by
 rintro⟨l,f,⟨⟩⟩ a;refine⟨a,?_⟩;exact jD (·,()) (i8 (wc (α:=LwD) f.F) l)
theorem l7:w9 PR 190 lY:=wT mZ Tryz.func190 (kcC rF kcN) koN
theorem m9:l6:=by
 rintro⟨l,f,⟨⟩⟩ a g;refine⟨⟨0,⟨⟨rfl,tZ⟩,tZ⟩,jl _,fun b c=>by omega⟩,fun i hi=>⟨fun h=> ?_,fun h=> ?_⟩⟩;have h:i<l.length:=(by simpa using h);simp only[jw] at*;refine⟨by omega,by omega,yj _ (a _ (L.wh h)) ⟨fun c=> ?_,fun c=>⟨iZ6,i+1,⟨⟨by simp,tZ⟩,tZ⟩,⟨by omega,fun b d=> ?_⟩,by omega⟩⟩⟩;rw[yI (p:=wc (α:=PeD) f.F) h hi.2 c];by_cases e:b=i;subst e;exact c;exact hi.2 b (by omega);have h:l.length<=i:=(by simpa using h);rw[vu (p:=wc (α:=PeD) f.F) h hi.2]
theorem l8:w9 PR 216 l4:=vb l5 m9 Tryz.func216 kcN koN
theorem fE:eE:=by
 rintro⟨l,f,⟨⟩⟩ a;refine⟨a,?_⟩;exact jD (·,()) (i8 (wc (α:=PeD) f.F) l)
theorem eG:w9 PR 188 eD:=wT fE Tryz.func188 (kcC l8 kcN) koN
theorem DF:AO:=by
 intro d h;exact yj _ h rfl
theorem AR:w9 PR 187 AN:=wT DF Tryz.func187 kcN koN
theorem IL:FA:=by
 intro d h;exact⟨fun g a=>⟨h g a,tZ⟩,jD (·,()) (tE d.snd.fst.2 d.fst)⟩
theorem FF:w9 PR 155 Fy:=wT IL Tryz.func155 (kcC gm (kcC AR kcN)) koN
theorem DG:AQ:=by
 intro d h;exact yj _ h rfl
theorem AS:w9 PR 191 AP:=wT DG Tryz.func191 kcN koN
theorem IM:FD:=by
 intro d h;exact⟨fun g a=>⟨h g a,tZ⟩,jD (·,()) (tE d.snd.fst.2 d.fst)⟩
theorem FG:w9 PR 159 FB:=wT IM Tryz.func159 (kcC l7 (kcC AS kcN)) koN
theorem tH:rD:=by
 intro d h;exact yj _ h rfl
theorem rG:w9 PR 189 rC:=wT tH Tryz.func189 kcN koN
theorem AT:xc:=by
 intro d h;exact⟨fun g a=>⟨h g a,tZ⟩,jD (·,()) (tE d.snd.fst.2 d.fst)⟩
theorem xd:w9 PR 158 xb:=wT AT Tryz.func158 (kcC eG (kcC rG kcN)) koN
theorem OK:Ld:=fun _=>rfl
theorem Lo:w9 PR 151 Lc:=wT OK Tryz.func151 (kcC ay kcN) koN
theorem OL:Lf:=fun _=>rfl
theorem Lp:w9 PR 153 Le:=wT OL Tryz.func153 (kcC ay kcN) koN
theorem OM:Lh:=by
 unfold Lh Prod.q4;rintro⟨p,c,f,g,⟨⟩⟩ a b _;exact⟨fun _=>a,fun _=>⟨fun _=>b,rfl⟩⟩
theorem Lq:w9 PR 154 Lg:=wT OM Tryz.func154 (kcC ay (kcC FF kcN)) koN
theorem ON:Lj:=fun _=>rfl
theorem Lr:w9 PR 156 Li:=wT ON Tryz.func156 (kcC ay kcN) koN
theorem OO:Ll:=fun _ h=>⟨h,rfl⟩
theorem Ls:w9 PR 157 Lk:=wT OO Tryz.func157 (kcC ay kcN) koN
theorem jc9 (c:CrD) (p:PeD):Nd c (fun x=>wa x 0 5) (fun x=>wa x 0 99) p=il (U.la c) p:=by
 rw[j7];simp only[Nd,il,wa,ji,jp];constructor;rintro⟨⟨⟨⟨⟨⟨e,f⟩,a⟩,b⟩,k⟩,i⟩,d⟩;exact⟨⟨e,a.1,a.2,b.1,b.2,by omega,d.1,d.2⟩,f,i⟩;rintro⟨⟨e,a,g,b,h,k,d,j⟩,f,i⟩;exact⟨⟨⟨⟨⟨⟨e,f⟩,a,g⟩,b,h⟩,by omega⟩,i⟩,d,j⟩
theorem jda (c:CrD):(((((!wa c.1 2 5||decide (8<((c.2.1.length:Nat):Int)))|| !c.2.1.all (il (U.la c)))||decide (((c.2.2.1.length:Nat):Int)≠4))|| !c.2.2.1.all im))= !wy c:=by
 unfold wy;show _= !(decide (2<=c.1/\c.1<=5/\c.2.1.length<=8/\c.2.2.1.length=4)&&(c.2.1.all (il (U.la c))&&c.2.2.1.all im));cases c.2.1.all (il (U.la c))<;>cases c.2.2.1.all im<;>simp only[wa,Bool.not_true,Bool.not_false,Bool.or_true,kS,Bool.and_true,ky,Bool.true_or]
 rw[j7];simp only[zt,jX,km,jp,jI];omega
theorem jeW (c:CrD) (j:JbD):((((((!wa j.1 0 (U.la c-1)|| !wa j.2.1 0 (U.la c-1))||decide (j.1=j.2.1))|| !wa j.2.2.1 0 99)|| !wa j.2.2.2.1 0 7)|| !wa j.2.2.2.2.1 0 3)|| !wa j.2.2.2.2.2.1 1 8)= !ql c j:=by
 have key:(ql c j=false)↔¬(0<=j.1/\j.1<=U.la c-1/\0<=j.2.1/\j.2.1<=U.la c-1/\j.1≠j.2.1/\0<=j.2.2.1/\j.2.2.1<=99/\0<=j.2.2.2.1/\j.2.2.2.1<=7/\0<=j.2.2.2.2.1/\j.2.2.2.2.1<=3/\1<=j.2.2.2.2.2.1/\j.2.2.2.2.2.1<=8):=by
  unfold ql;exact jI
 rw[j7,jX,key];simp only[wa,zt,jX,km,jp,jI];omega
theorem WX:Tj:=by
 unfold Tj jk8 ji6 jk7 Prod.q4;rintro⟨c,j,⟨⟩⟩;have f:∀p,wc (fun(x:PeD×Unit)=>(Nd c (wc fun(x:Int×Unit)=>(wa x.fst 0 5,())) (wc fun(x:Int×Unit)=>(wa x.fst 0 99,())) x.fst,())) p=il (U.la c) p:=fun p=>jc9 c p
 have e2:(wc fun(x:LwD×Unit)=>(im x.fst,()))=im:=rfl;have d:=jda c;have e:=jeW c j;intro _;refine⟨fun _ g _=>⟨fun _ _=>tZ,fun _ _=>tZ,tZ⟩,fun _=> ?_⟩;simp only at d e⊢;rw[funext f,e2,d,e];refine⟨fun _ _ _=>tZ,fun h=> ?_,fun h=> ?_⟩;have h:wy c=false:=(by simpa using h);unfold vV;rw[je h];have h:wy c=true:=(by simpa using h);have i:2<=U.la c/\U.la c<=5:=by
  unfold wy at h;simp only[ji,jp] at h;exact⟨h.1.1,h.1.2.1⟩
 have b:wl (U.la c-1):=iZ6;refine⟨b,fun _=>b,fun a=> ?_,fun a=> ?_⟩;have a:ql c j=false:=(by simpa using a);unfold vV;rw[jd (by rw[h];simp),je a];have a:ql c j=true:=(by simpa using a);unfold vV;rw[jd (by rw[h];simp),jd (by rw[a];simp)]
theorem Hv:w9 PR 115 Ti:=wT WX Tryz.func115 (kcC ay (kcC xd (kcC FG (kcC Lo (kcC Lp (kcC Lq (kcC Lr (kcC Ls kcN)))))))) koN
abbrev tTk:Ty:= .st [tCr,tJb,tLw]
abbrev TkD:Type:=CrD×JbD×LwD×Unit
namespace U
def tk (o:Option TkD):TkD:=wR (Ty.dflt tTk) o
def tc (t:TkD):CrD:=t.1
def tj (t:TkD):JbD:=t.2.1
def tl (t:TkD):LwD:=t.2.2.1
def HU (c:CrD) (j:JbD):Option TkD:=if vV c j=0 then some (c,j,dH c j,()) else none
def dp (t:TkD):Prop:=wy (tc t)=true/\ql (tc t) (tj t)=true/\tl t=dH (tc t) (tj t)
def Vj (a b c:Bool):Int:=jeq a+2*jeq b+4*jeq c
def yL (t:TkD) (p:PeD):Int:=Vj (dm p (Zn (tj t))) (!w7 (fd p) (QR (tj t))) (!w7 (cl p) (ct (tj t)))
def uG (t:TkD) (p:PeD):List (Int×Int):=[(0,jeq (!dm p (Zn (tj t)))),(1,iA (fd p/2^(QR (tj t)).toNat) 1),(2,iA (cl p/2^(ct (tj t)).toNat) 1)]
def cd (all left:List (Int×Int)) (out:Int):Prop:=BT.qm out/\left.Nodup/\(∀e∈left,e∈all)/\∀p:Nat,BT.has out p=true↔∃e∈all,e∉left/\e.2=0/\e.1.toNat=p
def gJ (t:TkD) (s:Int) (n:Nat):List (Int×PeD×Unit):=((List.range n).filter (fun(i:Nat)=>uF s (i:Int))).map (fun(i:Nat)=>((i:Int),nth (wj (tc t)) i,()))
def AD (t:TkD) (s:Int):List (Int×PeD×Unit):=gJ t s (wj (tc t)).length
def jn (t:TkD) (a b:Int) (x:Int×PeD×Unit):Bool:=decide (Vt (tl t)<=min (nth (lv x.2.1) a.toNat) (nth (lv x.2.1) b.toNat))
def nS (t:TkD) (s a b:Int):Bool:=(AD t s).any (jn t a b)
def aX (t:TkD) (a b:Int) (q:List (Int×PeD×Unit)):Bool:=match q.getLast? with|some x=>jn t a b x|none=>false
end U
def DH:w4:=⟨[.val (.slice .int),.val .int],[.int],false,fun _=>[],fun d=>(gN (fun x=>decide (x=d.2.1)) d.1,())⟩
def DI:Ann:=fun r=>match r with
 |2=>some fun σ=>{X:=Nat,sl:=fun i=>[(8,.dat .int (i:Int))],ob:=fun _=>[],inv:=fun i=>i<=(gd (.slice .int) σ 0).length/\∀b:Nat,b<i->decide (nth (gd (.slice .int) σ 0) b=gd .int σ 1)=false,mu:=fun i=>(gd (.slice .int) σ 0).length-i}
 |_=>none
def DJ:Prop:=∀(d:List Int×Int×Unit),d.1.length<4611686018427387904->(∃(x:Nat),((0=(x:Int)/\True)/\True)/\x<=d.1.length/\∀(b:Nat),b<x->decide (nth d.1 b=d.2.1)=false)/\∀(x:Nat),(x<=d.1.length/\∀(b:Nat),b<x->decide (nth d.1 b=d.2.1)=false)->(decide ((x:Int)<d.1.length)=true->0<=(x:Int)/\(x:Int)<d.1.length/\(decide (d.2.1=nth d.1 (x:Int).toNat)=true->((x:Int),())=(gN (fun(c:Int)=>decide (c=d.2.1)) d.1,()))/\(decide (d.2.1=nth d.1 (x:Int).toNat)=false->wl ((x:Int)+1)/\∃(a:Nat),(((x:Int)+1=(a:Int)/\True)/\True)/\(a<=d.1.length/\∀(b:Nat),b<a->decide (nth d.1 b=d.2.1)=false)/\d.1.length-a<d.1.length-x))/\(decide ((x:Int)<d.1.length)=false->((-1:Int),())=(gN (fun(c:Int)=>decide (c=d.2.1)) d.1,()))
def tI:w4:=⟨[.val (.slice .int),.val .int],[.bool],false,fun _=>[],fun d=>(d.1.any (fun x=>decide (x=d.2.1)),())⟩
def tJ:Prop:=∀(d:List Int×Int×Unit),(decide (0<=gN (fun(a:Int)=>decide (a=d.2.1)) d.1),())=(d.1.any fun(b:Int)=>decide (b=d.2.1),())
def WY:w4:=⟨[.val tCr,.val tJb],[.ptr tTk,.int],false,fun _=>[],fun d=>(HU d.1 d.2.1,vV d.1 d.2.1,())⟩
def WZ:Prop:=∀(d:CrD×JbD×Unit),(decide (vV d.1 d.2.1≠0)=true->(none,vV d.1 d.2.1,())=(HU d.1 d.2.1,vV d.1 d.2.1,()))/\(decide (vV d.1 d.2.1≠0)=false->0<=d.2.1.q4.1/\d.2.1.q4.1<(d.1.2.2.1.length:Int)/\(some (d.1,d.2.1,nth d.1.2.2.1 d.2.1.q4.1.toNat,()),(0:Int),())=(HU d.1 d.2.1,vV d.1 d.2.1,()))
def LM (d:PD [.ref (.ptr tTk),.ref (.uint .u64)]) (xs:List (Ty.st [.int,tPe]).Data):Prop:=xs=AD (U.tk d.1) d.2.1
def Tm (d:PD [.ref (.ptr tTk),.ref (.uint .u64)]):B9 (YS [.int,tPe]):=fun r=>match r with
 |1=>some fun _ _=>{X:=Nat,sl:=fun i=>[(12,.dat .int (i:Int))],ob:=fun _=>[],ys:=fun i=>(gJ (U.tk d.1) d.2.1 i,true),inv:=fun i=>i<=(wj (U.tc (U.tk d.1))).length,mu:=fun i=>(wj (U.tc (U.tk d.1))).length-i}
 |_=>none
abbrev ji7 (d:Option (CrD×JbD×LwD×Unit)×Int×Unit):=(wR (((0:Int),[],[],()),((0:Int),(0:Int),(0:Int),(0:Int),(0:Int),(0:Int),()),((0:Int),(0:Int),false,()),()) d.1)
abbrev jhq (d:Option (CrD×JbD×LwD×Unit)×Int×Unit):=(wj (U.tc (U.tk d.1)))
abbrev ji8 (x:Nat)(d:Option (CrD×JbD×LwD×Unit)×Int×Unit):=((x:Int),nth (ji7 d).1.2.1 (x:Int).toNat,())
abbrev jkr (x:Nat)(a:Nat):=(((x:Int)+1=(a:Int)/\True)/\True)
def cV:Prop:=∀(d:Option (CrD×JbD×LwD×Unit)×Int×Unit) (l:Nat),d.1.isSome=true->(jhq d).length<=60->d.1.isSome=true/\((ji7 d).1.2.1.length<4611686018427387904->(∃(x:Nat),((0=(x:Int)/\True)/\True)/\([],true)=(gJ (U.tk d.1) d.2.1 x,true)/\x<=(jhq d).length)/\∀(x:Nat),x<=(jhq d).length->(decide ((x:Int)<(ji7 d).1.2.1.length)=true->0<=(x:Int)/\(x:Int)<(ji7 d).1.2.1.length/\0<=(x:Int)/\(x:Int)<=64/\(uF d.2.1 (x:Int)=true->l=l/\(∃(rest:List (Int×PeD×Unit)),gJ (U.tk d.1) d.2.1 x++[(ji8 x d)]++rest=AD (U.tk d.1) d.2.1)/\(((uF d.2.1 (x:Int)&& !true)=true->true=true->gJ (U.tk d.1) d.2.1 x++[(ji8 x d)]=AD (U.tk d.1) d.2.1)/\((uF d.2.1 (x:Int)&& !true)=false->wl ((x:Int)+1)/\∃(a:Nat),(jkr x a)/\(gJ (U.tk d.1) d.2.1 x++[(ji8 x d)],true)=(gJ (U.tk d.1) d.2.1 a,true)/\a<=(jhq d).length/\(jhq d).length-a<(jhq d).length-x))/\((uF d.2.1 (x:Int)&& !false)=true->false=true->gJ (U.tk d.1) d.2.1 x++[(ji8 x d)]=AD (U.tk d.1) d.2.1)/\((uF d.2.1 (x:Int)&& !false)=false->wl ((x:Int)+1)/\∃(a:Nat),(jkr x a)/\(gJ (U.tk d.1) d.2.1 x++[(ji8 x d)],false)=(gJ (U.tk d.1) d.2.1 a,true)/\a<=(jhq d).length/\(jhq d).length-a<(jhq d).length-x))/\(uF d.2.1 (x:Int)=false->((uF d.2.1 (x:Int)&& !false)=true->true=true->gJ (U.tk d.1) d.2.1 x=AD (U.tk d.1) d.2.1)/\((uF d.2.1 (x:Int)&& !false)=false->wl ((x:Int)+1)/\∃(a:Nat),(jkr x a)/\(gJ (U.tk d.1) d.2.1 x,true)=(gJ (U.tk d.1) d.2.1 a,true)/\a<=(jhq d).length/\(jhq d).length-a<(jhq d).length-x)))/\(decide ((x:Int)<(ji7 d).1.2.1.length)=false->true=true->gJ (U.tk d.1) d.2.1 x=AD (U.tk d.1) d.2.1))
theorem l9:(ZY (ctx 28 [(235,mX)] []) (qq Tryz.f234) [.int,tPe] [.ref (.ptr tTk),.ref (.uint .u64)] LM (fun d=>[d.1.isSome=true,(wj (U.tc (U.tk d.1))).length<=60]) (fun d _=>Tm d) (fun d l=>hkY [.int,tPe] l [24] (fun q=>∃rest,LM d (q++rest)) (fun _=>none)))=cV:=by kernel_rfl
def w8:rc:=⟨[.val (.ptr tTk),.val (.uint .u64)],fun _=>[],234,[.ptr tTk,.uint .u64],fun d=>(d.1,d.2.1,())⟩
def fF:Prop:=∀(d:Option (CrD×JbD×LwD×Unit)×Int×Unit),d=d
theorem oH:(WI (ctx 6 [] []) (fun _=>none) Tryz.f213 (qq Tryz.f213) w8)=fF:=by kernel_rfl
def RU (sv:SV):Option (Prop×(List (Ty.st [.int,tPe]).Data->Prop)):=match sv with
 | .clo 234 [.ep b t,.ep c s]=>(match qS b (.ptr tTk) t,qS c (.uint .u64) s with
  |some a,some d=>some ((a.isSome=true/\(wj (U.tc (U.tk a))).length<=60),fun xs=>xs=AD (U.tk a) d)
  |_,_=>none)
 |_=>none
def W0:K0 [.int,tPe]:={ps:=[.ref (.ptr tTk),.ref .int,.ref .int,.own (.box 4 [.dat .bool]) true],slots:=[4,6,7,8],dst:=34,pre:=fun _=>[],G:=fun d q=>((d.2.2.2.1.1||aX (U.tk d.1) d.2.1 d.2.2.1 q,()),()),stop:=fun d q=>aX (U.tk d.1) d.2.1 d.2.2.1 q,seq:=RU}
def DK:Nat->Option ((ts:List Ty)×K0 ts):=fun r=>match r with
 |3=>some ⟨[.int,tPe],W0⟩
 |_=>none
def lH:w4:=⟨[.val (.ptr tTk),.val (.uint .u64),.val .int,.val .int],[.bool],false,
 fun d=>[d.1.isSome=true,dp (U.tk d.1),0<=d.2.2.1,d.2.2.1<U.la (U.tc (U.tk d.1)),0<=d.2.2.2.1,d.2.2.2.1<U.la (U.tc (U.tk d.1))],fun d=>(nS (U.tk d.1) d.2.1 d.2.2.1 d.2.2.2.1,())⟩
abbrev jk9 (d:Option (CrD×JbD×LwD×Unit)×Int×Int×Int×Unit)(x:Int×PeD×Unit):=((wR (((0:Int),[],[],()),((0:Int),(0:Int),(0:Int),(0:Int),(0:Int),(0:Int),()),((0:Int),(0:Int),false,()),()) d.1).2.2.1.1<=min (nth x.2.1.1 d.2.2.1.toNat) (nth x.2.1.1 d.2.2.2.1.toNat))
abbrev jks (d:Option (CrD×JbD×LwD×Unit)×Int×Int×Int×Unit):=(fun(a:List (Int×PeD×Unit))=>aX (U.tk d.1) d.2.2.1 d.2.2.2.1 a)
def lI:Prop:=∀(d:Option (CrD×JbD×LwD×Unit)×Int×Int×Int×Unit),d.1.isSome=true->dp (U.tk d.1)->0<=d.2.2.1->d.2.2.1<U.la (U.tc (U.tk d.1))->0<=d.2.2.2.1->d.2.2.2.1<U.la (U.tc (U.tk d.1))->(d.1.isSome=true/\(wj (U.tc (U.tk d.1))).length<=60)/\True/\(d.1,d.2.2.1,d.2.2.2.1,(false||aX (U.tk d.1) d.2.2.1 d.2.2.2.1 [],()),())=(d.1,d.2.2.1,d.2.2.2.1,(false,()),())/\(∀(q:List (Int×PeD×Unit)) (x:Int×PeD×Unit) (rest:List (Int×PeD×Unit)),q++x::rest=AD (U.tk d.1) d.2.1->gj (jks d) q->0<=d.2.2.1/\d.2.2.1<(x.2.1.1.length:Int)/\0<=d.2.2.2.1/\d.2.2.2.1<(x.2.1.1.length:Int)/\d.1.isSome=true/\(decide (jk9 d x)=true->aX (U.tk d.1) d.2.2.1 d.2.2.2.1 (q++[x])=true/\((true,()),())=((false||aX (U.tk d.1) d.2.2.1 d.2.2.2.1 (q++[x]),()),()))/\(decide (jk9 d x)=false->aX (U.tk d.1) d.2.2.1 d.2.2.2.1 (q++[x])=false/\((false||aX (U.tk d.1) d.2.2.1 d.2.2.2.1 q,()),())=((false||aX (U.tk d.1) d.2.2.1 d.2.2.2.1 (q++[x]),()),())))/\(∀(xs:List (Int×PeD×Unit)),xs=AD (U.tk d.1) d.2.1->gj (jks d) xs->(false,())=(nS (U.tk d.1) d.2.1 d.2.2.1 d.2.2.2.1,()))/\∀(q:List (Int×PeD×Unit)) (x:Int×PeD×Unit) (rest:List (Int×PeD×Unit)),q++x::rest=AD (U.tk d.1) d.2.1->gj (jks d) q->aX (U.tk d.1) d.2.2.1 d.2.2.2.1 (q++[x])=true->(false||aX (U.tk d.1) d.2.2.1 d.2.2.2.1 (q++[x]),())=(nS (U.tk d.1) d.2.1 d.2.2.1 d.2.2.2.1,())
theorem rH:(RQ (NA 33 [] [] [(213,w8)] []) lH (fun _ _=>none) (hkC (NA 33 [] [] [(213,w8)] []) (fun _=>none) DK [] []) Tryz.f237 (qq Tryz.f237))=lI:=by kernel_rfl
theorem FH:DJ:=by
 rintro⟨l,x,⟨⟩⟩ d;refine⟨⟨0,⟨⟨rfl,tZ⟩,tZ⟩,jl _,fun b a=>by omega⟩,fun i hi=>⟨fun h=> ?_,fun h=> ?_⟩⟩;have h:i<l.length:=(by simpa using h);simp only[jw] at*;refine⟨by omega,by omega,fun a=> ?_,fun a=>⟨iZ6,i+1,⟨⟨by simp,tZ⟩,tZ⟩,⟨by omega,fun b c=> ?_⟩,by omega⟩⟩;rw[yI (p:=fun y=>decide (y=x)) h hi.2 (by have:=ja a;rw[<-this];exact jG rfl)];by_cases e:b=i;subst e;exact zp (fun e=>jc a e.symm);exact hi.2 b (by omega);have h:l.length<=i:=(by simpa using h);rw[vu (p:=fun y=>decide (y=x)) h hi.2]
theorem DL:w9 PR 184 DH:=vb DI FH Tryz.func184 kcN koN
theorem xe:tJ:=by
 rintro⟨l,x,⟨⟩⟩;exact jD (·,()) (i8 (fun y=>decide (y=x)) l)
theorem dY:w9 PR 144 tI:=wT xe Tryz.func144 (kcC DL kcN) koN
theorem rI {c:CrD} {j:JbD} (h:vV c j=0):wy c=true/\ql c j=true:=by
 unfold vV at h
 split at h
 omega
 split at h
 omega;rename_i a b;exact⟨by simpa using a,by simpa using b⟩
theorem qe {c:CrD} (h:wy c=true):2<=U.la c/\U.la c<=5/\(wj c).length<=8/\(ga c).length=4/\(∀p∈wj c,il (U.la c) p=true)/\∀l∈ga c,im l=true:=by
 unfold wy at h;simp only[ji,jp,jV] at h;exact⟨h.1.1,h.1.2.1,h.1.2.2.1,h.1.2.2.2,h.2.1,h.2.2⟩
theorem na {c:CrD} {j:JbD} (h:ql c j=true):(0<=NB j/\NB j<U.la c)/\(0<=HT j/\HT j<U.la c)/\NB j≠HT j/\(0<=QR j/\QR j<=7)/\(0<=ct j/\ct j<=3)/\(1<=jbp j/\jbp j<=8):=by
 unfold ql at h;have h:=ja h;obtain⟨d,m,e,n,f,_,_,g,i,k,l,a,b⟩:=h;exact⟨⟨d,by omega⟩,⟨e,by omega⟩,f,⟨g,i⟩,⟨k,l⟩,a,b⟩
theorem W2 {c:CrD} {j:JbD} (h:vV c j=0):HU c j=some (c,j,dH c j,())/\dp (c,j,dH c j,()):=by
 obtain⟨a,b⟩:=rI h;exact⟨by unfold HU;rw[je h],a,b,rfl⟩
theorem Z9:WZ:=by
 unfold WZ Prod.q4;rintro⟨c,j,⟨⟩⟩;refine⟨fun h=> ?_,fun h=> ?_⟩;have h:vV c j≠0:=ja h;simp only;unfold HU;rw[jd h];have h:vV c j=0:=(by simpa using h);obtain⟨b,d⟩:=rI h;obtain⟨_,_,_,a,_⟩:=qe b;obtain⟨_,_,_,_,hk,_⟩:=na d;have hk:0<=j.2.2.2.2.1/\j.2.2.2.2.1<=3:=hk;have a:c.2.2.1.length=4:=a;refine⟨hk.1,by simp only;omega,?_⟩;simp only;rw[(W2 h).1,h];rfl
theorem Lt:w9 PR 179 WY:=wT Z9 Tryz.func179 (kcC Hv kcN) koN
theorem xf (t:TkD) (s:Int) (n:Nat):gJ t s (n+1)=gJ t s n++(if uF s (n:Int)=true then[((n:Int),nth (wj (U.tc t)) n,())] else[]):=by
 unfold gJ;rw[L.yt,zn]
 split<;>simp
theorem W3 (t:TkD) (s:Int) {n m:Nat} (h:n<=m):∃rest,gJ t s n++rest=gJ t s m:=by
 induction m with
 |zero=>
  have:n=0:=(by omega);subst this;exact⟨[],by simp⟩
 |succ m b=>
  by_cases e:n=m+1;subst e;exact⟨[],by simp⟩;obtain⟨r,a⟩:=b (by omega);rw[xf,<-a];exact⟨r++_,by rw[jN]⟩
theorem tK:cV:=by
 unfold cV jkr ji8 jhq ji7;rintro⟨(_|t),s,⟨⟩⟩ l i e;cases i;have e:(wj (U.tc t)).length<=60:=e;refine⟨rfl,fun _=>⟨⟨0,⟨⟨rfl,tZ⟩,tZ⟩,rfl,jl _⟩,fun x g=> ?_⟩⟩;have g:x<=(wj (U.tc t)).length:=g;have c:U.tk (some t)=t:=rfl;refine⟨fun h=> ?_,fun h=> ?_⟩;have h:x<(wj (U.tc t)).length:=by
  have:=ja h;have this:(x:Int)<(wj (U.tc t)).length:=this;omega
 have j:(x:Int)<(wj (U.tc t)).length:=(by omega);refine⟨by omega,j,by omega,by omega,fun b=> ?_,fun b=> ?_⟩;have d:gJ t s (x+1)=gJ t s x++[((x:Int),nth (wj (U.tc t)) x,())]:=(by rw[xf,je b]);obtain⟨r,f⟩:=W3 t s (show x+1<=(wj (U.tc t)).length by omega);refine⟨rfl,⟨r,by rw[d] at f;exact f⟩,⟨fun a=>absurd a (by rw[Bool.not_true,ky];simp),fun _=>⟨iZ6,x+1,⟨⟨by omega,tZ⟩,tZ⟩,?_,(show x+1<=(wj (U.tc t)).length by omega),(show(wj (U.tc t)).length-(x+1)<(wj (U.tc t)).length-x by omega)⟩⟩,
  fun _ a=>(by cases a),fun a=> ?_⟩
 rw[c,d];rfl;rw[Bool.not_false,Bool.and_true] at a;exact absurd b (by simp only at a⊢;rw[a];simp);have d:gJ t s (x+1)=gJ t s x:=by
  rw[xf,jd (by simp only at b⊢;rw[b];simp),j6]
 refine⟨fun a=> ?_,fun _=>⟨iZ6,x+1,⟨⟨by omega,tZ⟩,tZ⟩,?_,(show x+1<=(wj (U.tc t)).length by omega),(show(wj (U.tc t)).length-(x+1)<(wj (U.tc t)).length-x by omega)⟩⟩;rw[Bool.not_false,Bool.and_true] at a;exact absurd a (by simp only at b⊢;rw[b];simp);rw[c,d];have h:(wj (U.tc t)).length<=x:=by
  have:=jc h;have this:¬(x:Int)<(wj (U.tc t)).length:=this;omega
 intro _;rw[show x=(wj (U.tc t)).length by omega];rfl
theorem OP {H:Imm} {lb:Array Value} {d:PD [.ref (.ptr tTk),.ref (.uint .u64)]} (g:pvs PR H [.ref (.ptr tTk),.ref (.uint .u64)] lb.toList d) (a:d.1.isSome=true) (b:(wj (U.tc (U.tk d.1))).length<=60):ZW PR H [.int,tPe] (LM d) (.func (.func 234) #[] lb):=
 jbN (C:=ctx 28 [(235,mX)] []) (pm ⟨fun _=>Lm,tZ⟩ trivial) mixed Tryz.func234 (by kernel_rfl) (by kernel_rfl) (by kernel_rfl) (by kernel_rfl) (by decide) (l9.mpr tK) (fun d l B0 R h c e f=>jeQ c f) g ⟨a,b,tZ⟩
theorem AU:fF:=by intro d;rfl
theorem fG:K4 PR 213 w8:=jeT (oH.mpr AU) Tryz.func213 (by kernel_rfl) (by kernel_rfl) (by kernel_rfl) (by kernel_rfl) trivial trivial
theorem jdb:∀(f:Nat) (p:Nat×rg),wS ([]:List (Nat×Nat×rg)) f=some p->ROK PR f p.2:=fun _ _ h=>by cases h
theorem Lu {sv:SV} {pr:Prop} {L:List (Ty.st [.int,tPe]).Data->Prop} {v:Value} {ρ:Env} (a:RU sv=some (pr,L)) (b:pr) (g:SV.den PR ρ sv v):ZW PR ρ.H [.int,tPe] L v:=by
 unfold RU at a
 split at a
 case h_2=>cases a
 rename_i m t n s
 split at a
 case h_2=>cases a
 rename_i q p l f;simp only[jy,Prod.mk.injEq] at a;obtain⟨rfl,rfl⟩:=a;obtain⟨e,rfl⟩:=wt l;subst e;obtain⟨e2,rfl⟩:=wt f;subst e2;simp only[SV.den,SV.denL] at g;obtain⟨lb,rfl,x,r,k,h,y,o,c,i,j⟩:=g;exact OP (d:=(t,s,())) (by rw[k,c,j];exact⟨h,i,rfl⟩) b.1 b.2
theorem tL (t:TkD) (a b:Int) (q:List (Int×PeD×Unit)) (x:Int×PeD×Unit):aX t a b (q++[x])=U.jn t a b x:=by
 unfold aX;rw[List.getLast?_append];simp
theorem OQ {t:TkD} {a b:Int} {q:List (Int×PeD×Unit)} (h:gj (fun q=>aX t a b q) q):q.any (U.jn t a b)=false:=by
 rw[zj];intro x c;obtain⟨u,v,rfl⟩:=List.append_of_mem c;have:=h u x v rfl;simp only[tL] at this;rw[this];simp
theorem Tn {t:TkD} {s:Int} {x:Int×PeD×Unit} (h:x∈AD t s):x.2.1∈wj (U.tc t):=by
 unfold AD gJ at h;obtain⟨i,hi,rfl⟩:=jS.1 h;have:=jE.1 (jP.1 hi).1;exact L.wh this
theorem jdc {n:Int} {p:PeD} (h:il n p=true):((U.lv p).length:Int)=n:=by
 unfold il at h;simp only[ji,jp] at h;exact h.1.1
theorem DM:lI:=by
 unfold lI jks jk9;rintro⟨(_|t),s,a,b,⟨⟩⟩ r l v f w g;cases r;obtain⟨c1,c2,A⟩:=l;have c1:wy (U.tc t)=true:=c1;obtain⟨B,C,D,E,p,F⟩:=qe c1;have k:(wj (U.tc t)).length<=60:=(by omega);have c:U.tk (some t)=t:=rfl;refine⟨⟨rfl,k⟩,tZ,rfl,fun q x rest i e=> ?_,fun xs j e=> ?_,fun q x rest i e d=> ?_⟩;have z:x∈AD t s:=(by rw[c] at i;rw[<-i];simp);have o:=jdc (p _ (Tn z));have o:((x.2.1.1.length:Nat):Int)=U.la (U.tc t):=o;have f:a<U.la (U.tc t):=f;have g:b<U.la (U.tc t):=g;have m:aX t a b q=false:=by
  cases n:q.getLast? with
  |none=>unfold aX;rw[n]
  |some y=>
   obtain⟨u,rfl⟩:=List.getLast?_eq_some_iff.1 n;have:=e u y [] rfl;exact this
 refine⟨v,by simp only;omega,w,by simp only;omega,rfl,fun h=> ?_,fun h=> ?_⟩;have h:U.jn t a b x=true:=h;have:aX t a b (q++[x])=true:=(by rw[tL];exact h);rw[c];simp only;exact⟨this,by rw[this];rfl⟩;have h:U.jn t a b x=false:=h;have:aX t a b (q++[x])=false:=(by rw[tL];exact h);rw[c];simp only;exact⟨this,by rw[this,m]⟩;rw[c] at j e;subst j;have:=OQ e;simp only;rw[c];unfold nS;rw[this];rw[c] at i d⊢;simp only at d⊢;rw[d];unfold nS;rw[<-i];rw[tL] at d;simp[d]
theorem Lw:(NA 33 [] [] [(213,w8)] []).ok PR:=OF trivial trivial ⟨fG,tZ⟩ trivial
theorem AV:w9 PR 237 lH:=
 WN (body:=qq Tryz.f237) (C:=NA 33 [] [] [(213,w8)] []) (hk:=hkC (NA 33 [] [] [(213,w8)] []) (fun _=>none) DK [] []) Lw mixed Tryz.func237 (by kernel_rfl) (by kernel_rfl) (by kernel_rfl) (by decide)
  (fun B=>Hs Lw mixed (fun k ts rs sv pr L v ρ hk c a b=>by
   unfold DK at hk
   split at hk
   case h_2=>cases hk
   simp only[jy] at hk
   cases hk
   exact Lu c a b) jdb B) (rH.mpr DM)
namespace U
def bi (x:Int) (N n:Nat):List Int:=List.replicate n x++List.replicate (N-n) 0
def NC (t:TkD) (c:Int) (a b:Nat):Bool:=nS t c (a:Int) (b:Int)
def lB (t:TkD) (a:Int):List Int:=jfv (NC t a) (la (tc t)).toNat (HT (tj t)).toNat
def qr (t:TkD) (a:Int) (k:Nat):List Int×List Int:=bm (NC t a) (la (tc t)).toNat (HT (tj t)).toNat k
def ar (t:TkD) (a:Int) (x:List Int×List Int) (i:Nat):List Int×List Int:=uE (NC t a) (nth x.2 0).toNat x i
def jer (t:TkD) (a:Int) (x:List Int×List Int) (lo:Nat):Prop:=jen (NC t a) (la (tc t)).toNat (HT (tj t)).toNat x/\x.2≠[]/\x.2.length<=10/\lo<=10
end U
def glo (σ:St) (s:Nat):Nat:=match σ.get s with
 | .osl _ _ lo _=>lo
 |_=>0
def IN:w4:=⟨[.val (.uint .u64),.val (.uint .u64)],[.uint .u64,.uint .u64],false,fun d=>[0<=d.1,d.1<=1000,0<=d.2.1,d.2.1<=1000],fun d=>((0:Int),d.1*d.2.1,())⟩
abbrev jh2 (d:Int×Int×Unit):=(d.1/(2:Int)^Int.toNat 32*gZ d.2.1 (4294967295:Int)+gZ d.1 (4294967295:Int)*gZ d.2.1 (4294967295:Int)/(2:Int)^Int.toNat 32)
abbrev jhr (d:Int×Int×Unit):=(d.2.1/(2:Int)^Int.toNat 32)
abbrev jkt (d:Int×Int×Unit):=(gZ (jh2 d) (4294967295:Int)+gZ d.1 (4294967295:Int)*(jhr d))
def IP:Prop:=∀(d:Int×Int×Unit),0<=d.1->d.1<=1000->0<=d.2.1->d.2.1<=1000->(0:Int)<=32/\(32:Int)<=64/\(0:Int)<=32/\(32:Int)<=64/\0<=gZ d.1 (4294967295:Int)*gZ d.2.1 (4294967295:Int)/\gZ d.1 (4294967295:Int)*gZ d.2.1 (4294967295:Int)<=18446744073709551615/\0<=d.1/(2:Int)^Int.toNat 32*gZ d.2.1 (4294967295:Int)/\d.1/(2:Int)^Int.toNat 32*gZ d.2.1 (4294967295:Int)<=18446744073709551615/\(0:Int)<=32/\(32:Int)<=64/\0<=d.1/(2:Int)^Int.toNat 32*gZ d.2.1 (4294967295:Int)+gZ d.1 (4294967295:Int)*gZ d.2.1 (4294967295:Int)/(2:Int)^Int.toNat 32/\d.1/(2:Int)^Int.toNat 32*gZ d.2.1 (4294967295:Int)+gZ d.1 (4294967295:Int)*gZ d.2.1 (4294967295:Int)/(2:Int)^Int.toNat 32<=18446744073709551615/\(0:Int)<=32/\(32:Int)<=64/\0<=gZ d.1 (4294967295:Int)*(jhr d)/\gZ d.1 (4294967295:Int)*(jhr d)<=18446744073709551615/\0<=gZ (jh2 d) (4294967295:Int)+gZ d.1 (4294967295:Int)*(jhr d)/\gZ (jh2 d) (4294967295:Int)+gZ d.1 (4294967295:Int)*(jhr d)<=18446744073709551615/\0<=d.1/(2:Int)^Int.toNat 32*(jhr d)/\d.1/(2:Int)^Int.toNat 32*(jhr d)<=18446744073709551615/\0<=d.1/(2:Int)^Int.toNat 32*(jhr d)+(jh2 d)/(2:Int)^Int.toNat 32/\d.1/(2:Int)^Int.toNat 32*(jhr d)+(jh2 d)/(2:Int)^Int.toNat 32<=18446744073709551615/\(0:Int)<=32/\(32:Int)<=64/\0<=d.1/(2:Int)^Int.toNat 32*(jhr d)+(jh2 d)/(2:Int)^Int.toNat 32+(jkt d)/(2:Int)^Int.toNat 32/\d.1/(2:Int)^Int.toNat 32*(jhr d)+(jh2 d)/(2:Int)^Int.toNat 32+(jkt d)/(2:Int)^Int.toNat 32<=18446744073709551615/\0<=d.1*d.2.1/\d.1*d.2.1<=18446744073709551615/\(d.1/(2:Int)^Int.toNat 32*(jhr d)+(jh2 d)/(2:Int)^Int.toNat 32+(jkt d)/(2:Int)^Int.toNat 32,d.1*d.2.1,())=((0:Int),d.1*d.2.1,())
def OR:w4:=⟨[.val (.uint .u64),.val (.uint .u64)],[.uint .u64,.uint .u64],false,fun d=>[0<=d.1,d.1<=1000,0<=d.2.1,d.2.1<=1000],fun d=>((0:Int),d.1*d.2.1,())⟩
def OS:Prop:=∀(d:Int×Int×Unit),0<=d.1->d.1<=1000->0<=d.2.1->d.2.1<=1000->(false=true->False)/\(qF->0<=d.1/\d.1<=1000/\0<=d.2.1/\d.2.1<=1000/\((0:Int),d.1*d.2.1,())=((0:Int),d.1*d.2.1,()))
def AW:vq:=⟨[.val (.slice .int),.val .int],[.cl (.row 3 .int .no)],fun d=>[d.1.length=1,0<=d.2.1,d.2.1<=1000],fun d=>((List.replicate d.2.1.toNat (nth d.1 0),()),())⟩
def AX:Ann:=fun r=>match r with
 |8=>some fun σ=>{X:=Nat,sl:=fun n=>[(8,.dat .int (n:Int))],ob:=fun n=>[(7,some (.row 3 .int false .no (bi (nth (gd (.slice .int) σ 0) 0) (gd .int σ 1).toNat n)))],inv:=fun n=>n<=(gd .int σ 1).toNat/\(1<=n\/(gd .int σ 1).toNat=0),mu:=fun n=>(gd .int σ 1).toNat-n}
 |_=>none
abbrev jhx (d:List Int×Int×Unit):=(d.1.length:Int)
abbrev ji9 (d:List Int×Int×Unit):=(List.replicate ((jhx d)*d.2.1).toNat (0:Int))
abbrev jja (d:List Int×Int×Unit)(x:Nat):=(bi (nth d.1 0) d.2.1.toNat x)
abbrev jio (d:List Int×Int×Unit)(x:Nat):=(↑(jja d x).length:Int)
abbrev jku (x:Nat)(d:List Int×Int×Unit):=(List.take ((x:Int).toNat-Int.toNat 0) (List.drop (Int.toNat 0) (jja d x)))
abbrev jjQ (d:List Int×Int×Unit)(x:Nat):=((jio d x).toNat-(x:Int).toNat)
abbrev jla (d:List Int×Int×Unit):=(decide ((0:Int)<0)||decide (9223372036854775807<(jhx d)*d.2.1))
def AY:Prop:=∀(d:List Int×Int×Unit),d.1.length=1->0<=d.2.1->d.2.1<=1000->(decide (d.2.1<0)=true->False)/\(decide (d.2.1<0)=false->d.1.length<4611686018427387904->0<=(jhx d)/\(jhx d)<=18446744073709551615/\0<=d.2.1/\d.2.1<=18446744073709551615/\0<=(jhx d)/\(jhx d)<=1000/\0<=d.2.1/\d.2.1<=1000/\((jla d)=true->False)/\((jla d)=false->wl ((jhx d)*d.2.1)/\0<=(jhx d)*d.2.1/\(jhx d)*d.2.1=(jhx d)*d.2.1/\((jhx d)*d.2.1).toNat*8<=140737488355328/\0+(ji9 d).length<=(ji9 d).length/\(∃(x:Nat),(((↑(List.take (ji9 d).length d.1).length:Int)=(x:Int)/\True)/\Vp (ji9 d) 0 (ji9 d).length d.1=bi (nth d.1 0) d.2.1.toNat x/\True)/\x<=d.2.1.toNat/\(1<=x\/d.2.1.toNat=0))/\∀(x:Nat),x<=d.2.1.toNat/\(1<=x\/d.2.1.toNat=0)->(jja d x).length<4611686018427387904->(decide ((x:Int)<(jio d x))=true->0<=(x:Int)/\(x:Int)<=(jio d x)/\(jio d x)<=(jio d x)/\(0:Int)<=0/\0<=(x:Int)/\(x:Int)<=(jio d x)/\(x:Int).toNat+(jjQ d x)<=(jja d x).length/\wl ((x:Int)+(List.take (jjQ d x) (jku x d)).length)/\∃(a:Nat),(((x:Int)+(List.take (jjQ d x) (jku x d)).length=(a:Int)/\True)/\Vp (jja d x) (x:Int).toNat (jjQ d x) (jku x d)=bi (nth d.1 0) d.2.1.toNat a/\True)/\(a<=d.2.1.toNat/\(1<=a\/d.2.1.toNat=0))/\d.2.1.toNat-a<d.2.1.toNat-x)/\(decide ((x:Int)<(jio d x))=false->(bi (nth d.1 0) d.2.1.toNat x,())=(List.replicate d.2.1.toNat (nth d.1 0),())/\()=())))
def gW:w4:=⟨[.val (.ptr tTk),.val (.uint .u64)],[.slice .int],false,fun d=>[d.1.isSome=true,dp (U.tk d.1)],fun d=>(lB (U.tk d.1) d.2.1,())⟩
def IQ:Ann:=fun r=>match r with
 |4=>some fun σ=>{X:=Nat×List Int,sl:=fun x=>[(6,.osl 6 .int x.2.length (qr (U.tk (gd (.ptr tTk) σ 0)) (gd (.uint .u64) σ 1) x.1).2.length)],ob:=fun x=>[(5,some (.row 3 .int false .no (qr (U.tk (gd (.ptr tTk) σ 0)) (gd (.uint .u64) σ 1) x.1).1)),(6,some (.row 3 .int false .no (x.2++(qr (U.tk (gd (.ptr tTk) σ 0)) (gd (.uint .u64) σ 1) x.1).2)))],inv:=fun x=>x.2.length<=x.1/\x.1<=(U.la (U.tc (U.tk (gd (.ptr tTk) σ 0)))).toNat,mu:=fun x=>(U.la (U.tc (U.tk (gd (.ptr tTk) σ 0)))).toNat+1-x.1}
 |7=>some fun σ=>{X:=Nat×List Int,sl:=fun x=>[(28,.any),(35,.dat .int (x.1:Int)),(6,.osl 6 .int x.2.length (ar (U.tk (gd (.ptr tTk) σ 0)) (gd (.uint .u64) σ 1) (gr .int σ 5,(gr .int σ 6).drop (glo σ 6)) x.1).2.length)],ob:=fun x=>[(5,some (.row 3 .int false .no (ar (U.tk (gd (.ptr tTk) σ 0)) (gd (.uint .u64) σ 1) (gr .int σ 5,(gr .int σ 6).drop (glo σ 6)) x.1).1)),(6,some (.row 3 .int false .no (x.2++(ar (U.tk (gd (.ptr tTk) σ 0)) (gd (.uint .u64) σ 1) (gr .int σ 5,(gr .int σ 6).drop (glo σ 6)) x.1).2)))],inv:=fun x=>x.1<=(gr .int σ 5).length/\x.2.length<=glo σ 6/\jer (U.tk (gd (.ptr tTk) σ 0)) (gd (.uint .u64) σ 1) (gr .int σ 5,(gr .int σ 6).drop (glo σ 6)) (glo σ 6),mu:=fun x=>(gr .int σ 5).length-x.1}
 |2000011=>some fun _=>{X:=Unit,sl:=fun _=>[],ob:=fun _=>[],inv:=fun _=>True,mu:=fun _=>0}
 |_=>none
abbrev jhP (d:Option (CrD×JbD×LwD×Unit)×Int×Unit):=(wR (((0:Int),[],[],()),((0:Int),(0:Int),(0:Int),(0:Int),(0:Int),(0:Int),()),((0:Int),(0:Int),false,()),()) d.1)
abbrev jg1 (d:Option (CrD×JbD×LwD×Unit)×Int×Unit)(x:Nat×List Int):=(qr (U.tk d.1) d.2.1 x.1)
abbrev jiE (d:Option (CrD×JbD×LwD×Unit)×Int×Unit)(x:Nat×List Int):=((jg1 d x).1,List.drop x.2.length (x.2++(jg1 d x).2))
abbrev jgS (d:Option (CrD×JbD×LwD×Unit)×Int×Unit)(x:Nat×List Int)(a:Nat×List Int):=(ar (U.tk d.1) d.2.1 (jiE d x) a.1)
abbrev jhE (d:Option (CrD×JbD×LwD×Unit)×Int×Unit)(x:Nat×List Int)(a:Nat×List Int):=(nth (jgS d x a).1 (a.1:Int).toNat<0)
abbrev jh3 (a:Nat×List Int):=(a.2.length+Int.toNat 0)
abbrev jiF (d:Option (CrD×JbD×LwD×Unit)×Int×Unit)(x:Nat×List Int)(a:Nat×List Int):=(ar (U.tk d.1) d.2.1 (jiE d x) a.1)
def IR:Prop:=∀(d:Option (CrD×JbD×LwD×Unit)×Int×Unit),d.1.isSome=true->dp (U.tk d.1)->d.1.isSome=true/\[(-1:Int)].length=1/\(0:Int)<=(jhP d).1.1/\(jhP d).1.1<=1000/\d.1.isSome=true/\(0:Int)<=(jhP d).2.1.2.1/\(jhP d).2.1.2.1<(↑(List.replicate (jhP d).1.1.toNat (nth [(-1:Int)] 0)).length:Int)/\d.1.isSome=true/\(∃(x:Nat×List Int),(((x.2.length=0/\(jg1 d x).2.length=[(jhP d).2.1.2.1].length)/\True)/\(List.replicate (jhP d).1.1.toNat (nth [(-1:Int)] 0)).set (jhP d).2.1.2.1.toNat 0=(jg1 d x).1/\[(jhP d).2.1.2.1]=x.2++(jg1 d x).2/\True)/\x.2.length<=x.1/\x.1<=(U.la (U.tc (U.tk d.1))).toNat)/\∀(x:Nat×List Int),x.2.length<=x.1/\x.1<=(U.la (U.tc (U.tk d.1))).toNat->(jg1 d x).2.length<4611686018427387904->(decide ((0:Int)<(jg1 d x).2.length)=true->(jg1 d x).1.length<4611686018427387904->(∃(a:Nat×List Int),((0=(a.1:Int)/\(x.2.length=a.2.length/\(jg1 d x).2.length=(jgS d x a).2.length)/\True)/\(jg1 d x).1=(jgS d x a).1/\x.2++(jg1 d x).2=a.2++(jgS d x a).2/\True)/\a.1<=(jg1 d x).1.length/\a.2.length<=x.2.length/\jer (U.tk d.1) d.2.1 (jiE d x) x.2.length)/\∀(a:Nat×List Int),a.1<=(jg1 d x).1.length/\a.2.length<=x.2.length/\jer (U.tk d.1) d.2.1 (jiE d x) x.2.length->(decide ((a.1:Int)<(jg1 d x).1.length)=true->0<=(a.1:Int)/\(a.1:Int)<(jgS d x a).1.length/\(decide (jhE d x a)=true->(0:Int)<=0)/\(decide (jhE d x a)=true->(0:Int)<(jgS d x a).2.length)/\(decide (jhE d x a)=true->d.1.isSome=true)/\(decide (jhE d x a)=true->dp (U.tk d.1))/\(decide (jhE d x a)=true->0<=nth (a.2++(jgS d x a).2) (jh3 a))/\(decide (jhE d x a)=true->nth (a.2++(jgS d x a).2) (jh3 a)<U.la (U.tc (U.tk d.1)))/\(decide (jhE d x a)=true->0<=(a.1:Int))/\(decide (jhE d x a)=true->(a.1:Int)<U.la (U.tc (U.tk d.1)))/\((decide (jhE d x a)&&nS (U.tk d.1) d.2.1 (nth (a.2++(jgS d x a).2) (jh3 a)) (a.1:Int))=true->(0:Int)<=0/\(0:Int)<(jgS d x a).2.length/\0<=nth (a.2++(jgS d x a).2) (jh3 a)/\nth (a.2++(jgS d x a).2) (jh3 a)<(↑(jgS d x a).1.length:Int)/\wl (nth (jgS d x a).1 (nth (a.2++(jgS d x a).2) (jh3 a)).toNat+1)/\0<=(a.1:Int)/\(a.1:Int)<(jgS d x a).1.length/\a.2.length+(jgS d x a).2.length=(a.2++(jgS d x a).2).length/\0<(jgS d x a).2.length/\a.2.length+(jgS d x a).2.length+[(a.1:Int)].length<4611686018427387904/\((jgS d x a).2.length+[(a.1:Int)].length)*8<=140737488355328/\∀(pre:List Int),pre.length<=a.2.length->wl ((a.1:Int)+1)/\∃(b:Nat×List Int),(((a.1:Int)+1=(b.1:Int)/\(pre.length=b.2.length/\(jgS d x a).2.length+[(a.1:Int)].length=(jiF d x b).2.length)/\True)/\pre++List.drop a.2.length (a.2++(jgS d x a).2)++[(a.1:Int)]=b.2++(jiF d x b).2/\(jgS d x a).1.set (a.1:Int).toNat (nth (jgS d x a).1 (nth (a.2++(jgS d x a).2) (jh3 a)).toNat+1)=(jiF d x b).1/\True)/\(b.1<=(jg1 d x).1.length/\b.2.length<=x.2.length/\jer (U.tk d.1) d.2.1 (jiE d x) x.2.length)/\(jg1 d x).1.length-b.1<(jg1 d x).1.length-a.1)/\((decide (jhE d x a)&&nS (U.tk d.1) d.2.1 (nth (a.2++(jgS d x a).2) (jh3 a)) (a.1:Int))=false->wl ((a.1:Int)+1)/\∃(b:Nat×List Int),(((a.2.length=b.2.length/\(jgS d x a).2.length=(jiF d x b).2.length)/\(a.1:Int)+1=(b.1:Int)/\True)/\a.2++(jgS d x a).2=b.2++(jiF d x b).2/\(jgS d x a).1=(jiF d x b).1/\True)/\(b.1<=(jg1 d x).1.length/\b.2.length<=x.2.length/\jer (U.tk d.1) d.2.1 (jiE d x) x.2.length)/\(jg1 d x).1.length-b.1<(jg1 d x).1.length-a.1))/\(decide ((a.1:Int)<(jg1 d x).1.length)=false->(0:Int)<=1/\(1:Int)<=(jgS d x a).2.length/\(↑(jgS d x a).2.length:Int)<=(jgS d x a).2.length/\∃(b:Nat×List Int),(((a.2.length+Int.toNat 1=b.2.length/\(↑(jgS d x a).2.length:Int).toNat-Int.toNat 1=(qr (U.tk d.1) d.2.1 b.1).2.length)/\True)/\(jgS d x a).1=(qr (U.tk d.1) d.2.1 b.1).1/\a.2++(jgS d x a).2=b.2++(qr (U.tk d.1) d.2.1 b.1).2/\True)/\(b.2.length<=b.1/\b.1<=(U.la (U.tc (U.tk d.1))).toNat)/\(U.la (U.tc (U.tk d.1))).toNat+1-b.1<(U.la (U.tc (U.tk d.1))).toNat+1-x.1))/\(decide ((0:Int)<(jg1 d x).2.length)=false->((jg1 d x).1,())=(lB (U.tk d.1) d.2.1,()))
theorem IT {x:Int} (a:0<=x) (b:x<=4294967295):gZ x 4294967295=x:=by
 obtain⟨n,rfl⟩:∃n:Nat,x=(n:Int):=⟨x.toNat,by omega⟩;rw[show(4294967295:Int)=((4294967295:Nat):Int) from rfl,BT.uand_nat (by omega) (by omega),show(4294967295:Nat)=2^32-1 from rfl,Nat.and_two_pow_sub_one_eq_mod,kQ (by omega)]
theorem Lx:IP:=by
 unfold IP jkt jhr jh2;rintro⟨x,y,⟨⟩⟩ b c a d;simp only at b c a d;have f:=IT b (by omega);have g:=IT a (by omega);have e:=IT (x:=0) (by omega) (by omega);have h:x/2^Int.toNat 32=0:=kI b (by show x<2^32;omega);have i:y/2^Int.toNat 32=0:=kI a (by show y<2^32;omega);have k:0<=x*y:=Int.mul_nonneg b a;have l:x*y<=1000*1000:=Int.mul_le_mul c d a (by omega);have c1:x*y/2^Int.toNat 32=0:=kI k (by show x*y<2^32;omega);have j:(0:Int)/2^Int.toNat 32=0:=Int.zero_ediv _;simp only[f,g,h,i,Int.zero_mul,Int.mul_zero,Int.add_zero,c1,e,j]
 and_intros<;>first|omega|rfl|trivial
theorem IU:w9 PR 250 IN:=wT Lx Tryz.func250 kcN koN
theorem To:OS:=by
 rintro⟨x,y,⟨⟩⟩ a b c d;exact⟨fun h=>(by cases h),fun _=>⟨a,b,c,d,rfl⟩⟩
theorem OT:w9 PR 245 OR:=wT To Tryz.func245 (kcC IU kcN) koN
theorem IV {x:Int} {N n:Nat} (h:n<=N):(bi x N n).length=N:=by
 unfold bi;simp;omega
theorem Ly {x:Int} {N n:Nat} (_:n<=N):(bi x N n).take n=List.replicate n x:=by
 unfold bi;rw[List.take_append_of_le_length (by simp),zw (by simp)]
theorem W4 {x:Int} {N n:Nat} (h:n<=N):Vp (bi x N n) n (N-n) (List.replicate n x)=bi x N (n+min (N-n) n):=by
 unfold Vp;rw[Ly h,List.take_replicate,jW];unfold bi;rw[List.drop_append,jW,List.drop_of_length_le (by simp),j0,List.drop_replicate,<-List.replicate_append_replicate];congr 2;omega
theorem DN:AY:=by
 unfold AY jla jjQ jku jio jja ji9 jhx;rintro⟨l,n,⟨⟩⟩ b g e;simp only at b g e;obtain⟨N,rfl⟩:∃N:Nat,n=(N:Int):=⟨n.toNat,by omega⟩;obtain⟨y,rfl⟩:∃y,l=[y]:=by
  cases l with
  |nil=>simp at b
  |cons y r=>cases r with
   |nil=>exact⟨y,rfl⟩
   |cons z r=>simp at b
 have c:(([y].length:Nat):Int)*(N:Int)=(N:Int):=(by simp);have f:nth [y] 0=y:=rfl
 dsimp only
 refine⟨fun h=> ?_,fun _ _=>⟨by simp,by simp,by omega,by omega,by simp,by simp,by omega,e,fun h=> ?_,fun _=> ?_⟩⟩;have:=ja h;omega;rw[c] at h;have h:(9223372036854775807:Int)<(N:Int):=(by simpa using h);omega;rw[c,f];simp only[jw,jW];refine⟨iZ6,by omega,tZ,by omega,by omega,⟨min 1 N,⟨⟨?_,tZ⟩,?_,tZ⟩,by omega,by omega⟩,fun x a i=>⟨fun h=> ?_,fun h=> ?_⟩⟩;rw[jZ];simp only[za,zu];omega;rcases zR N with d|d;subst d;rfl;obtain⟨M,rfl⟩:∃M,N=M+1:=⟨N-1,by omega⟩;have:min 1 (M+1)=1:=(by omega);rw[this];simp[Vp,bi,List.replicate_succ];have h:=ja h;rw[IV a.1] at h;simp only[IV a.1,Int.toNat_zero,List.drop_zero,kz,Ly a.1,List.take_replicate,jW];refine⟨by omega,by omega,by omega,by omega,by omega,by omega,by omega,iZ6,x+min (N-x) x,⟨⟨by omega,tZ⟩,W4 a.1,tZ⟩,⟨by omega,by omega⟩,by omega⟩;have h:=jc h;rw[IV a.1] at h;have h:x=N:=(by have:=a.1;omega);subst h;refine⟨?_,tZ⟩;unfold bi;rw[Nat.sub_self];simp
theorem AZ:ax PR 236 AW:=tD AX DN Tryz.func236 (kcC OT kcN) koN
theorem jdd {a b:List Int}:nth (a++b) (a.length+Int.toNat 0)=nth b 0:=by
 unfold nth;simp only[zg,Int.toNat_zero,zM];rw[jx (jj _),Nat.sub_self]
theorem Lz {t:TkD} {s:Int} (a:dp t):2<=U.la (U.tc t)/\U.la (U.tc t)<=5/\0<=HT (U.tj t)/\HT (U.tj t)<U.la (U.tc t):=by
 obtain⟨c1,c2,_⟩:=a;obtain⟨b,c,_⟩:=qe c1;obtain⟨_,⟨d,e⟩,_⟩:=na c2;exact⟨b,c,d,e⟩
theorem LA:IR:=by
 unfold IR jiF jh3 jhE jgS jiE jg1 jhP;rintro⟨(_|t),s,⟨⟩⟩ h0 m;cases h0;have m:dp t:=m;obtain⟨l1,l2,j1,j2⟩:=Lz (s:=s) m;have w:U.tk (some t)=t:=rfl;obtain⟨n,A⟩:∃n,n=(U.la (U.tc t)).toNat:=⟨_,rfl⟩;obtain⟨v,hv⟩:∃v,v=(HT (U.tj t)).toNat:=⟨_,rfl⟩;have Z:v<n:=(by omega);have X:∀k,jen (NC t s) n v (qr t s k)/\((qr t s k).2=[]\/La (qr t s k).1+(qr t s k).2.length+k=n):=by
  intro k;rw[A,hv] at*;exact DE Z k
 refine⟨rfl,rfl,(by omega:0<=U.la (U.tc t)),(by omega:U.la (U.tc t)<=1000),rfl,j1,?_,rfl,⟨(0,[]),⟨⟨⟨rfl,rfl⟩,tZ⟩,rfl,?_,tZ⟩,jj _,jl _⟩,fun x hx S=>⟨fun j T=> ?_,fun h=> ?_⟩⟩;show HT (U.tj t)<(((List.replicate (U.la (U.tc t)).toNat (nth [(-1:Int)] 0)).length:Nat):Int);rw[jW];omega;show[HT (U.tj t)]=[]++[(((HT (U.tj t)).toNat:Nat):Int)];rw[j0,Int.toNat_of_nonneg j1];obtain⟨k,pre⟩:=x;obtain⟨W,H⟩:=hx;simp only[w,List.drop_left] at W H j T S⊢;rw[<-A] at H⊢;obtain⟨B,o⟩:=X k;have j:0<(qr t s k).2.length:=(by have:=ja j;omega);have d:(qr t s k).2≠[]:=fun e=>by rw[e] at j;simp at j
 have F:=B.i.len;rcases o with o|o;exact absurd o d;have p:qr t s (k+1)=aW (NC t s) n (qr t s k):=(by rw[A];rfl);generalize V:qr t s k=x0 at*;obtain⟨g,r0,a⟩:∃q r,x0.2=q::r:=by
  cases I:x0.2 with
  |nil=>exact absurd I d
  |cons q r=>exact⟨q,r,rfl⟩
 obtain⟨L,g2,g3⟩:=B.i.que g (by rw[a];simp);have y:nth x0.2 0=g:=(by rw[a];rfl);have hla:((n:Nat):Int)=U.la (U.tc t):=(by omega);have f:jer t s (x0.1,x0.2) pre.length:=by
  unfold jer;rw[<-A,<-hv];exact⟨B,d,by simp only;omega,by omega⟩
 refine⟨⟨(0,pre),⟨⟨rfl,⟨rfl,rfl⟩,tZ⟩,rfl,rfl,tZ⟩,jl _,jj _,f⟩,?_⟩;rintro⟨i,p5⟩ ⟨hi,Q,_⟩;simp only at hi Q;have C:InI (NC t s) n v g.toNat i x0 (ar t s (x0.1,x0.2) i):=by
  have:=WV (J:=NC t s) Z (q:=g.toNat) (by omega) g3 B.i B.le i (by omega);unfold ar;simp only[y];exact this
 have c:ar t s (x0.1,x0.2) (i+1)=uD (NC t s) g.toNat (ar t s (x0.1,x0.2) i) i:=by
  unfold ar;simp only[y];exact Hu _ _ _ _
 have D:i=n->qr t s (k+1)=((ar t s (x0.1,x0.2) i).1,(ar t s (x0.1,x0.2) i).2.drop 1):=by
  intro e;subst e;rw[p];have:aW (NC t s) i x0=((uE (NC t s) g.toNat x0 i).1,(uE (NC t s) g.toNat x0 i).2.drop 1):=by
   clear p c C f F d B X V;obtain⟨st,qu⟩:=x0;simp only at a;subst a;rfl
  rw[this];unfold ar;simp only[y]
 generalize hFI:ar t s (x0.1,x0.2) i=u at*;obtain⟨l,P⟩:=C.pre;have hQ:nth u.2 0=g:=(by rw[P,a];rfl);have G:0<u.2.length:=(by rw[P,a];simp);have hmu:=C.mu;have hFl:=C.i.len;have E:∀i:Nat,NC t s g.toNat i=nS t s g (i:Int):=by
  intro i;unfold NC;rw[Int.toNat_of_nonneg L]
 simp only[jdd,hQ];simp only[jw];refine⟨fun h=> ?_,fun h=> ?_⟩;have h:i<n:=(by have:=ja h;omega);refine⟨by omega,by omega,fun _=>by omega,fun _=>by omega,fun _=>rfl,fun _=>m,fun _=>L,fun _=>by omega,fun _=>by omega,fun _=>by omega,fun z=> ?_,fun z=> ?_⟩;rw[ji] at z;have h3:=ja z.1;have Y:=C.i.low g.toNat (by omega);have b:ar t s (x0.1,x0.2) (i+1)=(u.1.set i (nth u.1 g.toNat+1),u.2++[(i:Int)]):=by
  rw[c];unfold uD;rw[je ⟨h3,by rw[E];exact z.2⟩]
 refine⟨by omega,by omega,L,by omega,iZ6,by omega,by omega,by simp,G,by simp only[za,zu];omega,by simp only[za,zu];omega,fun K R=>⟨iZ6,(i+1,K),⟨⟨by simp,⟨rfl,?_⟩,tZ⟩,?_,?_,tZ⟩,⟨by simp only;omega,by simp only;omega,f⟩,by simp only;omega⟩⟩;rw[b];simp;rw[b,jN];rw[b];have b:ar t s (x0.1,x0.2) (i+1)=u:=by
  rw[c];unfold uD;rw[jd (fun N=>by
   rw[E] at N;rw[N.2,jG N.1] at z;cases z)]
 refine⟨iZ6,(i+1,p5),⟨⟨⟨rfl,?_⟩,by simp,tZ⟩,?_,?_,tZ⟩,⟨by simp only;omega,by simp only;omega,f⟩,by simp only;omega⟩;rw[b];rw[b];rw[b];have h:i=n:=(by have:=jc h;omega);have O:=D h;have M:u.2=g::(r0++l):=(by rw[P,a];rfl);refine⟨by omega,by omega,by omega,(k+1,p5++[g]),⟨⟨⟨?_,?_⟩,tZ⟩,?_,?_,tZ⟩,⟨by simp only[jH,za,zu];omega,by simp only;omega⟩,by simp only;omega⟩;simp only[jH,za,zu];rfl;rw[O];simp only[zH];rfl;rw[O];rw[O,M];simp;simp only[w] at h⊢;have h:(qr t s x.1).2=[]:=by
  have:=jc h;exact zk (by omega)
 have hk:x.1<=n:=(by have:=hx.2;rw[w,<-A] at this;exact this);have h1:bm (NC t s) (U.la (U.tc t)).toNat (HT (U.tj t)).toNat ((U.la (U.tc t)).toNat+1)=qr t s x.1:=Z8 (k:=x.1) h _ (by rw[<-A];omega);show((qr t s x.1).1,())=((bm (NC t s) (U.la (U.tc t)).toNat (HT (U.tj t)).toNat ((U.la (U.tc t)).toNat+1)).1,());rw[h1]
theorem IW:w9 PR 215 gW:=vb IQ LA Tryz.func215 (kcC AV kcN) (koC AZ koN)
namespace U
def dI (t:TkD) (o:Int) (q:List (Int×PeD×Unit)):Int:=q.foldl (fun o x=>uor o (yL t x.2.1)) o
def io (q:List (Int×PeD×Unit)):Bool:=q.any (fun x=>jd6 x.2.1)
def GA (b:Bool) (o k:Int):Int:=if b=true then uor o k else o
def yh (t:TkD) (s:Int):Int:=GA (decide (nth (lB t s) (NB (tj t)).toNat<0)) (GA (jfM (tl t)&& !io (AD t s)) (GA (decide (BT.size s≠max (jbp (tj t)) (jd7 (tl t)))) (dI t 0 (AD t s)) 8) 16) 32
def J8 (c:CrD) (n:Int):Bool:=wa n 0 (2^(wj c).length-1)
def ce (c:CrD) (j:JbD) (n:Int):Int:=if vV c j≠0 then vV c j else if J8 c n=true then 0 else 1
def jes (c:CrD) (j:JbD) (n:Int):Int:=if ce c j n=0 then yh (c,j,dH c j,()) n else 0
def dq (c:CrD) (j:JbD) (n:Nat):List Int:=((List.range n).filter (fun i=>decide (yL (c,j,dH c j,()) (nth (wj c) i)=0))).map (fun(i:Nat)=>(i:Int))
def d9 (c:CrD) (j:JbD):List Int:=if vV c j=0 then dq c j (wj c).length else[]
end U
def yJ:w4:=⟨[.val (.ptr tTk),.val tPe],[.uint .u64],false,fun d=>[d.1.isSome=true,dp (U.tk d.1)],fun d=>(yL (U.tk d.1) d.2.1,())⟩
def W5:K0 [.int,tPe]:={ps:=[.ref (.ptr tTk),.own (.box 195 [.dat (.uint .u64)]) true,.own (.box 4 [.dat .bool]) true],slots:=[2,4,5],dst:=65,pre:=fun d=>[d.1.isSome=true,dp (U.tk d.1)],G:=fun d q=>((dI (U.tk d.1) d.2.1.1 q,()),(d.2.2.1.1||io q,()),()),seq:=RU}
def DO:Nat->Option ((ts:List Ty)×K0 ts):=fun r=>match r with
 |4=>some ⟨[.int,tPe],W5⟩
 |_=>none
def lJ:w4:=⟨[.val (.ptr tTk),.val (.uint .u64)],[.uint .u64],false,fun d=>[d.1.isSome=true,dp (U.tk d.1),BT.qm d.2.1],fun d=>(yh (U.tk d.1) d.2.1,())⟩
abbrev jg8 (d:Option (CrD×JbD×LwD×Unit)×Int×Unit):=(wR (((0:Int),[],[],()),((0:Int),(0:Int),(0:Int),(0:Int),(0:Int),(0:Int),()),((0:Int),(0:Int),false,()),()) d.1)
abbrev jh4 (d:Option (CrD×JbD×LwD×Unit)×Int×Unit):=(nth (lB (U.tk d.1) d.2.1) (jg8 d).2.1.1.toNat<0)
abbrev jhQ (d:Option (CrD×JbD×LwD×Unit)×Int×Unit):=(yh (U.tk d.1) d.2.1,())
abbrev jkv:=(fun(a:List (Int×PeD×Unit))=>false)
abbrev jjR (d:Option (CrD×JbD×LwD×Unit)×Int×Unit):=(↑(lB (U.tk d.1) d.2.1).length:Int)
def lK:Prop:=∀(d:Option (CrD×JbD×LwD×Unit)×Int×Unit),d.1.isSome=true->dp (U.tk d.1)->BT.qm d.2.1->(d.1.isSome=true/\(wj (U.tc (U.tk d.1))).length<=60)/\(d.1.isSome=true/\dp (U.tk d.1)/\True)/\(d.1,(dI (U.tk d.1) (0:Int) [],()),(false||io [],()),())=(d.1,((0:Int),()),(false,()),())/\(∀(q:List (Int×PeD×Unit)) (x:Int×PeD×Unit) (rest:List (Int×PeD×Unit)),q++x::rest=AD (U.tk d.1) d.2.1->gj jkv q->d.1.isSome=true/\dp (U.tk d.1)/\qF/\((uor (dI (U.tk d.1) (0:Int) q) (yL (U.tk d.1) x.2.1),()),(false||io q||x.2.1.q4.1,()),())=((dI (U.tk d.1) (0:Int) (q++[x]),()),(false||io (q++[x]),()),()))/\(∀(xs:List (Int×PeD×Unit)),xs=AD (U.tk d.1) d.2.1->gj jkv xs->BT.qm d.2.1/\d.1.isSome=true/\d.1.isSome=true/\(decide (BT.size d.2.1≠max (jg8 d).2.1.q4.2.1 (jg8 d).2.2.1.2.1)=true->d.1.isSome=true/\(((jg8 d).2.2.1.2.2.1&& !(false||io xs))=true->d.1.isSome=true/\dp (U.tk d.1)/\d.1.isSome=true/\(0:Int)<=(jg8 d).2.1.1/\(jg8 d).2.1.1<(jjR d)/\(decide (jh4 d)=true->(uor (uor (uor (dI (U.tk d.1) (0:Int) xs) (8:Int)) (16:Int)) (32:Int),())=(jhQ d))/\(decide (jh4 d)=false->(uor (uor (dI (U.tk d.1) (0:Int) xs) (8:Int)) (16:Int),())=(jhQ d)))/\(((jg8 d).2.2.1.2.2.1&& !(false||io xs))=false->d.1.isSome=true/\dp (U.tk d.1)/\d.1.isSome=true/\(0:Int)<=(jg8 d).2.1.1/\(jg8 d).2.1.1<(jjR d)/\(decide (jh4 d)=true->(uor (uor (dI (U.tk d.1) (0:Int) xs) (8:Int)) (32:Int),())=(jhQ d))/\(decide (jh4 d)=false->(uor (dI (U.tk d.1) (0:Int) xs) (8:Int),())=(jhQ d))))/\(decide (BT.size d.2.1≠max (jg8 d).2.1.q4.2.1 (jg8 d).2.2.1.2.1)=false->d.1.isSome=true/\(((jg8 d).2.2.1.2.2.1&& !(false||io xs))=true->d.1.isSome=true/\dp (U.tk d.1)/\d.1.isSome=true/\(0:Int)<=(jg8 d).2.1.1/\(jg8 d).2.1.1<(jjR d)/\(decide (jh4 d)=true->(uor (uor (dI (U.tk d.1) (0:Int) xs) (16:Int)) (32:Int),())=(jhQ d))/\(decide (jh4 d)=false->(uor (dI (U.tk d.1) (0:Int) xs) (16:Int),())=(jhQ d)))/\(((jg8 d).2.2.1.2.2.1&& !(false||io xs))=false->d.1.isSome=true/\dp (U.tk d.1)/\d.1.isSome=true/\(0:Int)<=(jg8 d).2.1.1/\(jg8 d).2.1.1<(jjR d)/\(decide (jh4 d)=true->(uor (dI (U.tk d.1) (0:Int) xs) (32:Int),())=(jhQ d))/\(decide (jh4 d)=false->(dI (U.tk d.1) (0:Int) xs,())=(jhQ d)))))/\∀(q:List (Int×PeD×Unit)) (x:Int×PeD×Unit) (rest:List (Int×PeD×Unit)),q++x::rest=AD (U.tk d.1) d.2.1->gj jkv q->false=true->(dI (U.tk d.1) (0:Int) (q++[x]),())=(jhQ d)
theorem rJ:(RQ (NA 64 [(180,yJ),(214,gV),(215,gW)] [] [(213,w8)] []) lJ (fun _ _=>none) (hkC (NA 64 [(180,yJ),(214,gV),(215,gW)] [] [(213,w8)] []) (fun _=>none) DO [] []) Tryz.f186 (qq Tryz.f186))=lK:=by kernel_rfl
def W6:w4:=⟨[.val tCr,.val tJb,.val .int],[.ptr tTk,.int],false,fun _=>[],fun d=>(HU d.1 d.2.1,ce d.1 d.2.1 d.2.2.1,())⟩
abbrev jiG (d:CrD×JbD×Int×Unit):=(vV d.1 d.2.1=0)
abbrev jlb (d:CrD×JbD×Int×Unit):=(decide (jiG d)&& !wa d.2.2.1 (0:Int) ((1:Int)*2^(d.1.2.1.length:Int).toNat-1))
def W7:Prop:=∀(d:CrD×JbD×Int×Unit),(decide (jiG d)=true->d.1.2.1.length<4611686018427387904)->(decide (jiG d)=true->0<=(d.1.2.1.length:Int))/\(decide (jiG d)=true->(d.1.2.1.length:Int)<=64)/\(decide (jiG d)=true->wl ((1:Int)*2^(d.1.2.1.length:Int).toNat))/\(decide (jiG d)=true->wl ((1:Int)*2^(d.1.2.1.length:Int).toNat-1))/\((jlb d)=true->(HU d.1 d.2.1,(1:Int),())=(HU d.1 d.2.1,ce d.1 d.2.1 d.2.2.1,()))/\((jlb d)=false->(HU d.1 d.2.1,vV d.1 d.2.1,())=(HU d.1 d.2.1,ce d.1 d.2.1 d.2.2.1,()))
def OU:w4:=⟨[.val tCr,.val tJb,.val .int],[.int,.int],false,fun _=>[],fun d=>(jes d.1 d.2.1 d.2.2.1,ce d.1 d.2.1 d.2.2.1,())⟩
def OV:Prop:=∀(d:CrD×JbD×Int×Unit),(decide (ce d.1 d.2.1 d.2.2.1≠0)=true->((0:Int),ce d.1 d.2.1 d.2.2.1,())=(jes d.1 d.2.1 d.2.2.1,ce d.1 d.2.1 d.2.2.1,()))/\(decide (ce d.1 d.2.1 d.2.2.1≠0)=false->0<=d.2.2.1/\d.2.2.1<=18446744073709551615/\(HU d.1 d.2.1).isSome=true/\dp (U.tk (HU d.1 d.2.1))/\BT.qm d.2.2.1/\wl (yh (U.tk (HU d.1 d.2.1)) d.2.2.1)/\(yh (U.tk (HU d.1 d.2.1)) d.2.2.1,(0:Int),())=(jes d.1 d.2.1 d.2.2.1,ce d.1 d.2.1 d.2.2.1,()))
def jaa:w4:=⟨[.val tCr,.val tJb],[.slice .int,.int],false,fun _=>[],fun d=>(d9 d.1 d.2.1,vV d.1 d.2.1,())⟩
def jab:Ann:=fun r=>match r with
 |6=>some fun σ=>{X:=Nat,sl:=fun i=>[(23,.dat .int (i:Int)),(8,.own 8 .int)],ob:=fun i=>[(8,some (.row 3 .int false .yes (dq (gd tCr σ 0) (gd tJb σ 1) i)))],inv:=fun i=>i<=(wj (gd tCr σ 0)).length,mu:=fun i=>(wj (gd tCr σ 0)).length-i}
 |_=>none
def jac:Prop:=∀(d:CrD×JbD×Unit),(decide (vV d.1 d.2.1≠0)=true->([],vV d.1 d.2.1,())=(d9 d.1 d.2.1,vV d.1 d.2.1,()))/\(decide (vV d.1 d.2.1≠0)=false->d.1.2.1.length<4611686018427387904->(∃(x:Nat),((0=(x:Int)/\True/\True)/\dq d.1 d.2.1 x=[]/\True)/\x<=(wj d.1).length)/\∀(x:Nat),x<=(wj d.1).length->(decide ((x:Int)<d.1.2.1.length)=true->0<=(x:Int)/\(x:Int)<d.1.2.1.length/\(HU d.1 d.2.1).isSome=true/\dp (U.tk (HU d.1 d.2.1))/\(decide (yL (U.tk (HU d.1 d.2.1)) (nth d.1.2.1 (x:Int).toNat)=0)=true->((dq d.1 d.2.1 x).length+[(x:Int)].length)*8<=140737488355328/\wl ((x:Int)+1)/\∃(a:Nat),(((x:Int)+1=(a:Int)/\True/\True)/\dq d.1 d.2.1 x++[(x:Int)]=dq d.1 d.2.1 a/\True)/\a<=(wj d.1).length/\(wj d.1).length-a<(wj d.1).length-x)/\(decide (yL (U.tk (HU d.1 d.2.1)) (nth d.1.2.1 (x:Int).toNat)=0)=false->wl ((x:Int)+1)/\∃(a:Nat),((True/\(x:Int)+1=(a:Int)/\True)/\dq d.1 d.2.1 x=dq d.1 d.2.1 a/\True)/\a<=(wj d.1).length/\(wj d.1).length-a<(wj d.1).length-x))/\(decide ((x:Int)<d.1.2.1.length)=false->(dq d.1 d.2.1 x,(0:Int),())=(d9 d.1 d.2.1,vV d.1 d.2.1,())))
theorem W8 (a b c:Bool):0<=Vj a b c/\Vj a b c<=7:=by
 unfold Vj jeq;cases a<;>cases b<;>cases c<;>simp
theorem DP (t:TkD) (p:PeD):0<=yL t p/\yL t p<=7:=W8 _ _ _
theorem LB {s:Int} (h:0<=s/\s<=1000):BT.qm s:=by unfold BT.qm;omega
theorem W9 {a b:Int} (c:0<=a/\a<64) (d:0<=b/\b<64):0<=uor a b/\uor a b<64:=by
 obtain⟨n,rfl⟩:∃n:Nat,a=(n:Int):=⟨a.toNat,by omega⟩;obtain⟨m,rfl⟩:∃m:Nat,b=(m:Int):=⟨b.toNat,by omega⟩;rw[BT.uor_nat (by omega) (by omega)];have:n|||m<2^6:=kw (by omega) (by omega);omega
theorem OW (t:TkD):∀(q:List (Int×PeD×Unit)) (o:Int),(0<=o/\o<64)->0<=dI t o q/\dI t o q<64
 |[],o,h=>h
 |x::q,o,h=>by
  have:=DP t x.2.1
  exact OW t q _ (W9 h ⟨by omega,by omega⟩)
theorem DQ {b:Bool} {o k:Int} (h:0<=o/\o<64) (hk:0<=k/\k<64):0<=GA b o k/\GA b o k<64:=by
 unfold GA
 split
 exact W9 h hk;exact h
theorem Tp (t:TkD) (s:Int):0<=yh t s/\yh t s<64:=by
 unfold yh;exact DQ (DQ (DQ (OW t _ _ (by omega)) (by omega)) (by omega)) (by omega)
theorem Xa (t:TkD) (o:Int) (q:List (Int×PeD×Unit)) (x:Int×PeD×Unit):dI t o (q++[x])=uor (dI t o q) (yL t x.2.1):=by
 unfold dI;rw[jO];rfl
theorem jad {t:TkD} {s:Int} (a:dp t):((lB t s).length:Int)=U.la (U.tc t):=by
 obtain⟨f,g,c,d⟩:=Lz (s:=s) a;have b:(HT (U.tj t)).toNat<(U.la (U.tc t)).toNat:=(by omega);have:=(DE (J:=NC t s) b ((U.la (U.tc t)).toNat+1)).1.i.len;have e:(lB t s).length=(U.la (U.tc t)).toNat:=this;omega
theorem DR:lK:=by
 unfold lK jjR jkv jhQ jh4 jg8 Prod.q4;rintro⟨(_|t),s,⟨⟩⟩ n a c;cases n;have a:dp t:=a;have c:BT.qm s:=c;obtain⟨c1,c2,_⟩:=id a;obtain⟨_,_,p,_⟩:=qe c1;obtain⟨⟨m,r⟩,_⟩:=na c2;have o:=jad (s:=s) a;have f:U.tk (some t)=t:=rfl;have b:0<=NB (U.tj t)/\NB (U.tj t)<(((lB t s).length:Nat):Int):=⟨m,by omega⟩;refine⟨⟨rfl,(by omega:(wj (U.tc t)).length<=60)⟩,⟨rfl,a,tZ⟩,rfl,fun q x rest u _=>⟨rfl,a,rfl,?_⟩,fun xs g _=>⟨c,rfl,rfl,?_⟩,fun q x rest _ _ h=>by cases h⟩;simp only[f,Xa];unfold io;simp only[kW,List.any_cons,List.any_nil,kS,Bool.false_or];rfl;simp only[f] at g⊢;subst g;have key:∀(j k l:Bool),decide (BT.size s≠max (jbp (U.tj t)) (jd7 (U.tl t)))=j->(jfM (U.tl t)&& !io (AD t s))=k->decide (nth (lB t s) (NB (U.tj t)).toNat<0)=l->
  GA l (GA k (GA j (dI t 0 (AD t s)) 8) 16) 32=yh t s:=by
  intro j k l i e d;unfold yh;rw[i,e,d]
 refine⟨fun i=>⟨rfl,fun e=>⟨rfl,a,rfl,b.1,b.2,fun d=> ?_,fun d=> ?_⟩,fun e=>⟨rfl,a,rfl,b.1,b.2,fun d=> ?_,fun d=> ?_⟩⟩,fun i=>⟨rfl,fun e=>⟨rfl,a,rfl,b.1,b.2,fun d=> ?_,fun d=> ?_⟩,fun e=>⟨rfl,a,rfl,b.1,b.2,fun d=> ?_,fun d=> ?_⟩⟩⟩<;>
  (rw[Bool.false_or] at e;have:=key _ _ _ i e d;rw[<-this];rfl)
theorem IX {c:CrD} (h:wy c=true):(0:Int)<2^(wj c).length/\(2:Int)^(wj c).length<=256:=by
 obtain⟨_,_,a,_⟩:=qe h;rw[BT.Ci];have b:2^(wj c).length<=2^8:=Nat.pow_le_pow_right (by decide) a;have d:0<2^(wj c).length:=Nat.pow_pos (by decide);omega
theorem jae:W7:=by
 unfold W7 jlb jiG;rintro⟨c,j,n,⟨⟩⟩ _;have e:∀l:Nat,(1:Int)*2^((l:Int)).toNat=2^l:=fun l=>by rw[Int.one_mul,jw]
 simp only[e];refine⟨fun _=>by omega,fun h=> ?_,fun h=> ?_,fun h=> ?_,fun h=> ?_,fun h=> ?_⟩;have:=(qe (rI (ja h)).1).2.2.1;have this:c.2.1.length<=8:=this;omega;have:=IX (rI (ja h)).1;have this:(0:Int)<2^c.2.1.length/\(2:Int)^c.2.1.length<=256:=this;exact iZ6;have:=IX (rI (ja h)).1;have this:(0:Int)<2^c.2.1.length/\(2:Int)^c.2.1.length<=256:=this;exact iZ6;rw[ji] at h;have a:=ja h.1;have b:J8 c n=false:=by
  have d:wa n 0 (2^c.2.1.length-1)=false:=(by simpa using h.2);exact d
 unfold ce;rw[jd (by omega),jd (by rw[b];simp)];unfold ce;by_cases a:vV c j=0;rw[jG a,Bool.true_and] at h;have b:J8 c n=true:=by
  have d:wa n 0 (2^c.2.1.length-1)=true:=(by simpa using h);exact d
 rw[jd (by omega),je b,a];rw[je a]
theorem Xb:w9 PR 185 W6:=wT jae Tryz.func185 (kcC Lt (kcC ay kcN)) koN
theorem Tq {c:CrD} {j:JbD} {n:Int} (h:ce c j n=0):vV c j=0/\0<=n/\n<2^(wj c).length:=by
 unfold ce at h
 split at h
 rename_i b;omega;rename_i b
 split at h
 rename_i a;unfold J8 wa at a;simp only[ji,jp] at a;exact⟨by omega,a.1,by omega⟩;omega
theorem Tr:OV:=by
 rintro⟨c,j,n,⟨⟩⟩;refine⟨fun h=> ?_,fun h=> ?_⟩;have h:ce c j n≠0:=ja h;simp only;unfold jes;rw[jd h];have h:ce c j n=0:=(by simpa using h);obtain⟨d,e,f⟩:=Tq h;obtain⟨b,e2⟩:=W2 d;have i:=IX (rI d).1;have a:U.tk (HU c j)=(c,j,dH c j,()):=(by rw[b];rfl);have g:=Tp (c,j,dH c j,()) n;simp only[a];refine⟨e,by omega,by rw[b];rfl,e2,LB ⟨e,by omega⟩,iZ6,?_⟩;unfold jes;rw[je h,h]
theorem Hw (c:CrD) (j:JbD) (n:Nat):dq c j (n+1)=dq c j n++(if yL (c,j,dH c j,()) (nth (wj c) n)=0 then[(n:Int)] else[]):=by
 unfold dq;rw[L.yt,zn];by_cases h:yL (c,j,dH c j,()) (nth (wj c) n)=0;rw[je (jG h),je h];rfl;rw[jd (by simpa using h),jd h];rfl
theorem Xc (c:CrD) (j:JbD) (n:Nat):(dq c j n).length<=n:=by
 unfold dq;rw[zf];exact jF (zA _ _) (by simp)
theorem jde:jac:=by
 rintro⟨c,j,⟨⟩⟩;refine⟨fun h=> ?_,fun h _=>⟨⟨0,⟨⟨rfl,tZ,tZ⟩,rfl,tZ⟩,jl _⟩,fun x f=>⟨fun a=> ?_,fun a=> ?_⟩⟩⟩;have h:vV c j≠0:=ja h;simp only;unfold d9;rw[jd h];have h:vV c j=0:=(by simpa using h);obtain⟨e,e2⟩:=W2 h;have d:U.tk (HU c j)=(c,j,dH c j,()):=(by rw[e];rfl);have a:x<(wj c).length:=by
  have a:=ja a;have a:(x:Int)<(wj c).length:=a;omega
 have g:(x:Int)<(wj c).length:=(by omega);have i:=(qe (rI h).1).2.2.1;have k:=Xc c j x;simp only[d,jw];refine⟨by omega,g,by rw[e];rfl,e2,fun b=>⟨by simp only[za,zu];omega,iZ6,x+1,⟨⟨by simp,tZ,tZ⟩,?_,tZ⟩,a,by omega⟩,fun b=>⟨iZ6,x+1,⟨⟨tZ,by simp,tZ⟩,?_,tZ⟩,a,by omega⟩⟩;have b:yL (c,j,dH c j,()) (nth (wj c) x)=0:=ja b;rw[Hw,je b];have b:¬yL (c,j,dH c j,()) (nth (wj c) x)=0:=jc b;rw[Hw,jd b,j6];have h:vV c j=0:=(by simpa using h);have a:(wj c).length<=x:=by
  have a:=jc a;have a:¬(x:Int)<(wj c).length:=a;omega
 have f:x<=(wj c).length:=f;simp only;unfold d9;rw[je h,h,show x=(wj c).length by omega]
def DS:Ann:=fun r=>match r with
 |2=>some fun σ=>{X:=List (Int×Int)×Int,sl:=fun x=>[(4,.dat (.uint .u64) x.2)],ob:=fun x=>[(37,some (.iter .int .int x.1 none))],inv:=fun x=>cd (uG (U.tk (gd (.ptr tTk) σ 0)) (gd tPe σ 1)) x.1 x.2,mu:=fun x=>x.1.length}
 |_=>none
abbrev jip (d:Option (CrD×JbD×LwD×Unit)×PeD×Unit):=(wR (((0:Int),[],[],()),((0:Int),(0:Int),(0:Int),(0:Int),(0:Int),(0:Int),()),((0:Int),(0:Int),false,()),()) d.1)
def DT:Prop:=∀(d:Option (CrD×JbD×LwD×Unit)×PeD×Unit),d.1.isSome=true->dp (U.tk d.1)->d.1.isSome=true/\d.1.isSome=true/\(0:Int)<=(jip d).2.1.2.2.2.1/\(jip d).2.1.2.2.2.1<=64/\d.1.isSome=true/\(0:Int)<=(jip d).2.1.q4.1/\(jip d).2.1.q4.1<=64/\[(0:Int),(1:Int),(2:Int)].Nodup/\∀(l:List (Int×Int)),l.Perm [((0:Int),jeq !d.2.1.2.2.2.1.any fun(e:Int)=>decide (e=(jip d).2.1.2.2.1)),((1:Int),iA (d.2.1.2.1/(2:Int)^(jip d).2.1.2.2.2.1.toNat) (1:Int)),((2:Int),iA (d.2.1.2.2.1/(2:Int)^(jip d).2.1.q4.1.toNat) (1:Int))]->(((∃(x:List (Int×Int)×Int),((0=x.2/\True)/\l=x.1/\True)/\cd (uG (U.tk d.1) d.2.1) x.1 x.2)/\∀(x:List (Int×Int)×Int),cd (uG (U.tk d.1) d.2.1) x.1 x.2->(x.1=[]->(false=true->False)/\(qF->(x.2,())=(yL (U.tk d.1) d.2.1,())))/\∀(pre:List (Int×Int)) (a:Int×Int) (b:List (Int×Int)),x.1=pre++a::b->(true=true->(decide (a.2=0)=true->0<=a.1/\a.1<=64/\(0:Int)<=1*2^a.1.toNat/\(1:Int)*2^a.1.toNat<=18446744073709551615/\∃(c:List (Int×Int)×Int),((uor x.2 ((1:Int)*2^a.1.toNat)=c.2/\True)/\pre++b=c.1/\True)/\cd (uG (U.tk d.1) d.2.1) c.1 c.2/\c.1.length<x.1.length)/\(decide (a.2=0)=false->∃(c:List (Int×Int)×Int),((x.2=c.2/\True)/\pre++b=c.1/\True)/\cd (uG (U.tk d.1) d.2.1) c.1 c.2/\c.1.length<x.1.length))/\(true=false->(x.2,())=(yL (U.tk d.1) d.2.1,())))/\True)/\True
theorem jaf (z:Int):iA z 1=0\/iA z 1=1:=by
 unfold iA;rw[BitVec.toNat_and];have a:(BitVec.ofInt 64 1).toNat=1:=rfl;rw[a,kH];rcases Nat.mod_two_eq_zero_or_one (BitVec.ofInt 64 z).toNat with h|h;rw[h];exact .inl rfl;rw[h];exact .inr rfl
theorem RV (s n:Int):(iA (s/2^n.toNat) 1=0)↔(!w7 s n)=true:=by
 unfold w7;rcases jaf (s/2^n.toNat) with h|h<;>rw[h]<;>simp
theorem jag (a b c:Bool) (p:Nat):BT.has (Vj a b c) p=true↔(a=true/\p=0)\/(b=true/\p=1)\/(c=true/\p=2):=by
 match p with
 |0=>cases a<;>cases b<;>cases c<;>decide
 |1=>cases a<;>cases b<;>cases c<;>decide
 |2=>cases a<;>cases b<;>cases c<;>decide
 |p+3=>
  have h:=W8 a b c;have:BT.has (Vj a b c) (p+3)=false:=by
   cases d:BT.has (Vj a b c) (p+3) with
   |false=>rfl
   |true=>have:=BT.has_lt (k:=3) h.1 (by omega) d;omega
  rw[this];simp
theorem jah (t:TkD) (p:PeD) (k:Nat):(∃e∈uG t p,e.2=0/\e.1.toNat=k)↔BT.has (yL t p) k=true:=by
 unfold yL;rw[jag];have c:jeq (!dm p (Zn (U.tj t)))=0↔dm p (Zn (U.tj t))=true:=by
  unfold jeq;cases dm p (Zn (U.tj t))<;>simp
 have e2:=RV (U.fd p) (QR (U.tj t));have d:=RV (U.cl p) (ct (U.tj t));unfold uG;simp only[jk,List.not_mem_nil,or_false];rw[<-c,<-e2,<-d];constructor;rintro⟨e,(rfl|rfl|rfl),a,b⟩;exact .inl ⟨a,b.symm⟩;exact .inr (.inl ⟨a,b.symm⟩);exact .inr (.inr ⟨a,b.symm⟩);rintro(⟨a,b⟩|⟨a,b⟩|⟨a,b⟩);exact⟨_,.inl rfl,a,b.symm⟩;exact⟨_,.inr (.inl rfl),a,b.symm⟩;exact⟨_,.inr (.inr rfl),a,b.symm⟩
theorem jai {t:TkD} {p:PeD} {e:Int×Int} (h:e∈uG t p):0<=e.1/\e.1<=2:=by
 unfold uG at h;simp only[jk,List.not_mem_nil,or_false] at h;rcases h with rfl|rfl|rfl<;>simp
theorem Tt (t:TkD) (p:PeD):(uG t p).Nodup:=by
 unfold uG;simp
theorem OX {t:TkD} {p:PeD} {l:List (Int×Int)} (h:l.Perm (uG t p)):cd (uG t p) l 0:=by
 refine⟨BT.Ff,h.symm.nodup (Tt t p),fun e c=>h.mem_iff.1 c,fun k=> ?_⟩;rw[BT.uL];constructor;intro h;cases h;rintro⟨e,a,b,_⟩;exact absurd (h.mem_iff.2 a) b
theorem Tu {t:TkD} {p:PeD} {s:Int} (h:cd (uG t p) [] s):s=yL t p:=by
 obtain⟨a,_,_,c⟩:=h;refine BT.ext a (LB (by have:=DP t p;omega)) (fun k=> ?_);rw[j7,c,<-jah];constructor;rintro⟨e,a,_,b⟩;exact⟨e,a,b⟩;rintro⟨e,a,b⟩;exact⟨e,a,by simp,b⟩
theorem Hx {all pre a:List (Int×Int)} {e:Int×Int} {s j:Int} (h:cd all (pre++e::a) s) (p:BT.qm j) (hk:∀k,BT.has j k=true↔BT.has s k=true\/(e.2=0/\e.1.toNat=k)):cd all (pre++a) j:=by
 obtain⟨q,m,l,n⟩:=h;have i:(e::(pre++a)).Nodup:=List.perm_middle.nodup m;have b:∀x,x∈pre++e::a↔x=e\/x∈pre++a:=fun x=>by rw[List.perm_middle.mem_iff,jk]
 rw[zv] at i;refine⟨p,i.2,fun x c=>l x ((b x).2 (.inr c)),fun k=> ?_⟩;rw[hk,n];constructor;rintro(⟨x,d,f,g⟩|⟨d,f⟩);exact⟨x,d,fun c=>f ((b x).2 (.inr c)),g⟩;exact⟨e,l e ((b e).2 (.inl rfl)),i.1,d,f⟩;rintro⟨x,d,f,g⟩;by_cases c:x=e;subst c;exact .inr g;exact .inl ⟨x,d,fun o=>by rcases(b x).1 o with h|h;exact c h;exact f h,g⟩
theorem FJ:DT:=by
 unfold DT jip Prod.q4;rintro⟨(_|t),p,⟨⟩⟩ s d;cases s;have d:dp t:=d;have r:U.tk (some t)=t:=rfl;obtain⟨c1,c2,_⟩:=id d;obtain⟨_,_,_,⟨m,o⟩,⟨n,q⟩,_⟩:=na c2;have m:0<=t.2.1.2.2.2.1:=m;have o:t.2.1.2.2.2.1<=7:=o;have n:0<=t.2.1.2.2.2.2.1:=n;have q:t.2.1.2.2.2.2.1<=3:=q;refine⟨rfl,rfl,m,by simp only[wR];omega,rfl,n,by simp only[wR];omega,by decide,fun l w=>⟨⟨⟨⟨(l,0),⟨⟨rfl,tZ⟩,rfl,tZ⟩,OX w⟩,fun x b=>⟨fun h=>⟨fun h=>(by cases h),fun _=> ?_⟩,fun pre e a h=>⟨fun _=> ?_,fun h=>(by cases h)⟩⟩⟩,tZ⟩,tZ⟩⟩;rw[h] at b;rw[Tu b];rw[h] at b;have u:e∈uG t p:=b.2.2.1 e (by simp);have hk:=jai u;obtain⟨k,g,v⟩:∃k:Nat,e.1=(k:Int)/\k<=2:=⟨e.1.toNat,by omega,by omega⟩;have y:(1:Int)*2^k=2^k:=Int.one_mul _;have c:(pre++a).length<x.1.length:=(by rw[h];simp);have i:BT.qm ((2:Int)^k):=BT.lC (by omega);refine⟨fun f=> ?_,fun f=> ?_⟩;have f:e.2=0:=ja f;rw[g,jw,y];refine⟨by omega,by omega,by unfold BT.qm at i;omega,by unfold BT.qm at i;omega,(pre++a,uor x.2 (2^k)),⟨⟨rfl,tZ⟩,rfl,tZ⟩,Hx b (BT.uor_set b.1 i) (fun j=> ?_),c⟩;rw[BT.has_uor b.1 i,BT.Cj,zt,jp,g,jw];simp[f];have f:¬e.2=0:=jc f;exact⟨(pre++a,x.2),⟨⟨rfl,tZ⟩,rfl,tZ⟩,Hx b b.1 (fun j=>by simp[f]),c⟩
theorem nc:w9 PR 180 yJ:=vb DS FJ Tryz.func180 (kcC dY (kcC Tl kcN)) koN
theorem LC:(NA 64 [(180,yJ),(214,gV),(215,gW)] [] [(213,w8)] []).ok PR:=OF ⟨fun _=>nc,fun _=>IK,fun _=>IW,tZ⟩ trivial ⟨fG,tZ⟩ trivial
theorem A0:w9 PR 186 lJ:=
 WN (body:=qq Tryz.f186) (C:=NA 64 [(180,yJ),(214,gV),(215,gW)] [] [(213,w8)] []) (hk:=hkC (NA 64 [(180,yJ),(214,gV),(215,gW)] [] [(213,w8)] []) (fun _=>none) DO [] []) LC mixed Tryz.func186 (by kernel_rfl) (by kernel_rfl) (by kernel_rfl) (by decide)
  (fun B=>Hs LC mixed (fun k ts rs sv pr L v ρ hk c a b=>by
   unfold DO at hk
   split at hk
   case h_2=>cases hk
   simp only[jy] at hk
   cases hk
   exact Lu c a b) jdb B) (rJ.mpr DR)
theorem OY:w9 PR 145 OU:=wT Tr Tryz.func145 (kcC Xb (kcC A0 kcN)) koN
theorem jaj:w9 PR 142 jaa:=vb jab jde Tryz.func142 (kcC Lt (kcC nc kcN)) koN
namespace U
def dA (a b:Int):Int:=if a<b then-1 else if b<a then 1 else 0
def gx (l:List Int):Int:=match l.find? (fun n=>decide (n≠0)) with|some n=>n|none=>0
end U
structure i9 {α:Type} (c:α->α->Int):Prop where
 anti:∀a b,c b a= -(c a b)
 trans:∀a b d,c a b<=0->c b d<=0->c a d<=0
section
variable {α:Type} {c c1 c2:α->α->Int}
theorem i9.refl (h:i9 c) (a:α):c a a=0:=by have:=h.anti a a;omega
theorem i9.lt_le (h:i9 c) {a b d:α} (g:c a b<0) (f:c b d<=0):c a d<0:=by
 have i:=h.trans a b d (by omega) f;have j:=h.anti a d;have k:=h.anti a b;by_cases e:c a d=0;have:=h.trans b d a f (by omega);omega;omega
theorem i9.le_lt (h:i9 c) {a b d:α} (f:c a b<=0) (g:c b d<0):c a d<0:=by
 have i:=h.trans a b d f (by omega);have j:=h.anti a d;have k:=h.anti b d;by_cases e:c a d=0;have:=h.trans d a b (by omega) f;omega;omega
theorem i9.eq_eq (h:i9 c) {a b d:α} (e:c a b=0) (f:c b d=0):c a d=0:=by
 have g:=h.trans a b d (by omega) (by omega);have i:=h.anti a d;have j:=h.anti a b;have k:=h.anti b d;have:=h.trans d b a (by omega) (by omega);omega
def Vs (c1 c2:α->α->Int) (a b:α):Int:=if c1 a b≠0 then c1 a b else c2 a b
theorem rK (c:i9 c1) (g:i9 c2):i9 (Vs c1 c2) where
 anti a b:=by
  have i:=c.anti a b;have h:=g.anti a b;unfold Vs;by_cases e:c1 a b=0;rw[jd (by omega),jd (by omega)];exact h;rw[je (by omega),je e];exact i
 trans a b d:=by
  unfold Vs;by_cases e:c1 a b=0;rw[jd (by omega)];by_cases f:c1 b d=0;rw[jd (by omega),jd (by have:=c.eq_eq e f;omega)];exact g.trans a b d;rw[je f];intro _ k;have:=c.le_lt (a:=a) (b:=b) (d:=d) (by omega) (by omega);rw[je (by omega)];omega;rw[je e];intro k;by_cases f:c1 b d=0;rw[jd (by omega)];intro _;have:=c.lt_le (a:=a) (b:=b) (d:=d) (by omega) (by omega);rw[je (by omega)];omega;rw[je f];intro h;have:=c.lt_le (a:=a) (b:=b) (d:=d) (by omega) (by omega);rw[je (by omega)];omega
theorem pn {β:Type} (h:i9 c) (f:β->α):i9 (fun a b=>c (f a) (f b)):=⟨fun a b=>h.anti (f a) (f b),fun a b d=>h.trans (f a) (f b) (f d)⟩
end
theorem nf:i9 dA:=by
 constructor;intro a b;unfold dA;split<;>split<;>(try split)<;>(try split)<;>omega
 intro a b d;unfold dA;split<;>split<;>(try split)<;>(try split)<;>(try split)<;>(try split)<;>omega
theorem Xd {a b:Int}:dA a b<0↔a<b:=by
 unfold dA
 split
 simp;omega
 split<;>simp<;>omega
theorem bK {a b:Int}:dA a b=0↔a=b:=by
 unfold dA
 split
 simp;omega
 split
 simp;omega;simp;omega
theorem qw (x:Int) (l:List Int):gx (x::l)=if x≠0 then x else gx l:=by
 unfold gx;by_cases e:x=0;simp[List.find?,e];simp[List.find?,e]
theorem yc (x:Int):gx [x]=x:=by
 rw[qw]
 split
 rfl;rename_i h;have:x=0:=(by omega);rw[this];rfl
theorem Cb {t:Ty} {c:t.Data->t.Data->Int} (d:i9 c) {l:List t.Data} (h:∀x y,x∈l->y∈l->c x y=0->x=y):yq (we t fun x=>(c x.1 x.2.1,())) l where
 irrefl x _:=by
  unfold we;have:=d.refl x;simp only[this];rfl
 trans x y z _ _ _ b a:=by
  unfold we at*;have b:=ja b;have a:=ja a;exact jG (d.lt_le b (by have a:c y z<0:=a;show c y z<=0;omega))
 total x y hx hy b a:=by
  unfold we at*;have b:¬c x y<0:=jc b;have a:¬c y x<0:=jc a;have:=d.anti x y;exact h x y hx hy (by omega)
end Go.X
namespace Go.X
open U
namespace M
theorem mput_cons {kt:Ty} {β:Type} (k:kt.Data) (v:β) (e:kt.Data×β) (r:List (kt.Data×β)):iz kt k v (e::r)=if @decide (k=e.1) (kt.decEq k e.1)=true then(k,v)::r else e::iz kt k v r:=rfl
theorem mfind_cons {kt:Ty} {β:Type} (k:kt.Data) (e:kt.Data×β) (r:List (kt.Data×β)):wG kt k (e::r)=if @decide (k=e.1) (kt.decEq k e.1)=true then some e.2 else wG kt k r:=rfl
theorem mfind_none {kt:Ty} {β:Type} {k:kt.Data}:∀{l:List (kt.Data×β)},k∉l.map (·.1)->wG kt k l=none
 |[],_=>rfl
 |e::r,h=>by
  simp only[zy,jk,not_or] at h
  rw[mfind_cons,jd (fun a=>h.1 (@ja _ (kt.decEq k e.1) a))]
  exact mfind_none h.2
theorem dec_self {kt:Ty} (k:kt.Data): @decide (k=k) (kt.decEq k k)=true:= @jG _ (kt.decEq k k) rfl
theorem mput_fst {kt:Ty} {β:Type} (k:kt.Data) (v:β):∀m:List (kt.Data×β),(iz kt k v m).map (·.1)=m.map (·.1)\/(k∉m.map (·.1)/\(iz kt k v m).map (·.1)=m.map (·.1)++[k])
 |[]=> .inr ⟨by simp,rfl⟩
 |e::r=>by
  rw[mput_cons]
  by_cases h: @decide (k=e.1) (kt.decEq k e.1)=true
  rw[je h]
  have h:k=e.1:= @ja _ (kt.decEq k e.1) h
  left
  simp[h]
  rw[jd h]
  have h:¬k=e.1:=fun a=>h (@jG _ (kt.decEq k e.1) a)
  rcases mput_fst k v r with d|⟨b,c⟩
  left;simp only[zy,d]
  right
  refine⟨?_,by simp only[zy,c,j9]⟩
  rw[zy,jk]
  rintro(a|a)
  exact h a
  exact b a
theorem so {kt:Ty} {β:Type} (k:kt.Data) (v:β):∀l:List (kt.Data×β),wG kt k (iz kt k v l)=some v
 |[]=>by
  rw[show iz kt k v []=[(k,v)] from rfl,mfind_cons,je (dec_self k)]
 |e::r=>by
  rw[mput_cons]
  by_cases h: @decide (k=e.1) (kt.decEq k e.1)=true
  rw[je h,mfind_cons,je (dec_self k)]
  rw[jd h,mfind_cons,jd h]
  exact so k v r
theorem eV {kt:Ty} {β:Type} {k k':kt.Data} (a:k'≠k) (v:β):∀l:List (kt.Data×β),wG kt k' (iz kt k v l)=wG kt k' l
 |[]=>by
  rw[show iz kt k v []=[(k,v)] from rfl,mfind_cons,jd (fun e=>a (@ja _ (kt.decEq k' k) e))]
 |e::r=>by
  rw[mput_cons]
  by_cases h: @decide (k=e.1) (kt.decEq k e.1)=true
  rw[je h]
  have h:k=e.1:= @ja _ (kt.decEq k e.1) h
  have c:¬@decide (k'=e.1) (kt.decEq k' e.1)=true:=fun b=>a ((@ja _ (kt.decEq k' e.1) b).trans h.symm)
  rw[mfind_cons,mfind_cons,jd c,jd (fun e=>a (@ja _ (kt.decEq k' k) e))]
  rw[jd h,mfind_cons,mfind_cons,eV a v r]
theorem iw {kt:Ty} {β:Type} {k:kt.Data} {v:β}:∀{l:List (kt.Data×β)},(l.map (·.1)).Nodup->(wG kt k l=some v↔(k,v)∈l)
 |[],_=>by simp[wG]
 |e::r,h=>by
  simp only[zy,zv] at h
  rw[mfind_cons]
  by_cases hk: @decide (k=e.1) (kt.decEq k e.1)=true
  rw[je hk]
  have hk:k=e.1:= @ja _ (kt.decEq k e.1) hk
  subst hk
  rw[jk]
  constructor
  intro a;simp at a;exact .inl (by rw[<-a])
  rintro(a|a)
  rw[<-a]
  exact absurd (jS.2 ⟨_,a,rfl⟩) h.1
  rw[jd hk]
  have hk:¬k=e.1:=fun b=>hk (@jG _ (kt.decEq k e.1) b)
  rw[iw h.2,jk]
  constructor
  exact .inr
  rintro(a|a)
  exact absurd (by rw[<-a]) hk
  exact a
end M
end Go.X
namespace Go.Proofs
open Go.Shelf
theorem xlay {t:Type} {a:Option t} {b c:t} (h:a=some b) (e:b=c:=by kernel_rfl):a=some c:=h.trans (congrArg some e)
def Tryz.sortSh_ren:Go.Shelf.Ren:=⟨fun|6=>128|15=>140|14=>168|28=>177|29=>178|20=>195|21=>196|22=>197|23=>198|24=>199|25=>200|26=>201|27=>202|46=>218|47=>204|48=>205|49=>219|50=>220|57=>238|n=>n,fun|22=>28|24=>134|25=>159|3=>3|39=>92|0=>0|53=>189|55=>191|4=>4|46=>183|45=>182|50=>50|5=>5|9=>9|66=>213|70=>217|76=>231|77=>232|n=>n,fun|n=>n⟩
theorem Tryz.sortSh:Go.Proofs.SlLaysF0.n6 Tryz.prog Tryz.sortSh_ren:={
 mixed:=by kernel_rfl
 f6:=⟨Tryz.f128.name,by decide,xlay Tryz.func128⟩
 f14:=⟨Tryz.f168.name,by decide,xlay Tryz.func168⟩
 f15:=xlay Tryz.func140
 f20:=⟨Tryz.f195.name,by decide,xlay Tryz.func195⟩
 f21:=⟨Tryz.f196.name,by decide,xlay Tryz.func196⟩
 f22:=⟨Tryz.f197.name,by decide,xlay Tryz.func197⟩
 f23:=⟨Tryz.f198.name,by decide,xlay Tryz.func198⟩
 f24:=⟨Tryz.f199.name,by decide,xlay Tryz.func199⟩
 f25:=⟨Tryz.f200.name,by decide,xlay Tryz.func200⟩
 f26:=⟨Tryz.f201.name,by decide,xlay Tryz.func201⟩
 f27:=⟨Tryz.f202.name,by decide,xlay Tryz.func202⟩
 f28:=xlay Tryz.func177
 f29:=xlay Tryz.func178
 f46:=⟨Tryz.f218.name,by decide,xlay Tryz.func218⟩
 f47:=xlay Tryz.func204
 f48:=xlay Tryz.func205
 f49:=⟨Tryz.f219.name,by decide,xlay Tryz.func219⟩
 f50:=⟨Tryz.f220.name,by decide,xlay Tryz.func220⟩
 f57:=⟨Tryz.f238.name,by decide,xlay Tryz.func238⟩
 t0:=Tryz.underlying0
 a0:=Tryz.isAgg0
 z0:=Tryz.sizeOf0
 v0:=Tryz.zeroValue0
 t3:=Tryz.underlying3
 a3:=Tryz.isAgg3
 z3:=Tryz.sizeOf3
 v3:=Tryz.zeroValue3
 t4:=Tryz.underlying4
 a4:=Tryz.isAgg4
 z4:=Tryz.sizeOf4
 v4:=Tryz.zeroValue4
 t5:=Tryz.underlying5
 a5:=Tryz.isAgg5
 z5:=Tryz.sizeOf5
 v5:=Tryz.zeroValue5
 t9:=Tryz.underlying9
 a9:=Tryz.isAgg9
 z9:=Tryz.sizeOf9
 v9:=Tryz.zeroValue9
 t22:=Tryz.underlying28
 a22:=Tryz.isAgg28
 z22:=Tryz.sizeOf28
 v22:=Tryz.zeroValue28
 t25:=Tryz.underlying159
 a25:=Tryz.isAgg159
 z25:=Tryz.sizeOf159
 v25:=Tryz.zeroValue159
 t39:=Tryz.underlying92
 a39:=Tryz.isAgg92
 z39:=Tryz.sizeOf92
 v39:=Tryz.zeroValue92
 t45:=Tryz.underlying182
 a45:=Tryz.isAgg182
 z45:=Tryz.sizeOf182
 v45:=Tryz.zeroValue182
 t46:=Tryz.underlying183
 a46:=Tryz.isAgg183
 z46:=Tryz.sizeOf183
 v46:=Tryz.zeroValue183
 t50:=Tryz.underlying50
 a50:=Tryz.isAgg50
 z50:=Tryz.sizeOf50
 v50:=Tryz.zeroValue50
 t53:=Tryz.underlying189
 a53:=Tryz.isAgg189
 z53:=Tryz.sizeOf189
 v53:=Tryz.zeroValue189
 t55:=Tryz.underlying191
 a55:=Tryz.isAgg191
 z55:=Tryz.sizeOf191
 v55:=Tryz.zeroValue191
 t66:=Tryz.underlying213
 a66:=Tryz.isAgg213
 z66:=Tryz.sizeOf213
 v66:=Tryz.zeroValue213
 t70:=Tryz.underlying217
 a70:=Tryz.isAgg217
 z70:=Tryz.sizeOf217
 v70:=Tryz.zeroValue217
 t76:=Tryz.underlying231
 a76:=Tryz.isAgg231
 z76:=Tryz.sizeOf231
 v76:=Tryz.zeroValue231
 t77:=Tryz.underlying232
 a77:=Tryz.isAgg232
 z77:=Tryz.sizeOf232
 v77:=Tryz.zeroValue232}
def Tryz.sortI_ren:Go.Shelf.Ren:=⟨fun|189=>183|125=>140|257=>212|128=>177|129=>178|294=>225|295=>226|296=>227|297=>228|298=>229|299=>230|216=>231|300=>232|301=>233|328=>242|329=>204|330=>205|331=>243|332=>244|215=>141|343=>248|n=>n,fun|28=>31|3=>3|46=>92|0=>0|51=>189|53=>191|4=>4|183=>183|182=>182|131=>50|5=>5|9=>9|218=>213|222=>217|228=>231|229=>232|n=>n,fun|n=>n⟩
theorem Tryz.sortI:Go.Proofs.Lays.n189 Tryz.prog Tryz.sortI_ren:={
 mixed:=by kernel_rfl
 f125:=xlay Tryz.func140
 f128:=xlay Tryz.func177
 f129:=xlay Tryz.func178
 f189:=xlay Tryz.func183
 f215:=xlay Tryz.func141
 f216:=xlay Tryz.func231
 f257:=xlay Tryz.func212
 f294:=xlay Tryz.func225
 f295:=xlay Tryz.func226
 f296:=xlay Tryz.func227
 f297:=xlay Tryz.func228
 f298:=xlay Tryz.func229
 f299:=xlay Tryz.func230
 f300:=xlay Tryz.func232
 f301:=xlay Tryz.func233
 f328:=xlay Tryz.func242
 f329:=xlay Tryz.func204
 f330:=xlay Tryz.func205
 f331:=xlay Tryz.func243
 f332:=xlay Tryz.func244
 f343:=xlay Tryz.func248
 t0:=Tryz.underlying0
 a0:=Tryz.isAgg0
 z0:=Tryz.sizeOf0
 v0:=Tryz.zeroValue0
 t3:=Tryz.underlying3
 a3:=Tryz.isAgg3
 z3:=Tryz.sizeOf3
 v3:=Tryz.zeroValue3
 t4:=Tryz.underlying4
 a4:=Tryz.isAgg4
 z4:=Tryz.sizeOf4
 v4:=Tryz.zeroValue4
 t5:=Tryz.underlying5
 a5:=Tryz.isAgg5
 z5:=Tryz.sizeOf5
 v5:=Tryz.zeroValue5
 t9:=Tryz.underlying9
 a9:=Tryz.isAgg9
 z9:=Tryz.sizeOf9
 v9:=Tryz.zeroValue9
 t28:=Tryz.underlying31
 a28:=Tryz.isAgg31
 z28:=Tryz.sizeOf31
 v28:=Tryz.zeroValue31
 t46:=Tryz.underlying92
 a46:=Tryz.isAgg92
 z46:=Tryz.sizeOf92
 v46:=Tryz.zeroValue92
 t51:=Tryz.underlying189
 a51:=Tryz.isAgg189
 z51:=Tryz.sizeOf189
 v51:=Tryz.zeroValue189
 t53:=Tryz.underlying191
 a53:=Tryz.isAgg191
 z53:=Tryz.sizeOf191
 v53:=Tryz.zeroValue191
 t131:=Tryz.underlying50
 a131:=Tryz.isAgg50
 z131:=Tryz.sizeOf50
 v131:=Tryz.zeroValue50
 t182:=Tryz.underlying182
 a182:=Tryz.isAgg182
 z182:=Tryz.sizeOf182
 v182:=Tryz.zeroValue182
 t183:=Tryz.underlying183
 a183:=Tryz.isAgg183
 z183:=Tryz.sizeOf183
 v183:=Tryz.zeroValue183
 t218:=Tryz.underlying213
 a218:=Tryz.isAgg213
 z218:=Tryz.sizeOf213
 v218:=Tryz.zeroValue213
 t222:=Tryz.underlying217
 a222:=Tryz.isAgg217
 z222:=Tryz.sizeOf217
 v222:=Tryz.zeroValue217
 t228:=Tryz.underlying231
 a228:=Tryz.isAgg231
 z228:=Tryz.sizeOf231
 v228:=Tryz.zeroValue231
 t229:=Tryz.underlying232
 a229:=Tryz.isAgg232
 z229:=Tryz.sizeOf232
 v229:=Tryz.zeroValue232}
end Go.Proofs
namespace Go.X
open U
open Go.Proofs
abbrev rwS:Sh:= .cl (.row 134 tSh .unk)
namespace U
def AE (s:SpD):Bool:=(decide (0<=lo s)&&decide (lo s<=hi s))&&decide (hi s<=300)
def E7 (n:Nat) (b:BkD):Bool:=((wa (Vi b) 0 ((n:Int)-1)&&decide (0<=qh b))&&decide (qh b<gH b))&&decide (gH b<=1440)
def Nf (nb a:Nat) (s:ShD):Bool:=(((wa (gM s) 0 99&&wa (Fi s) 0 9999)&&wa (Zb s) 1 2)&&wa (mo s) 0 ((nb:Int)-1))&&wa (aL s) 0 ((a:Int)-1)
def ee (a b:ShD):Int:=gx [dA (gM a) (gM b),dA (Fi a) (Fi b),dA (Zb a) (Zb b),dA (mo a) (mo b),dA (aL a) (aL b)]
def wF (a b:ShD):Int:=gx [dA (Fi a) (Fi b),dA (gM a) (gM b)]
def gK (a b:ShD):Bool:=decide (a=b)
def qA (l:List ShD):List ShD:=ck gK (wd (we tSh fun x=>(ee x.1 x.2.1,())) l)
def oC (m:List (Int×Int)) (s:ShD):List (Int×Int):=iz .int (gM s) (wW 0 (wG .int (gM s) m)+1) m
def gh (m:List (Int×Int)) (l:List ShD) (n:Nat):List (Int×Int):=(l.take n).foldl oC m
def Sw (m:List (Int×Int)) (s:ShD):Bool:=decide (1<wW 0 (wG .int (gM s) (oC m s)))
def uH (m:List (Int×Int)) (l:List ShD) (i:Nat):Bool:=Sw (gh m l i) (nth l i)
def nT (m:List (Int×Int)) (l:List ShD):Int:=gN (uH m l) (List.range l.length)
def Zc (m:List (Int×Int)) (l:List ShD):Nat:=match(List.range l.length).findIdx? (uH m l) with|some i=>i+1|none=>l.length
def sg (m:List (Int×Int)) (l:List ShD):List (Int×Int):=gh m l (Zc m l)
def jfw (m:List (Int×Int)):Prop:=m=[]
def Zd (m:List (Int×Int)):Prop:=∀k,0<=wW 0 (wG .int k m)/\wW 0 (wG .int k m)<=200000
def Vu (l:List ShD):Bool:=decide (0<=nT [] l)
def xY (d:DyD):Int:=if wy (ww d)=false then 30 else if J6 d=false then 31 else 0
def qo (d:DyD):Int:=if xY d≠0 then xY d else if qG d=false then 50 else if Vu (qA (qi d))=true then 51 else 0
end U
def OZ:w4:=⟨[.val .int,.val .int,.val .int],[.bool],false,fun _=>[],fun d=>(wa d.1 d.2.1 d.2.2.1,())⟩
def O0:Prop:=∀(d:Int×Int×Int×Unit),(decide (d.2.1<=d.1)&&decide (d.1<=d.2.2.1),())=(wa d.1 d.2.1 d.2.2.1,())
def oI:w4:=⟨[.val (.slice tSp),.fn [tSp] [.bool]],[.int],false,fun d=>[∀g∈d.1,wC (d.2.1.pre (g,()))],fun d=>(gN (wc (α:=SpD) d.2.1.F) d.1,())⟩
def oJ:Ann:=fun r=>match r with
 |2=>some fun σ=>{X:=Nat,sl:=fun i=>[(8,.dat .int (i:Int))],ob:=fun _=>[],inv:=fun i=>i<=(gd (.slice tSp) σ 0).length/\∀b:Nat,b<i->wc (gfb tSp σ 1) (nth (gd (.slice tSp) σ 0) b)=false,mu:=fun i=>(gd (.slice tSp) σ 0).length-i}
 |_=>none
def oK:Prop:=∀(d:List (Int×Int×Unit)×FnD [tSp] [Ty.bool]×Unit),(∀(g:Int×Int×Unit),g∈d.1->wC (d.2.1.1 (g,())))->d.1.length<4611686018427387904->(∃(x:Nat),((0=(x:Int)/\True)/\True)/\x<=d.1.length/\∀(b:Nat),b<x->wc d.2.1.2 (nth d.1 b)=false)/\∀(x:Nat),(x<=d.1.length/\∀(b:Nat),b<x->wc d.2.1.2 (nth d.1 b)=false)->(decide ((x:Int)<d.1.length)=true->0<=(x:Int)/\(x:Int)<d.1.length/\asks (d.2.1.1 (nth d.1 (x:Int).toNat,())) (((d.2.1.2 (nth d.1 (x:Int).toNat,())).1=true->((x:Int),())=(gN (wc d.2.1.2) d.1,()))/\((d.2.1.2 (nth d.1 (x:Int).toNat,())).1=false->wl ((x:Int)+1)/\∃(a:Nat),(((x:Int)+1=(a:Int)/\True)/\True)/\(a<=d.1.length/\∀(b:Nat),b<a->wc d.2.1.2 (nth d.1 b)=false)/\d.1.length-a<d.1.length-x)))/\(decide ((x:Int)<d.1.length)=false->((-1:Int),())=(gN (wc d.2.1.2) d.1,()))
def lc:w4:=⟨[.val (.slice tSp),.fn [tSp] [.bool]],[.bool],false,fun d=>[∀g∈d.1,wC (d.2.1.pre (g,()))],fun d=>(d.1.any (wc (α:=SpD) d.2.1.F),())⟩
def ld:Prop:=∀(d:List (Int×Int×Unit)×FnD [tSp] [Ty.bool]×Unit),(∀(g:Int×Int×Unit),g∈d.1->wC (d.2.1.1 (g,())))->(∀(g:Int×Int×Unit),g∈d.1->wC (d.2.1.1 (g,())))/\(decide (0<=gN (wc d.2.1.2) d.1),())=(d.1.any (wc d.2.1.2),())
def ng:w4:=⟨[.val (.slice (.slice tSp)),.fn [(.slice tSp)] [.bool]],[.int],false,fun d=>[∀g∈d.1,wC (d.2.1.pre (g,()))],fun d=>(gN (wc (α:=(List SpD)) d.2.1.F) d.1,())⟩
def nh:Ann:=fun r=>match r with
 |2=>some fun σ=>{X:=Nat,sl:=fun i=>[(8,.dat .int (i:Int))],ob:=fun _=>[],inv:=fun i=>i<=(gd (.slice (.slice tSp)) σ 0).length/\∀b:Nat,b<i->wc (gfb (.slice tSp) σ 1) (nth (gd (.slice (.slice tSp)) σ 0) b)=false,mu:=fun i=>(gd (.slice (.slice tSp)) σ 0).length-i}
 |_=>none
def nj:Prop:=∀(d:List (List (Int×Int×Unit))×FnD [tSp.slice] [Ty.bool]×Unit),(∀(g:List (Int×Int×Unit)),g∈d.1->wC (d.2.1.1 (g,())))->d.1.length<4611686018427387904->(∃(x:Nat),((0=(x:Int)/\True)/\True)/\x<=d.1.length/\∀(b:Nat),b<x->wc d.2.1.2 (nth d.1 b)=false)/\∀(x:Nat),(x<=d.1.length/\∀(b:Nat),b<x->wc d.2.1.2 (nth d.1 b)=false)->(decide ((x:Int)<d.1.length)=true->0<=(x:Int)/\(x:Int)<d.1.length/\asks (d.2.1.1 (nth d.1 (x:Int).toNat,())) (((d.2.1.2 (nth d.1 (x:Int).toNat,())).1=true->((x:Int),())=(gN (wc d.2.1.2) d.1,()))/\((d.2.1.2 (nth d.1 (x:Int).toNat,())).1=false->wl ((x:Int)+1)/\∃(a:Nat),(((x:Int)+1=(a:Int)/\True)/\True)/\(a<=d.1.length/\∀(b:Nat),b<a->wc d.2.1.2 (nth d.1 b)=false)/\d.1.length-a<d.1.length-x)))/\(decide ((x:Int)<d.1.length)=false->((-1:Int),())=(gN (wc d.2.1.2) d.1,()))
def fH:w4:=⟨[.val (.slice (.slice tSp)),.fn [(.slice tSp)] [.bool]],[.bool],false,fun d=>[∀g∈d.1,wC (d.2.1.pre (g,()))],fun d=>(d.1.any (wc (α:=(List SpD)) d.2.1.F),())⟩
def fI:Prop:=∀(d:List (List (Int×Int×Unit))×FnD [tSp.slice] [Ty.bool]×Unit),(∀(g:List (Int×Int×Unit)),g∈d.1->wC (d.2.1.1 (g,())))->(∀(g:List (Int×Int×Unit)),g∈d.1->wC (d.2.1.1 (g,())))/\(decide (0<=gN (wc d.2.1.2) d.1),())=(d.1.any (wc d.2.1.2),())
def lf:w4:=⟨[.val (.slice tBk),.fn [tBk] [.bool]],[.int],false,fun d=>[∀g∈d.1,wC (d.2.1.pre (g,()))],fun d=>(gN (wc (α:=BkD) d.2.1.F) d.1,())⟩
def lg:Ann:=fun r=>match r with
 |2=>some fun σ=>{X:=Nat,sl:=fun i=>[(8,.dat .int (i:Int))],ob:=fun _=>[],inv:=fun i=>i<=(gd (.slice tBk) σ 0).length/\∀b:Nat,b<i->wc (gfb tBk σ 1) (nth (gd (.slice tBk) σ 0) b)=false,mu:=fun i=>(gd (.slice tBk) σ 0).length-i}
 |_=>none
def lh:Prop:=∀(d:List BkD×FnD [tBk] [Ty.bool]×Unit),(∀(g:BkD),g∈d.1->wC (d.2.1.1 (g,())))->d.1.length<4611686018427387904->(∃(x:Nat),((0=(x:Int)/\True)/\True)/\x<=d.1.length/\∀(b:Nat),b<x->wc d.2.1.2 (nth d.1 b)=false)/\∀(x:Nat),(x<=d.1.length/\∀(b:Nat),b<x->wc d.2.1.2 (nth d.1 b)=false)->(decide ((x:Int)<d.1.length)=true->0<=(x:Int)/\(x:Int)<d.1.length/\asks (d.2.1.1 (nth d.1 (x:Int).toNat,())) (((d.2.1.2 (nth d.1 (x:Int).toNat,())).1=true->((x:Int),())=(gN (wc d.2.1.2) d.1,()))/\((d.2.1.2 (nth d.1 (x:Int).toNat,())).1=false->wl ((x:Int)+1)/\∃(a:Nat),(((x:Int)+1=(a:Int)/\True)/\True)/\(a<=d.1.length/\∀(b:Nat),b<a->wc d.2.1.2 (nth d.1 b)=false)/\d.1.length-a<d.1.length-x)))/\(decide ((x:Int)<d.1.length)=false->((-1:Int),())=(gN (wc d.2.1.2) d.1,()))
def dD:w4:=⟨[.val (.slice tBk),.fn [tBk] [.bool]],[.bool],false,fun d=>[∀g∈d.1,wC (d.2.1.pre (g,()))],fun d=>(d.1.any (wc (α:=BkD) d.2.1.F),())⟩
def dE:Prop:=∀(d:List BkD×FnD [tBk] [Ty.bool]×Unit),(∀(g:BkD),g∈d.1->wC (d.2.1.1 (g,())))->(∀(g:BkD),g∈d.1->wC (d.2.1.1 (g,())))/\(decide (0<=gN (wc d.2.1.2) d.1),())=(d.1.any (wc d.2.1.2),())
def nq:w4:=⟨[.val (.slice tSh),.fn [tSh] [.bool]],[.int],false,fun d=>[∀g∈d.1,wC (d.2.1.pre (g,()))],fun d=>(gN (wc (α:=ShD) d.2.1.F) d.1,())⟩
def nr:Ann:=fun r=>match r with
 |2=>some fun σ=>{X:=Nat,sl:=fun i=>[(8,.dat .int (i:Int))],ob:=fun _=>[],inv:=fun i=>i<=(gd (.slice tSh) σ 0).length/\∀b:Nat,b<i->wc (gfb tSh σ 1) (nth (gd (.slice tSh) σ 0) b)=false,mu:=fun i=>(gd (.slice tSh) σ 0).length-i}
 |_=>none
def nu:Prop:=∀(d:List ShD×FnD [tSh] [Ty.bool]×Unit),(∀(g:ShD),g∈d.1->wC (d.2.1.1 (g,())))->d.1.length<4611686018427387904->(∃(x:Nat),((0=(x:Int)/\True)/\True)/\x<=d.1.length/\∀(b:Nat),b<x->wc d.2.1.2 (nth d.1 b)=false)/\∀(x:Nat),(x<=d.1.length/\∀(b:Nat),b<x->wc d.2.1.2 (nth d.1 b)=false)->(decide ((x:Int)<d.1.length)=true->0<=(x:Int)/\(x:Int)<d.1.length/\asks (d.2.1.1 (nth d.1 (x:Int).toNat,())) (((d.2.1.2 (nth d.1 (x:Int).toNat,())).1=true->((x:Int),())=(gN (wc d.2.1.2) d.1,()))/\((d.2.1.2 (nth d.1 (x:Int).toNat,())).1=false->wl ((x:Int)+1)/\∃(a:Nat),(((x:Int)+1=(a:Int)/\True)/\True)/\(a<=d.1.length/\∀(b:Nat),b<a->wc d.2.1.2 (nth d.1 b)=false)/\d.1.length-a<d.1.length-x)))/\(decide ((x:Int)<d.1.length)=false->((-1:Int),())=(gN (wc d.2.1.2) d.1,()))
def fJ:w4:=⟨[.val (.slice tSh),.fn [tSh] [.bool]],[.bool],false,fun d=>[∀g∈d.1,wC (d.2.1.pre (g,()))],fun d=>(d.1.any (wc (α:=ShD) d.2.1.F),())⟩
def fK:Prop:=∀(d:List ShD×FnD [tSh] [Ty.bool]×Unit),(∀(g:ShD),g∈d.1->wC (d.2.1.1 (g,())))->(∀(g:ShD),g∈d.1->wC (d.2.1.1 (g,())))/\(decide (0<=gN (wc d.2.1.2) d.1),())=(d.1.any (wc d.2.1.2),())
def xg:w4:=⟨[.val tSp,.rfn [tSp] [.bool]],[.bool],false,fun d=>[wC (d.2.1.pre (d.1,()))],fun d=>(!(wc (α:=SpD) d.2.1.F d.1),())⟩
def xh:Prop:=∀(d:(Int×Int×Unit)×FnD [tSp] [Ty.bool]×Unit),wC (d.2.1.1 (d.1,()))->asks (d.2.1.1 (d.1,())) ((!(d.2.1.2 (d.1,())).1,())=(!wc d.2.1.2 d.1,()))
def DU:w4:=⟨[.val (.slice tSp),.fn [tSp] [.bool]],[.bool],false,fun d=>[∀g∈d.1,wC (d.2.1.pre (g,()))],fun d=>(d.1.all (wc (α:=SpD) d.2.1.F),())⟩
def DV:Prop:=∀(d:List (Int×Int×Unit)×FnD [tSp] [Ty.bool]×Unit),(∀(g:Int×Int×Unit),g∈d.1->wC (d.2.1.1 (g,())))->(∀(g:Int×Int×Unit),g∈d.1->wC [wC (d.2.1.1 (g,()))])/\(!d.1.any (wc fun(a:(Int×Int×Unit)×Unit)=>(!wc d.2.1.2 a.1,())),())=(d.1.all (wc d.2.1.2),())
def tM:w4:=⟨[.val (.slice tSp),.rfn [(.slice tSp)] [.bool]],[.bool],false,fun d=>[wC (d.2.1.pre (d.1,()))],fun d=>(!(wc (α:=(List SpD)) d.2.1.F d.1),())⟩
def tN:Prop:=∀(d:List (Int×Int×Unit)×FnD [tSp.slice] [Ty.bool]×Unit),wC (d.2.1.1 (d.1,()))->asks (d.2.1.1 (d.1,())) ((!(d.2.1.2 (d.1,())).1,())=(!wc d.2.1.2 d.1,()))
def A1:w4:=⟨[.val (.slice (.slice tSp)),.fn [(.slice tSp)] [.bool]],[.bool],false,fun d=>[∀g∈d.1,wC (d.2.1.pre (g,()))],fun d=>(d.1.all (wc (α:=(List SpD)) d.2.1.F),())⟩
def A2:Prop:=∀(d:List (List (Int×Int×Unit))×FnD [tSp.slice] [Ty.bool]×Unit),(∀(g:List (Int×Int×Unit)),g∈d.1->wC (d.2.1.1 (g,())))->(∀(g:List (Int×Int×Unit)),g∈d.1->wC [wC (d.2.1.1 (g,()))])/\(!d.1.any (wc fun(a:List (Int×Int×Unit)×Unit)=>(!wc d.2.1.2 a.1,())),())=(d.1.all (wc d.2.1.2),())
def oL:w4:=⟨[.val tBk,.rfn [tBk] [.bool]],[.bool],false,fun d=>[wC (d.2.1.pre (d.1,()))],fun d=>(!(wc (α:=BkD) d.2.1.F d.1),())⟩
def oM:Prop:=∀(d:BkD×FnD [tBk] [Ty.bool]×Unit),wC (d.2.1.1 (d.1,()))->asks (d.2.1.1 (d.1,())) ((!(d.2.1.2 (d.1,())).1,())=(!wc d.2.1.2 d.1,()))
def tO:w4:=⟨[.val (.slice tBk),.fn [tBk] [.bool]],[.bool],false,fun d=>[∀g∈d.1,wC (d.2.1.pre (g,()))],fun d=>(d.1.all (wc (α:=BkD) d.2.1.F),())⟩
def tP:Prop:=∀(d:List BkD×FnD [tBk] [Ty.bool]×Unit),(∀(g:BkD),g∈d.1->wC (d.2.1.1 (g,())))->(∀(g:BkD),g∈d.1->wC [wC (d.2.1.1 (g,()))])/\(!d.1.any (wc fun(a:BkD×Unit)=>(!wc d.2.1.2 a.1,())),())=(d.1.all (wc d.2.1.2),())
def tQ:w4:=⟨[.val tSh,.rfn [tSh] [.bool]],[.bool],false,fun d=>[wC (d.2.1.pre (d.1,()))],fun d=>(!(wc (α:=ShD) d.2.1.F d.1),())⟩
def tR:Prop:=∀(d:ShD×FnD [tSh] [Ty.bool]×Unit),wC (d.2.1.1 (d.1,()))->asks (d.2.1.1 (d.1,())) ((!(d.2.1.2 (d.1,())).1,())=(!wc d.2.1.2 d.1,()))
def A3:w4:=⟨[.val (.slice tSh),.fn [tSh] [.bool]],[.bool],false,fun d=>[∀g∈d.1,wC (d.2.1.pre (g,()))],fun d=>(d.1.all (wc (α:=ShD) d.2.1.F),())⟩
def A4:Prop:=∀(d:List ShD×FnD [tSh] [Ty.bool]×Unit),(∀(g:ShD),g∈d.1->wC (d.2.1.1 (g,())))->(∀(g:ShD),g∈d.1->wC [wC (d.2.1.1 (g,()))])/\(!d.1.any (wc fun(a:ShD×Unit)=>(!wc d.2.1.2 a.1,())),())=(d.1.all (wc d.2.1.2),())
def LD:w4:=⟨[.val tSp],[.bool],false,fun _=>[],fun d=>(AE d.1,())⟩
def LF:Prop:=∀(d:(Int×Int×Unit)×Unit),(decide (0<=d.1.1)&&decide (d.1.1<=d.1.2.1)&&decide (d.1.2.1<=300),())=(AE d.1,())
def LG:w4:=⟨[.val (.slice tSp),.ref tDy,.rfn [tSp] [.bool]],[.bool],false,fun d=>[∀g∈d.1,wC (d.2.2.1.pre (g,()))],fun d=>(decide ((d.1.length:Int)=(qg d.2.1).length)&&d.1.all (wc (α:=SpD) d.2.2.1.F),())⟩
def LH:Prop:=∀(d:List (Int×Int×Unit)×DyD×FnD [tSp] [Ty.bool]×Unit),(∀(g:Int×Int×Unit),g∈d.1->wC (d.2.2.1.1 (g,())))->d.1.length<4611686018427387904->d.2.1.2.1.length<4611686018427387904->(decide ((d.1.length:Int)=d.2.1.2.1.length)=true->∀(g:Int×Int×Unit),g∈d.1->wC (d.2.2.1.1 (g,())))/\(decide ((d.1.length:Int)=d.2.1.2.1.length)&&d.1.all (wc d.2.2.1.2),())=(decide ((d.1.length:Int)=(qg d.2.1).length)&&d.1.all (wc d.2.2.1.2),())
def LI:w4:=⟨[.val tBk,.ref tDy],[.bool],false,fun _=>[],fun d=>(E7 (qg d.2.1).length d.1,())⟩
def LJ:Prop:=∀(d:BkD×DyD×Unit),d.2.1.2.1.length<4611686018427387904->wl ((d.2.1.2.1.length:Int)-1)/\(wa d.1.2.1 (0:Int) ((d.2.1.2.1.length:Int)-1)&&decide (0<=d.1.2.2.1)&&decide (d.1.2.2.1<d.1.2.2.2.1)&&decide (d.1.2.2.2.1<=1440),())=(E7 (qg d.2.1).length d.1,())
def LK:w4:=⟨[.val tSh,.ref tDy],[.bool],false,fun _=>[],fun d=>(Nf (wm d.2.1).length (wj (ww d.2.1)).length d.1,())⟩
abbrev jlc (d:ShD×DyD×Unit):=(wa d.1.1 (0:Int) (99:Int)&&wa d.1.2.1 (0:Int) (9999:Int)&&wa d.1.2.2.1 (1:Int) (2:Int)&&wa d.1.2.2.2.1 (0:Int) ((d.2.1.2.2.1.length:Int)-1))
abbrev jld (d:ShD×DyD×Unit):=(wa d.1.1 (0:Int) (99:Int)&&wa d.1.2.1 (0:Int) (9999:Int)&&wa d.1.2.2.1 (1:Int) (2:Int))
def LL:Prop:=∀(d:ShD×DyD×Unit),((jld d)=true->d.2.1.2.2.1.length<4611686018427387904)->((jld d)=true->wl ((d.2.1.2.2.1.length:Int)-1))/\(((jlc d)=true->d.2.1.1.2.1.length<4611686018427387904)->((jlc d)=true->wl ((d.2.1.1.2.1.length:Int)-1))/\(wa d.1.1 (0:Int) (99:Int)&&wa d.1.2.1 (0:Int) (9999:Int)&&wa d.1.2.2.1 (1:Int) (2:Int)&&wa d.1.2.2.2.1 (0:Int) ((d.2.1.2.2.1.length:Int)-1)&&wa d.1.q4.1 (0:Int) ((d.2.1.1.2.1.length:Int)-1),())=(Nf (wm d.2.1).length (wj (ww d.2.1)).length d.1,()))
def Tv:w4:=⟨[.val tDy],[.bool],false,fun _=>[],fun d=>(qG d.1,())⟩
abbrev jkw (d:DyD×Unit):=(wc fun(a:BkD×Unit)=>(E7 (qg d.1).length a.1,()))
abbrev jiH (d:DyD×Unit):=((d.1.2.2.1.length:Int)<=4)
abbrev jjS (d:DyD×Unit):=(↑(qg d.1).length:Int)
abbrev jjb (d:DyD×Unit):=(d.1.2.1.length:Int)
def Tw:Prop:=∀(d:DyD×Unit),d.1.2.2.1.length<4611686018427387904->(decide (jiH d)=true->d.1.2.1.length<4611686018427387904)->((decide (jiH d)&&wa (jjb d) (1:Int) (5:Int))=true->∀(g:List (Int×Int×Unit)),g∈d.1.2.1->wC [∀(b:Int×Int×Unit),b∈g->wC []])/\((decide (jiH d)&&wa (jjb d) (1:Int) (5:Int)&&d.1.2.1.all (wc fun(a:List (Int×Int×Unit)×Unit)=>(decide ((a.1.length:Int)=(jjS d))&&a.1.all (wc fun(c:(Int×Int×Unit)×Unit)=>(AE c.1,())),())))=true->∀(e:BkD),e∈d.1.2.2.1->wC [])/\(((decide (jiH d)&&wa (jjb d) (1:Int) (5:Int)&&d.1.2.1.all (wc fun(a:List (Int×Int×Unit)×Unit)=>(decide ((a.1.length:Int)=(jjS d))&&a.1.all (wc fun(f:(Int×Int×Unit)×Unit)=>(AE f.1,())),()))&&d.1.2.2.1.all (jkw d)&&wa d.1.2.2.2.1 (0:Int) (300:Int)&&wa d.1.q4.1 (0:Int) (1440:Int))=true->d.1.q4.2.1.length<4611686018427387904)->((decide (jiH d)&&wa (jjb d) (1:Int) (5:Int)&&d.1.2.1.all (wc fun(a:List (Int×Int×Unit)×Unit)=>(decide ((a.1.length:Int)=(jjS d))&&a.1.all (wc fun(h:(Int×Int×Unit)×Unit)=>(AE h.1,())),()))&&d.1.2.2.1.all (jkw d)&&wa d.1.2.2.2.1 (0:Int) (300:Int)&&wa d.1.q4.1 (0:Int) (1440:Int)&&decide ((d.1.q4.2.1.length:Int)<=30))=true->∀(i:ShD),i∈d.1.q4.2.1->wC [])/\(decide (jiH d)&&wa (jjb d) (1:Int) (5:Int)&&d.1.2.1.all (wc fun(a:List (Int×Int×Unit)×Unit)=>(decide ((a.1.length:Int)=(jjS d))&&a.1.all (wc fun(u5:(Int×Int×Unit)×Unit)=>(AE u5.1,())),()))&&d.1.2.2.1.all (jkw d)&&wa d.1.2.2.2.1 (0:Int) (300:Int)&&wa d.1.q4.1 (0:Int) (1440:Int)&&decide ((d.1.q4.2.1.length:Int)<=30)&&d.1.q4.2.1.all (wc fun(j:ShD×Unit)=>(Nf (wm d.1).length (wj (ww d.1)).length j.1,())),())=(qG d.1,()))
def A5:w4:=⟨[.val .int],[.bool],false,fun _=>[],fun _=>(false,())⟩
def A6:Prop:=∀(d:Int×Unit),(decide (d.1≠d.1),())=(false,())
def tS:w4:=⟨[.val .int,.val .int],[.int],false,fun _=>[],fun d=>(dA d.1 d.2.1,())⟩
abbrev jiI (d:Int×Int×Unit):=(dA d.1 d.2.1,())
def tT:Prop:=∀(d:Int×Int×Unit),(false=true->(false=true->((0:Int),())=(jiI d))/\(qF->((-1:Int),())=(jiI d)))/\(qF->(false=true->((1:Int),())=(jiI d))/\(qF->(decide (d.1<d.2.1)=true->((-1:Int),())=(jiI d))/\(decide (d.1<d.2.1)=false->(decide (d.2.1<d.1)=true->((1:Int),())=(jiI d))/\(decide (d.2.1<d.1)=false->((0:Int),())=(jiI d)))))
def IY:w4:=⟨[.val (.slice .int)],[.int],false,fun _=>[],fun d=>(gx d.1,())⟩
def IZ:Ann:=fun r=>match r with
 |3=>some fun σ=>{X:=Nat,sl:=fun i=>[(8,.dat .int (i:Int))],ob:=fun _=>[],inv:=fun i=>i<=(gd (.slice .int) σ 0).length/\∀b:Nat,b<i->nth (gd (.slice .int) σ 0) b=0,mu:=fun i=>(gd (.slice .int) σ 0).length-i}
 |_=>none
def I0:Prop:=∀(d:List Int×Unit),d.1.length<4611686018427387904->(∃(x:Nat),((0=(x:Int)/\True)/\True)/\x<=d.1.length/\∀(b:Nat),b<x->nth d.1 b=0)/\∀(x:Nat),(x<=d.1.length/\∀(b:Nat),b<x->nth d.1 b=0)->(decide ((x:Int)<d.1.length)=true->0<=(x:Int)/\(x:Int)<d.1.length/\(decide (nth d.1 (x:Int).toNat≠0)=true->(nth d.1 (x:Int).toNat,())=(gx d.1,()))/\(decide (nth d.1 (x:Int).toNat≠0)=false->wl ((x:Int)+1)/\∃(a:Nat),(((x:Int)+1=(a:Int)/\True)/\True)/\(a<=d.1.length/\∀(b:Nat),b<a->nth d.1 b=0)/\d.1.length-a<d.1.length-x))/\(decide ((x:Int)<d.1.length)=false->((0:Int),())=(gx d.1,()))
def DW:w4:=⟨[.val tSh,.val tSh],[.int],false,fun _=>[],fun d=>(ee d.1 d.2.1,())⟩
def DX:Prop:=∀(d:ShD×ShD×Unit),(gx [dA d.1.1 d.2.1.1,dA d.1.2.1 d.2.1.2.1,dA d.1.2.2.1 d.2.1.2.2.1,dA d.1.2.2.2.1 d.2.1.2.2.2.1,dA d.1.q4.1 d.2.1.q4.1],())=(ee d.1 d.2.1,())
def O1:w4:=⟨[.val tSh,.val tSh],[.int],false,fun _=>[],fun d=>(wF d.1 d.2.1,())⟩
def O2:Prop:=∀(d:ShD×ShD×Unit),(gx [dA d.1.2.1 d.2.1.2.1,dA d.1.1 d.2.1.1],())=(wF d.1 d.2.1,())
def xi:vq:=⟨[.val (.slice tSh)],[rwS],fun d=>[d.1.length<=100000],fun d=>((d.1,()),())⟩
def xj:Prop:=∀(d:List ShD×Unit),d.1.length<=100000->∀(β:Bool),(β=true->d.1=[])->(β=true->([],())=d/\()=())/\(β=false->(0+d.1.length)*40<=140737488355328/\([]++d.1,())=d/\()=())
def rL:vq:=⟨[.own rwS false],[rwS],fun d=>[d.1.length<=100000],fun d=>((ck gK d.1,()),())⟩
def rM:Ann:=fun r=>match r with
 |4=>some fun σ=>{X:=Nat,sl:=fun i=>[(3,.dat .int (i:Int))],ob:=fun _=>[],inv:=fun i=>jd5 gK (gr tSh σ 1000000) i,mu:=fun i=>(gr tSh σ 1000000).length-i}
 |9=>some fun σ=>{X:=Nat×List ShD,sl:=fun x=>[(5,.dat .int (x.1:Int)),(3,.dat .int (pw gK (gr tSh σ 1000000) ((gd .int σ 3).toNat+x.1)))],ob:=fun x=>[(1000000,some (.row 134 tSh false .unk x.2))],inv:=fun x=>QQ gK (gr tSh σ 1000000) (gd .int σ 3).toNat x.1 x.2,mu:=fun x=>(gr tSh σ 1000000).length-x.1}
 |_=>none
abbrev jhc (x:Nat)(a:Nat×List ShD):=((x:Int).toNat+a.1)
abbrev jle (d:List ShD×Unit)(x:Nat)(a:Nat×List ShD):=(List.take (pw gK d.1 (jhc x a)).toNat a.2++List.replicate ((a.2.length:Int).toNat-(pw gK d.1 (jhc x a)).toNat) ((0:Int),(0:Int),(0:Int),(0:Int),(0:Int),()))
abbrev jlf (a:Nat×List ShD)(x:Nat):=(!decide (nth a.2 ((x:Int).toNat+(a.1:Int).toNat)=nth a.2 ((x:Int).toNat+((a.1:Int)-1).toNat)))
abbrev jhy (d:List ShD×Unit):=(d.1.length:Int)
abbrev jjc (d:List ShD×Unit)(x:Nat):=(↑((jhy d).toNat-(x:Int).toNat):Int)
def rN:Prop:=∀(d:List ShD×Unit),d.1.length<=100000->d.1.length<4611686018427387904->(decide ((jhy d)<2)=true->d=(ck gK d.1,())/\()=())/\(decide ((jhy d)<2)=false->(∃(x:Nat),((1=(x:Int)/\True)/\True)/\jd5 gK d.1 x)/\∀(x:Nat),jd5 gK d.1 x->d.1.length<4611686018427387904->(decide ((x:Int)<(jhy d))=true->0<=(x:Int)/\(x:Int)<(jhy d)/\wl ((x:Int)-1)/\0<=(x:Int)-1/\(x:Int)-1<(jhy d)/\(decide (nth d.1 (x:Int).toNat=nth d.1 ((x:Int)-1).toNat)=true->0<=(x:Int)/\(x:Int)<=(jhy d)/\(jhy d)<=(jhy d)/\(∃(a:Nat×List ShD),((1=(a.1:Int)/\(x:Int)=pw gK d.1 (jhc x a)/\True)/\d.1=a.2/\True)/\QQ gK d.1 (x:Int).toNat a.1 a.2)/\∀(a:Nat×List ShD),QQ gK d.1 (x:Int).toNat a.1 a.2->(jhy d).toNat-(x:Int).toNat<4611686018427387904->(decide ((a.1:Int)<(jjc d x))=true->0<=(a.1:Int)/\(a.1:Int)<(jjc d x)/\wl ((a.1:Int)-1)/\0<=(a.1:Int)-1/\(a.1:Int)-1<(jjc d x)/\((jlf a x)=true->0<=(a.1:Int)/\(a.1:Int)<(jjc d x)/\0<=pw gK d.1 (jhc x a)/\pw gK d.1 (jhc x a)<(a.2.length:Int)/\wl (pw gK d.1 (jhc x a)+1)/\wl ((a.1:Int)+1)/\∃(b:Nat×List ShD),(((a.1:Int)+1=(b.1:Int)/\pw gK d.1 (jhc x a)+1=pw gK d.1 ((x:Int).toNat+b.1)/\True)/\a.2.set (pw gK d.1 (jhc x a)).toNat (nth a.2 ((x:Int).toNat+(a.1:Int).toNat))=b.2/\True)/\QQ gK d.1 (x:Int).toNat b.1 b.2/\d.1.length-b.1<d.1.length-a.1)/\((jlf a x)=false->wl ((a.1:Int)+1)/\∃(b:Nat×List ShD),((pw gK d.1 (jhc x a)=pw gK d.1 ((x:Int).toNat+b.1)/\(a.1:Int)+1=(b.1:Int)/\True)/\a.2=b.2/\True)/\QQ gK d.1 (x:Int).toNat b.1 b.2/\d.1.length-b.1<d.1.length-a.1))/\(decide ((a.1:Int)<(jjc d x))=false->0<=pw gK d.1 (jhc x a)/\pw gK d.1 (jhc x a)<=(a.2.length:Int)/\(a.2.length:Int)<=a.2.length/\(pw gK d.1 (jhc x a)).toNat+((a.2.length:Int).toNat-(pw gK d.1 (jhc x a)).toNat)=a.2.length/\(0:Int)<=0/\0<=pw gK d.1 (jhc x a)/\pw gK d.1 (jhc x a)<=(↑(jle d x a).length:Int)/\(List.take ((pw gK d.1 (jhc x a)).toNat-Int.toNat 0) (jle d x a),())=(ck gK d.1,())/\()=()))/\(decide (nth d.1 (x:Int).toNat=nth d.1 ((x:Int)-1).toNat)=false->wl ((x:Int)+1)/\∃(c:Nat),(((x:Int)+1=(c:Int)/\True)/\True)/\jd5 gK d.1 c/\d.1.length-c<d.1.length-x))/\(decide ((x:Int)<(jhy d))=false->d=(ck gK d.1,())/\()=()))
abbrev oN:vq:=WM tSh 134
def I1:vq:=⟨[.val (.slice tSh)],[rwS],fun d=>[d.1.length<=100000],fun d=>((qA d.1,()),())⟩
abbrev jkx:=(we (Ty.int.pair (Ty.int.pair (Ty.int.pair (Ty.int.pair (Ty.int.pair Ty.unit))))) fun(a:ShD×ShD×Unit)=>(ee a.1 a.2.1,()))
def I2:Prop:=∀(d:List ShD×Unit),d.1.length<=100000->d.1.length<=100000/\(∀(x:ShD),x∈d.1->∀(y:ShD),y∈d.1->wC [])/\yq jkx d.1/\(wd jkx d.1).length<=100000/\(ck gK (wd jkx d.1),())=(qA d.1,())/\()=()
def LN:vq:=⟨[.val tSh,.own (.box 157 [.map .int .int]) true],[.cl (.dat .bool)],fun d=>[Zd d.2.1.1],fun d=>((Sw d.2.1.1 d.1,()),((oC d.2.1.1 d.1,()),()))⟩
abbrev jky (d:ShD×(List (Int×Int)×Unit)×Unit):=(wW (0:Int) (wG Ty.int d.1.1 d.2.1.1)+1)
def LO:Prop:=∀(d:ShD×(List (Int×Int)×Unit)×Unit),Zd d.2.1.1->wl (jky d)/\(decide (1<wW (0:Int) (wG Ty.int d.1.1 (iz Ty.int d.1.1 (jky d) d.2.1.1))),())=(Sw d.2.1.1 d.1,())/\((iz Ty.int d.1.1 (jky d) d.2.1.1,()),())=((oC d.2.1.1 d.1,()),())
abbrev clV:Sh:= .fbox 126 157 [.map .int .int]
def fL:vq:=⟨[.val (.slice tSh),.own clV true],[.cl (.dat .int)],fun d=>[d.1.length<=100000,jfw d.2.1.1],fun d=>((nT d.2.1.1 d.1,()),((sg d.2.1.1 d.1,()),()))⟩
def fM:Ann:=fun r=>match r with
 |2=>some fun σ=>{X:=Nat,sl:=fun i=>[(8,.dat .int (i:Int))],ob:=fun i=>[(400020,some (.map false .int .int (gh [] (gd (.slice tSh) σ 0) i)))],inv:=fun i=>i<=(gd (.slice tSh) σ 0).length/\∀b:Nat,b<i->uH [] (gd (.slice tSh) σ 0) b=false,mu:=fun i=>(gd (.slice tSh) σ 0).length-i}
 |_=>none
def fN:Prop:=∀(d:List ShD×(List (Int×Int)×Unit)×Unit),d.1.length<=100000->jfw d.2.1.1->d.1.length<4611686018427387904->(∃(x:Nat),((0=(x:Int)/\True)/\d.2.1.1=gh [] d.1 x/\True)/\x<=d.1.length/\∀(b:Nat),b<x->uH [] d.1 b=false)/\∀(x:Nat),(x<=d.1.length/\∀(b:Nat),b<x->uH [] d.1 b=false)->(decide ((x:Int)<d.1.length)=true->0<=(x:Int)/\(x:Int)<d.1.length/\Zd (gh [] d.1 x)/\(Sw (gh [] d.1 x) (nth d.1 (x:Int).toNat)=true->((x:Int),())=(nT d.2.1.1 d.1,())/\((oC (gh [] d.1 x) (nth d.1 (x:Int).toNat),()),())=((sg d.2.1.1 d.1,()),()))/\(Sw (gh [] d.1 x) (nth d.1 (x:Int).toNat)=false->wl ((x:Int)+1)/\∃(a:Nat),(((x:Int)+1=(a:Int)/\True)/\(True/\True)/\oC (gh [] d.1 x) (nth d.1 (x:Int).toNat)=gh [] d.1 a/\True)/\(a<=d.1.length/\∀(b:Nat),b<a->uH [] d.1 b=false)/\d.1.length-a<d.1.length-x))/\(decide ((x:Int)<d.1.length)=false->((-1:Int),())=(nT d.2.1.1 d.1,())/\((gh [] d.1 x,()),())=((sg d.2.1.1 d.1,()),()))
def cW:vq:=⟨[.val (.slice tSh),.own clV true],[.cl (.dat .bool)],fun d=>[d.1.length<=100000,jfw d.2.1.1],fun d=>((decide (0<=nT d.2.1.1 d.1),()),((sg d.2.1.1 d.1,()),()))⟩
def cX:Prop:=∀(d:List ShD×(List (Int×Int)×Unit)×Unit),d.1.length<=100000->jfw d.2.1.1->d.1.length<=100000/\jfw d.2.1.1/\(decide (0<=nT d.2.1.1 d.1),())=(decide (0<=nT d.2.1.1 d.1),())/\((sg d.2.1.1 d.1,()),())=((sg d.2.1.1 d.1,()),())
def Tx:w4:=⟨[.val (.slice tSh)],[.bool],false,fun d=>[d.1.length<=100000],fun d=>(Vu d.1,())⟩
def Tz:Prop:=∀(d:List ShD×Unit),d.1.length<=100000->d.1.length<=100000/\jfw []/\(decide (0<=nT [] d.1),())=(Vu d.1,())
def FK:w4:=⟨[.val tDy],[.int],false,fun _=>[],fun d=>(xY d.1,())⟩
def FL:Ann:=fun r=>match r with
 |5=>some fun σ=>{X:=Nat,sl:=fun i=>[(17,.dat .int (i:Int))],ob:=fun _=>[],inv:=fun i=>i<=(gd (.slice tBk) σ 15).length/\∀b:Nat,b<i->ql (ww (gd tDy σ 0)) (gg (nth (gd (.slice tBk) σ 15) b))=true,mu:=fun i=>(gd (.slice tBk) σ 15).length-i}
 |_=>none
abbrev jkz:=((0:Int),(1:Int),(0:Int),(0:Int),(0:Int),(1:Int),())
def FM:Prop:=∀(d:DyD×Unit),(decide (vV d.1.1 jkz≠0)=true->(vV d.1.1 jkz,())=(xY d.1,()))/\(decide (vV d.1.1 jkz≠0)=false->d.1.2.2.1.length<4611686018427387904->(∃(x:Nat),((0=(x:Int)/\True)/\True)/\x<=d.1.2.2.1.length/\∀(b:Nat),b<x->ql (ww d.1) (gg (nth d.1.2.2.1 b))=true)/\∀(x:Nat),(x<=d.1.2.2.1.length/\∀(b:Nat),b<x->ql (ww d.1) (gg (nth d.1.2.2.1 b))=true)->(decide ((x:Int)<d.1.2.2.1.length)=true->0<=(x:Int)/\(x:Int)<d.1.2.2.1.length/\(decide (vV d.1.1 (nth d.1.2.2.1 (x:Int).toNat).1≠0)=true->(vV d.1.1 (nth d.1.2.2.1 (x:Int).toNat).1,())=(xY d.1,()))/\(decide (vV d.1.1 (nth d.1.2.2.1 (x:Int).toNat).1≠0)=false->wl ((x:Int)+1)/\∃(a:Nat),(((x:Int)+1=(a:Int)/\True)/\True)/\(a<=d.1.2.2.1.length/\∀(b:Nat),b<a->ql (ww d.1) (gg (nth d.1.2.2.1 b))=true)/\d.1.2.2.1.length-a<d.1.2.2.1.length-x))/\(decide ((x:Int)<d.1.2.2.1.length)=false->((0:Int),())=(xY d.1,())))
def TA:w4:=⟨[.val tDy],[.int],false,fun d=>[(qi d.1).length<=100000],fun d=>(qo d.1,())⟩
def TB:Prop:=∀(d:DyD×Unit),(qi d.1).length<=100000->(decide (xY d.1≠0)=true->(xY d.1,())=(qo d.1,()))/\(decide (xY d.1≠0)=false->((!qG d.1)=true->((50:Int),())=(qo d.1,()))/\((!qG d.1)=false->d.1.q4.2.1.length<=100000/\(qA d.1.q4.2.1).length<=100000/\(Vu (qA d.1.q4.2.1)=true->((51:Int),())=(qo d.1,()))/\(Vu (qA d.1.q4.2.1)=false->((0:Int),())=(qo d.1,()))))
theorem TC:O0:=by
 intro d;rfl
theorem rO:w9 PR 120 OZ:=wT TC Tryz.func120 kcN koN
theorem rP:oK:=by
 rintro⟨l,f,⟨⟩⟩ a g;refine⟨⟨0,⟨⟨rfl,tZ⟩,tZ⟩,jl _,fun b c=>by omega⟩,fun i hi=>⟨fun h=> ?_,fun h=> ?_⟩⟩;have h:i<l.length:=(by simpa using h);simp only[jw] at*;refine⟨by omega,by omega,yj _ (a _ (L.wh h)) ⟨fun c=> ?_,fun c=>⟨iZ6,i+1,⟨⟨by simp,tZ⟩,tZ⟩,⟨by omega,fun b d=> ?_⟩,by omega⟩⟩⟩;rw[yI (p:=wc (α:=SpD) f.F) h hi.2 c];by_cases e:b=i;subst e;exact c;exact hi.2 b (by omega);have h:l.length<=i:=(by simpa using h);rw[vu (p:=wc (α:=SpD) f.F) h hi.2]
theorem oO:w9 PR 192 oI:=vb oJ rP Tryz.func192 kcN koN
theorem ma:ld:=by
 rintro⟨l,f,⟨⟩⟩ a;refine⟨a,?_⟩;exact jD (·,()) (i8 (wc (α:=SpD) f.F) l)
theorem li:w9 PR 160 lc:=wT ma Tryz.func160 (kcC oO kcN) koN
theorem oP:nj:=by
 rintro⟨l,f,⟨⟩⟩ a g;refine⟨⟨0,⟨⟨rfl,tZ⟩,tZ⟩,jl _,fun b c=>by omega⟩,fun i hi=>⟨fun h=> ?_,fun h=> ?_⟩⟩;have h:i<l.length:=(by simpa using h);simp only[jw] at*;refine⟨by omega,by omega,yj _ (a _ (L.wh h)) ⟨fun c=> ?_,fun c=>⟨iZ6,i+1,⟨⟨by simp,tZ⟩,tZ⟩,⟨by omega,fun b d=> ?_⟩,by omega⟩⟩⟩;rw[yI (p:=wc (α:=(List SpD)) f.F) h hi.2 c];by_cases e:b=i;subst e;exact c;exact hi.2 b (by omega);have h:l.length<=i:=(by simpa using h);rw[vu (p:=wc (α:=(List SpD)) f.F) h hi.2]
theorem nv:w9 PR 193 ng:=vb nh oP Tryz.func193 kcN koN
theorem lj:fI:=by
 rintro⟨l,f,⟨⟩⟩ a;refine⟨a,?_⟩;exact jD (·,()) (i8 (wc (α:=(List SpD)) f.F) l)
theorem fO:w9 PR 162 fH:=wT lj Tryz.func162 (kcC nv kcN) koN
theorem mb:lh:=by
 rintro⟨l,f,⟨⟩⟩ a g;refine⟨⟨0,⟨⟨rfl,tZ⟩,tZ⟩,jl _,fun b c=>by omega⟩,fun i hi=>⟨fun h=> ?_,fun h=> ?_⟩⟩;have h:i<l.length:=(by simpa using h);simp only[jw] at*;refine⟨by omega,by omega,yj _ (a _ (L.wh h)) ⟨fun c=> ?_,fun c=>⟨iZ6,i+1,⟨⟨by simp,tZ⟩,tZ⟩,⟨by omega,fun b d=> ?_⟩,by omega⟩⟩⟩;rw[yI (p:=wc (α:=BkD) f.F) h hi.2 c];by_cases e:b=i;subst e;exact c;exact hi.2 b (by omega);have h:l.length<=i:=(by simpa using h);rw[vu (p:=wc (α:=BkD) f.F) h hi.2]
theorem lk:w9 PR 194 lf:=vb lg mb Tryz.func194 kcN koN
theorem eH:dE:=by
 rintro⟨l,f,⟨⟩⟩ a;refine⟨a,?_⟩;exact jD (·,()) (i8 (wc (α:=BkD) f.F) l)
theorem dF:w9 PR 164 dD:=wT eH Tryz.func164 (kcC lk kcN) koN
theorem oQ:nu:=by
 rintro⟨l,f,⟨⟩⟩ a g;refine⟨⟨0,⟨⟨rfl,tZ⟩,tZ⟩,jl _,fun b c=>by omega⟩,fun i hi=>⟨fun h=> ?_,fun h=> ?_⟩⟩;have h:i<l.length:=(by simpa using h);simp only[jw] at*;refine⟨by omega,by omega,yj _ (a _ (L.wh h)) ⟨fun c=> ?_,fun c=>⟨iZ6,i+1,⟨⟨by simp,tZ⟩,tZ⟩,⟨by omega,fun b d=> ?_⟩,by omega⟩⟩⟩;rw[yI (p:=wc (α:=ShD) f.F) h hi.2 c];by_cases e:b=i;subst e;exact c;exact hi.2 b (by omega);have h:l.length<=i:=(by simpa using h);rw[vu (p:=wc (α:=ShD) f.F) h hi.2]
theorem nx:w9 PR 167 nq:=vb nr oQ Tryz.func167 kcN koN
theorem ll:fK:=by
 rintro⟨l,f,⟨⟩⟩ a;refine⟨a,?_⟩;exact jD (·,()) (i8 (wc (α:=ShD) f.F) l)
theorem fP:w9 PR 125 fJ:=wT ll Tryz.func125 (kcC nx kcN) koN
theorem A7:xh:=by
 intro d h;exact yj _ h rfl
theorem xl:w9 PR 161 xg:=wT A7 Tryz.func161 kcN koN
theorem FN:DV:=by
 intro d h;exact⟨fun g a=>⟨h g a,tZ⟩,jD (·,()) (tE d.snd.fst.2 d.fst)⟩
theorem DY:w9 PR 118 DU:=wT FN Tryz.func118 (kcC li (kcC xl kcN)) koN
theorem xm:tN:=by
 intro d h;exact yj _ h rfl
theorem tU:w9 PR 163 tM:=wT xm Tryz.func163 kcN koN
theorem DZ:A2:=by
 intro d h;exact⟨fun g a=>⟨h g a,tZ⟩,jD (·,()) (tE d.snd.fst.2 d.fst)⟩
theorem A8:w9 PR 122 A1:=wT DZ Tryz.func122 (kcC fO (kcC tU kcN)) koN
theorem rQ:oM:=by
 intro d h;exact yj _ h rfl
theorem oR:w9 PR 165 oL:=wT rQ Tryz.func165 kcN koN
theorem xn:tP:=by
 intro d h;exact⟨fun g a=>⟨h g a,tZ⟩,jD (·,()) (tE d.snd.fst.2 d.fst)⟩
theorem tV:w9 PR 123 tO:=wT xn Tryz.func123 (kcC dF (kcC oR kcN)) koN
theorem xo:tR:=by
 intro d h;exact yj _ h rfl
theorem tW:w9 PR 166 tQ:=wT xo Tryz.func166 kcN koN
theorem D0:A4:=by
 intro d h;exact⟨fun g a=>⟨h g a,tZ⟩,jD (·,()) (tE d.snd.fst.2 d.fst)⟩
theorem A9:w9 PR 124 A3:=wT D0 Tryz.func124 (kcC fP (kcC tW kcN)) koN
theorem O3:LF:=fun _=>rfl
theorem LP:w9 PR 116 LD:=wT O3 Tryz.func116 kcN koN
theorem O4:LH:=by
 rintro⟨l,d,f,⟨⟩⟩ a _ _;exact⟨fun _=>a,rfl⟩
theorem LQ:w9 PR 117 LG:=wT O4 Tryz.func117 (kcC DY kcN) koN
theorem O5:LJ:=by
 rintro⟨b,d,⟨⟩⟩ h;have h:(qg d).length<4611686018427387904:=h;exact⟨L.GM (by show _<=((qg d).length:Int)-1;omega) (by show((qg d).length:Int)-1<=_;omega),rfl⟩
theorem LR:w9 PR 119 LI:=wT O5 Tryz.func119 (kcC rO kcN) koN
theorem O6:LL:=by
 unfold LL jld jlc Prod.q4;rintro⟨s,d,⟨⟩⟩ h;refine⟨fun a=> ?_,fun b=>⟨fun a=> ?_,rfl⟩⟩;have h:=h a;exact L.GM (by simp only at*;omega) (by simp only at*;omega);have h:=b a;exact L.GM (by simp only at*;omega) (by simp only at*;omega)
theorem LS:w9 PR 121 LK:=wT O6 Tryz.func121 (kcC rO kcN) koN
theorem jak (s:SpD):AE s=uC s:=by
 unfold AE uC;rw[j7];simp only[ji,jp];omega
theorem jal (n:Nat) (b:BkD):E7 n b=nP n b:=by
 unfold E7 nP wa;rw[j7];simp only[ji,jp];omega
theorem jam (nb a:Nat) (s:ShD):Nf nb a s=nQ nb a s:=by
 unfold Nf nQ wa;rw[j7];simp only[ji,jp];omega
theorem jan (d:DyD):(((((((decide (((wm d).length:Int)<=4)&&wa ((qg d).length:Int) 1 5)&&(qg d).all (fun r=>decide ((r.length:Int)=(qg d).length)&&r.all uC))&&(wm d).all (nP (qg d).length))&&wa (BN d) 0 300)&&wa (jbq d) 0 1440)&&decide (((qi d).length:Int)<=30))&&(qi d).all (nQ (wm d).length (wj (ww d)).length))=qG d:=by
 unfold qG;have e:(fun(r:List SpD)=>decide ((r.length:Int)=(qg d).length)&&r.all uC)=di (qg d).length:=by
  funext r;unfold di;congr 1;exact decide_eq_decide.2 (by omega)
 rw[e];cases (qg d).all (di (qg d).length)<;>cases (wm d).all (nP (qg d).length)<;>cases (qi d).all (nQ (wm d).length (wj (ww d)).length)<;>simp only[ky,Bool.and_true,Bool.false_and,wa]
 rw[j7];simp only[ji,jp];omega
theorem Xe:Tw:=by
 unfold Tw jjb jjS jiH jkw Prod.q4;rintro⟨d,⟨⟩⟩ _ _;refine⟨fun _ _ _=>⟨fun _ _=>tZ,tZ⟩,fun _ _ _=>tZ,fun _=>⟨fun _ _ _=>tZ,?_⟩⟩;have a:(wc fun(x:SpD×Unit)=>(AE x.fst,()))=uC:=funext jak;have e2:(wc fun(x:BkD×Unit)=>(E7 (qg d).length x.fst,()))=nP (qg d).length:=funext (jal _);have b:(wc fun(x:ShD×Unit)=>(Nf (wm d).length (wj (ww d)).length x.fst,()))=nQ (wm d).length (wj (ww d)).length:=funext (jam _ _);simp only;rw[a,e2,b];exact jD (·,()) (jan d)
theorem TD:w9 PR 81 Tv:=wT Xe Tryz.func81 (kcC rO (kcC LP (kcC LQ (kcC LR (kcC LS (kcC A8 (kcC tV (kcC A9 kcN)))))))) koN
theorem D1:A6:=by
 intro d;simp
theorem Ba:w9 PR 141 A5:=wT D1 Tryz.func141 kcN koN
theorem xp:tT:=by
 unfold tT jiI;rintro⟨a,b,⟨⟩⟩;refine⟨fun h=>(by cases h),fun _=>⟨fun h=>(by cases h),fun _=>⟨fun h=> ?_,fun h=>⟨fun c=> ?_,fun c=> ?_⟩⟩⟩⟩;have h:a<b:=ja h;simp only;unfold dA;rw[je h];have h:¬a<b:=jc h;have c:b<a:=ja c;simp only;unfold dA;rw[jd h,je c];have h:¬a<b:=jc h;have c:¬b<a:=jc c;simp only;unfold dA;rw[jd h,jd c]
theorem gq:w9 PR 99 tS:=wT xp Tryz.func99 (kcC Ba kcN) koN
theorem TE {l:List Int} {i:Nat} (h:i<l.length) (a:∀b:Nat,b<i->nth l b=0) (hi:nth l i≠0):gx l=nth l i:=by
 have e:l.find? (fun n=>decide (n≠0))=some (nth l i):=by
  rw[List.find?_eq_some_iff_getElem];refine⟨jG hi,i,h,by rw[L.qy h],fun j c=> ?_⟩;have:=a j c;rw[L.qy (by omega)] at this;simp[this]
 unfold gx;rw[e]
theorem LU {l:List Int} (a:∀b:Nat,b<l.length->nth l b=0):gx l=0:=by
 have e:l.find? (fun n=>decide (n≠0))=none:=by
  rw[List.find?_eq_none];intro x c;obtain⟨i,hi,rfl⟩:=L.mem_iff.1 c;simp[a i hi]
 unfold gx;rw[e]
theorem LV:I0:=by
 rintro⟨l,⟨⟩⟩ f;refine⟨⟨0,⟨⟨rfl,tZ⟩,tZ⟩,jl _,fun b c=>by omega⟩,fun x d=>⟨fun h=> ?_,fun h=> ?_⟩⟩;have h:x<l.length:=(by simpa using h);simp only[jw];refine⟨by omega,by omega,fun a=> ?_,fun a=>⟨L.GM (by omega) (by simp only at f;omega),x+1,⟨⟨by simp,tZ⟩,tZ⟩,⟨h,fun b c=> ?_⟩,by omega⟩⟩;rw[TE h d.2 (ja a)];by_cases e:b=x;subst e;exact jM.1 (jc a);exact d.2 b (by omega);have h:l.length<=x:=(by simpa using h);rw[LU (fun b c=>d.2 b (by simp only at c;omega))]
theorem cz:w9 PR 98 IY:=vb IZ LV Tryz.func98 kcN koN
theorem FO:DX:=fun _=>rfl
theorem D2:w9 PR 129 DW:=wT FO Tryz.func129 (kcC gq (kcC cz kcN)) koN
theorem TF:O2:=fun _=>rfl
theorem O7:w9 PR 181 O1:=wT TF Tryz.func181 (kcC gq (kcC cz kcN)) koN
theorem Bb:xj:=by
 rintro⟨l,⟨⟩⟩ b β a;have b:l.length<=100000:=b;refine⟨fun h=>⟨?_,rfl⟩,fun _=>⟨by simp only;omega,by simp,rfl⟩⟩;have:l=[]:=a h;rw[this]
theorem xq:ax PR 127 xi:=DA Bb Tryz.func127 kcN koN
theorem tX:rN:=by
 unfold rN jjc jhy jlf jle jhc;rintro⟨l,⟨⟩⟩ m C;have m:l.length<=100000:=m;obtain⟨eq,k⟩:∃eq,eq=gK:=⟨_,rfl⟩;have A:∀a b:ShD,decide (a=b)=eq a b:=fun a b=>by rw[k];rfl
 simp only[<-k,A,jw];refine⟨fun h=>⟨?_,tZ⟩,fun h=> ?_⟩;have h:(l.length:Int)<2:=ja h;rw[L.comp_short (by omega)];have h:¬(l.length:Int)<2:=jc h;refine⟨⟨1,⟨⟨rfl,tZ⟩,tZ⟩,jj _,by omega,?_⟩,fun i hi _=>⟨fun g=> ?_,fun g=>⟨?_,tZ⟩⟩⟩;rw[L.comp_short];rw[jZ];omega;have g:(i:Int)<l.length:=ja g;obtain⟨s,D,f⟩:=hi;have z:((i:Int)-1).toNat=i-1:=(by omega);rw[z];have n:=L.comp_take (eq:=eq) (l:=l) s (by omega:i<l.length);refine⟨by omega,g,by unfold wl;omega,by omega,by omega,fun j=>⟨by omega,by omega,zO _,⟨(1,l),⟨⟨rfl,?_,tZ⟩,rfl,tZ⟩,jj _,by omega,rfl,?_,rfl,?_⟩,fun x q _=>⟨fun e=> ?_,fun e=> ?_⟩⟩,fun j=>⟨iZ6,i+1,⟨⟨by simp,tZ⟩,tZ⟩,⟨by omega,by omega,?_⟩,by omega⟩⟩;unfold pw;rw[n,je j,j6,f,jZ];omega;rw[n,je j,j6,f,jZ];show l.take i=l.take (min i l.length);congr 1;omega;rw[n,je j,j6,f,jZ];omega;have e:(x.1:Int)<((l.length-i:Nat):Int):=ja e;have r:=q;obtain⟨G,H,I,v,J,w⟩:=r;obtain⟨E,F⟩:=L.inv9_next s q (by omega);have y:((x.1:Int)-1).toNat=x.1-1:=(by omega);have o:i+(x.1-1)=i+x.1-1:=(by omega);rw[y,o];have p:pw eq l (i+x.1)=((ck eq (l.take (i+x.1))).length:Int):=rfl;refine⟨by omega,e,by unfold wl;omega,by omega,by omega,fun c=> ?_,fun c=> ?_⟩;have c:eq (nth x.2 (i+x.1)) (nth x.2 (i+x.1-1))=false:=(by simpa using c);obtain⟨t,u⟩:=E c;refine⟨by omega,e,by omega,by omega,by unfold wl;omega,iZ6,(x.1+1,_),⟨⟨by simp,t.symm,tZ⟩,rfl,tZ⟩,u,by show _-(x.1+1)<_;omega⟩;have c:eq (nth x.2 (i+x.1)) (nth x.2 (i+x.1-1))=true:=(by simpa using c);obtain⟨t,u⟩:=F c;exact⟨iZ6,(x.1+1,x.2),⟨⟨t.symm,by simp,tZ⟩,rfl,tZ⟩,u,by show _-(x.1+1)<_;omega⟩;have e:¬(x.1:Int)<((l.length-i:Nat):Int):=jc e;obtain⟨G,H,I,v,J,w⟩:=q;have p:pw eq l (i+x.1)=((ck eq (l.take (i+x.1))).length:Int):=rfl;have d:l.take (i+x.1)=l:=zw (by omega);rw[d] at p v w;rw[p];simp only[jw];have B:=L.comp_len (eq:=eq) l;refine⟨by omega,by omega,zO _,by omega,by omega,by omega,?_,⟨?_,tZ⟩⟩;simp only[jH,jZ,jW];omega;congr 1;rw[show(ck eq l).length-Int.toNat 0=(ck eq l).length from rfl];rw[List.take_left' (by rw[jZ];omega)];exact v.symm;rw[n,jd (by rw[j];simp),f];exact(L.wQ (by omega)).symm;have g:¬(i:Int)<l.length:=jc g;obtain⟨s,D,f⟩:=hi;have d:l.take i=l:=zw (by omega);rw[d] at f;rw[f]
theorem rR:ax PR 130 rL:=tD rM tX Tryz.func130 kcN koN
theorem cq:ax PR 128 oN:=
 Dz Tryz.sortSh 134 rfl (jz (by kernel_rfl)) Tryz.isAgg134 Tryz.sizeOf134 (yb Tryz.func128 (c:=qq Tryz.f128) (by kernel_rfl) (by kernel_rfl))
theorem jao:i9 ee:=by
 have e:ee=Vs (fun a b=>dA (gM a) (gM b)) (Vs (fun a b=>dA (Fi a) (Fi b)) (Vs (fun a b=>dA (Zb a) (Zb b)) (Vs (fun a b=>dA (mo a) (mo b)) (fun a b=>dA (aL a) (aL b))))):=by
  funext a b;unfold ee;simp only[qw,Vs]
  split<;>(try rfl);split<;>(try rfl);split<;>(try rfl);split<;>(try rfl);split<;>(try rfl)
  rename_i h;exact(jM.1 h).symm
 rw[e];exact rK (pn nf gM) (rK (pn nf Fi) (rK (pn nf Zb) (rK (pn nf mo) (pn nf aL))))
theorem TG {a b:ShD} (h:ee a b=0):a=b:=by
 unfold ee at h;rw[qw] at h
 split at h
 contradiction;rename_i c;rw[qw] at h
 split at h
 contradiction;rename_i d;rw[qw] at h
 split at h
 contradiction;rename_i e;rw[qw] at h
 split at h
 contradiction;rename_i f;rw[yc] at h;have c:=bK.1 (jM.1 c);have d:=bK.1 (jM.1 d);have e:=bK.1 (jM.1 e);have f:=bK.1 (jM.1 f);have g:=bK.1 h;obtain⟨i,j,k,l,m,⟨⟩⟩:=a;obtain⟨n,o,p,q,r,⟨⟩⟩:=b;have c:i=n:=c;have d:j=o:=d;have e:k=p:=e;have f:l=q:=f;have g:m=r:=g;rw[c,d,e,f,g]
theorem jap (l:List ShD):yq (we tSh fun x=>(ee x.1 x.2.1,())) l:=Cb jao (fun _ _ _ _ h=>TG h)
theorem Xf (l:List ShD):(qA l).length<=l.length:=by
 unfold qA;refine jF (L.comp_len _) ?_;rw[(qn l).length_eq];exact jj _
theorem LW:I2:=by
 unfold I2 jkx;rintro⟨l,⟨⟩⟩ a;exact⟨a,fun _ _ _ _=>tZ,jap l,by rw[(qn (lt:=we tSh fun x=>(ee x.1 x.2.1,())) l).length_eq];exact a,rfl,rfl⟩
theorem tY:ax PR 83 I1:=DA LW Tryz.func83 (kcC D2 kcN) (koC xq (koC cq (koC rR koN)))
theorem O8:LO:=by
 unfold LO jky;rintro⟨s,⟨m,⟨⟩⟩,⟨⟩⟩ h;have h:Zd m:=h;have:=h (gM s);have this:0<=wW 0 (wG .int s.1 m)/\wW 0 (wG .int s.1 m)<=200000:=this;exact⟨L.GM (by simp only;omega) (by simp only;omega),rfl,rfl⟩
theorem LX:ax PR 126 LN:=DA O8 Tryz.func126 kcN koN
theorem fQ {m:List (Int×Int)} {l:List ShD} {i:Nat} (h:i<l.length):gh m l (i+1)=oC (gh m l i) (nth l i):=by
 unfold gh;rw[L.wQ h,jO];rfl
theorem jbR (l:List ShD):∀i,i<=l.length->∀k,0<=wW 0 (wG .int k (gh [] l i))/\wW 0 (wG .int k (gh [] l i))<=(i:Int)
 |0,_,k=>⟨zO 0,zO 0⟩
 |i+1,hi,k=>by
  have b:=jbR l i (by omega)
  rw[fQ (by omega)]
  unfold oC
  by_cases e:k=gM (nth l i)
  rw[e]
  have a:=M.so (kt:= .int) (gM (nth l i)) (wW 0 (wG .int (gM (nth l i)) (gh [] l i))+1) (gh [] l i)
  rw[a]
  have:=b (gM (nth l i))
  show 0<=wW 0 (wG .int (gM (nth l i)) (gh [] l i))+1/\wW 0 (wG .int (gM (nth l i)) (gh [] l i))+1<=_
  omega
  have a:=M.eV (kt:= .int) (k:=gM (nth l i)) (k':=k) e (wW 0 (wG .int (gM (nth l i)) (gh [] l i))+1) (gh [] l i)
  rw[a]
  have:=b k
  omega
theorem jaq {m:List (Int×Int)} {l:List ShD} {i:Nat} (h:i<l.length) (a:∀b:Nat,b<i->uH m l b=false) (hi:uH m l i=true):nT m l=(i:Int)/\Zc m l=i+1:=by
 have e:(List.range l.length).findIdx? (uH m l)=some i:=by
  rw[z6];refine⟨by simpa using h,by simpa using hi,fun j c=>by simp[a j c]⟩
 unfold nT Zc gN;rw[e];exact⟨rfl,rfl⟩
theorem Hy {m:List (Int×Int)} {l:List ShD} (a:∀b:Nat,b<l.length->uH m l b=false):nT m l= -1/\Zc m l=l.length:=by
 have e:(List.range l.length).findIdx? (uH m l)=none:=by
  rw[kx];intro x c;exact a x (jE.1 c)
 unfold nT Zc gN;rw[e];exact⟨rfl,rfl⟩
theorem lm:fN:=by
 rintro⟨l,⟨m,⟨⟩⟩,⟨⟩⟩ j f n;have f:m=[]:=f;subst f;have j:l.length<=100000:=j;refine⟨⟨0,⟨⟨rfl,tZ⟩,rfl,tZ⟩,jl _,fun b i=>by omega⟩,fun x a=>⟨fun h=> ?_,fun h=> ?_⟩⟩;have h:x<l.length:=(by simpa using h);simp only[jw];refine⟨by omega,by omega,fun k=> ?_,fun d=> ?_,fun d=>⟨iZ6,x+1,⟨⟨by simp,tZ⟩,⟨tZ,tZ⟩,(fQ h).symm,tZ⟩,⟨h,fun b i=> ?_⟩,by omega⟩⟩;have:=jbR l x (by omega) k;omega;obtain⟨c,e2⟩:=jaq h a.2 d;unfold sg;rw[c,e2,fQ h];exact⟨rfl,rfl⟩;by_cases e:b=x;subst e;exact d;exact a.2 b (by omega);have h:l.length<=x:=(by simpa using h);obtain⟨c,e2⟩:=Hy (m:=[]) (l:=l) (fun b i=>a.2 b (by omega));have g:x=l.length:=(by have:=a.1;simp only at this;omega);unfold sg;rw[c,e2,g];exact⟨rfl,rfl⟩
theorem fR:ax PR 167 fL:=tD fM lm Tryz.func167 kcN (koC LX koN)
theorem dG:cX:=fun _ a b=>⟨a,b,rfl,rfl⟩
theorem cY:ax PR 125 cW:=DA dG Tryz.func125 kcN (koC fR koN)
theorem Xg:Tz:=fun _ h=>⟨h,rfl,rfl⟩
theorem TH:w9 PR 82 Tx:=wT Xg Tryz.func82 kcN (koC cY koN)
theorem jar {c:CrD} (h:wy c=true):ql c (0,1,0,0,0,1,())=true:=by
 obtain⟨a,_⟩:=qe h;unfold ql;refine jG ?_;refine⟨by decide,?_,by decide,?_,by decide,by decide,by decide,by decide,by decide,by decide,by decide,by decide,by decide⟩;show(0:Int)<=U.la c-1;omega;show(1:Int)<=U.la c-1;omega
theorem Xh (c:CrD):vV c (0,1,0,0,0,1,())=if wy c=false then 30 else 0:=by
 unfold vV;by_cases h:wy c=false;rw[je h,je h];rw[jd h,jd h,jd (by rw[jar (by simpa using h)];simp)]
theorem I3:FM:=by
 unfold FM jkz;rintro⟨d,⟨⟩⟩;have e:=Xh d.1;simp only[e];by_cases f:wy d.1=false;rw[je f];refine⟨fun _=> ?_,fun h=>by simp at h⟩;have f:wy (ww d)=false:=f;unfold xY;rw[je f];rw[jd f];have c:wy (ww d)=true:=eq_true_of_ne_false f;refine⟨fun h=>by simp at h,fun _ k=>⟨⟨0,⟨⟨rfl,tZ⟩,tZ⟩,jl _,fun b j=>by omega⟩,fun x l=>⟨fun h=> ?_,fun h=> ?_⟩⟩⟩;have h:(x:Int)<(wm d).length:=ja h;have h:x<(wm d).length:=(by omega);have k:(wm d).length<4611686018427387904:=k;have e2:vV d.1 (nth d.2.2.1 x).1=if ql (ww d) (gg (nth (wm d) x))=false then 31 else 0:=by
  show(if wy (ww d)=false then(30:Int) else if ql (ww d) (gg (nth (wm d) x))=false then 31 else 0)=_;rw[jd (by rw[c];simp)]
 simp only[jw,e2];refine⟨by omega,by show(x:Int)<(wm d).length;omega,fun a=> ?_,fun a=>⟨iZ6,x+1,⟨⟨by simp,tZ⟩,tZ⟩,⟨h,fun b j=> ?_⟩,(by show(wm d).length-(x+1)<(wm d).length-x;omega)⟩⟩;have a:=ja a;by_cases g:ql (ww d) (gg (nth (wm d) x))=false;rw[je g];unfold xY;rw[jd (by rw[c];simp),je];unfold J6;exact L.all_false h g;rw[jd g] at a;exact absurd rfl a;have a:=jc a;by_cases m:b=x;subst m;by_cases g:ql (ww d) (gg (nth (wm d) b))=false;rw[je g] at a;exact absurd (by decide) a;exact eq_true_of_ne_false g;exact l.2 b (by omega);have h:¬(x:Int)<(wm d).length:=jc h;have h:(wm d).length<=x:=(by omega);unfold xY;rw[jd (by rw[c];simp),jd];rw[Bool.not_eq_false];unfold J6;rw[jV];intro b j;obtain⟨i,hi,rfl⟩:=L.mem_iff.1 j;exact l.2 i (by omega)
theorem FP:w9 PR 80 FK:=vb FL I3 Tryz.func80 (kcC Hv kcN) koN
theorem Xi:TB:=by
 unfold TB Prod.q4;rintro⟨d,⟨⟩⟩ c;refine⟨fun h=> ?_,fun h=>⟨fun b=> ?_,fun b=>⟨c,jF (Xf _) c,fun a=> ?_,fun a=> ?_⟩⟩⟩;have h:=ja h;simp only at h⊢;unfold qo;rw[je h];have h:=jc h;simp only at h⊢;unfold qo;rw[jd h,je (by simpa using b)];have h:=jc h;simp only at h⊢;unfold qo;rw[jd h,jd (by simpa using b)];have a:Vu (qA (qi d))=true:=a;rw[je a];have h:=jc h;simp only at h⊢;unfold qo;rw[jd h,jd (by simpa using b)];have a:Vu (qA (qi d))=false:=a;rw[jd (by rw[a];simp)]
theorem Hz:w9 PR 50 TA:=wT Xi Tryz.func50 (kcC FP (kcC TD (kcC TH kcN))) (koC tY koN)
namespace U
def Vk {α:Type} [Inhabited α] (l:List α) (j k:Nat):List α:=(l.set j (nth l k)).set k (nth l j)
def o8 {α:Type} [Inhabited α] (lt:α->α->Bool):List α->Nat->List α
 |l,0=>l
 |l,j+1=>if lt (nth l (j+1)) (nth l j)=true then o8 lt (Vk l (j+1) j) j else l
def eM {α:Type} [Inhabited α] (lt:α->α->Bool) (l:List α) (i:Nat):List α:=(List.range i).foldl (o8 lt) l
def lQ {α:Type} [Inhabited α] (lt:α->α->Bool) (l:List α):List α:=eM lt l l.length
def si {α:Type} (lt:α->α->Bool) (x:α):List α->List α
 |[]=>[x]
 |y::r=>if lt x y=true then y::si lt x r else x::y::r
end U
namespace IS
variable {α:Type} [Inhabited α] {lt:α->α->Bool}
theorem swap_perm {l:List α} {j k:Nat} (a:j<l.length) (hk:k<l.length):(Vk l j k).Perm l:=by
 unfold Vk;rw[L.qy a,L.qy hk];exact List.set_set_perm a hk
theorem sink_perm:∀(j:Nat) (l:List α),j<l.length->(o8 lt l j).Perm l
 |0,l,_=>List.Perm.refl _
 |j+1,l,h=>by
  unfold o8
  have a:=swap_perm (l:=l) (j:=j+1) (k:=j) h (by omega)
  split
  exact(sink_perm j _ (by rw[a.length_eq];omega)).trans a
  exact List.Perm.refl _
theorem part_succ (lt:α->α->Bool) (l:List α) (i:Nat):eM lt l (i+1)=o8 lt (eM lt l i) i:=by
 simp[eM,j8]
theorem part_perm {l:List α}:∀(i:Nat),i<=l.length->(eM lt l i).Perm l
 |0,_=>List.Perm.refl _
 |i+1,h=>by
  rw[part_succ]
  have a:=part_perm (l:=l) i (by omega)
  exact(sink_perm i _ (by rw[a.length_eq];omega)).trans a
theorem isort_perm (lt:α->α->Bool) (l:List α):(lQ lt l).Perm l:=part_perm _ (jj _)
theorem part_isort {l:List α} {i:Nat} (a:1<=i) (b:i<=max l.length 1) (c:l.length<=i):eM lt l i=lQ lt l:=by
 unfold lQ;by_cases h:l.length=0;have:i=1:=(by omega);subst this;rw[h];rfl;have:i=l.length:=(by omega);rw[this]
theorem insR_len {α:Type} {lt:α->α->Bool} (x:α):∀q:List α,(si lt x q).length=q.length+1
 |[]=>rfl
 |y::r=>by
  unfold si
  split
  simp[insR_len x r]
  simp
theorem nth_mid (a:List α) (x:α) (s:List α):nth (a++x::s) a.length=x:=by
 rw[L.qy (by simp)];simp
theorem sink_app:∀(q:List α) (x:α) (s:List α),o8 lt (q.reverse++x::s) q.length=(si lt x q).reverse++s
 |[],x,s=>rfl
 |y::r,x,s=>by
  have e:(y::r).reverse++x::s=r.reverse++y::x::s:=by simp
  rw[e]
  have g:nth (r.reverse++y::x::s) (r.length+1)=x:=by
   have:=nth_mid (r.reverse++[y]) x s;simpa using this
  have h:nth (r.reverse++y::x::s) r.length=y:=by
   have:=nth_mid r.reverse y (x::s);simpa using this
  show(if lt (nth _ (r.length+1)) (nth _ r.length)=true then o8 lt (Vk _ (r.length+1) r.length) r.length else _)=_;rw[g,h];unfold si
  split
  .have a:Vk (r.reverse++y::x::s) (r.length+1) r.length=r.reverse++x::(y::s):=by
    unfold Vk;rw[g,h];apply List.ext_getElem?;intro k;simp only[ku,zK];by_cases b:r.length=k
    .subst b;rw[je rfl,je (by simp)];rw[jx (by simp)];simp
    .rw[jd b];by_cases c:r.length+1=k
     .subst c;rw[je rfl,je (by simp)];rw[jx (by simp)];simp
     .rw[jd c];by_cases f:k<r.length
      .rw[jA (by simpa using f),jA (by simpa using f)]
      .rw[jx (by simp;omega),jx (by simp;omega)];obtain⟨d,i⟩:∃d,k-r.reverse.length=d+2:=⟨k-r.length-2,by simp;omega⟩;rw[i];simp
   rw[a,sink_app r x (y::s)];simp
  .simp
theorem fold_len {α:Type} {lt:α->α->Bool}:∀(l q:List α),(l.foldl (fun q x=>si lt x q) q).length=q.length+l.length
 |[],q=>rfl
 |x::l,q=>by
  simp only[List.foldl_cons,za]
  rw[fold_len l,insR_len];omega
theorem part_eq (l:List α):∀i,i<=l.length->eM lt l i=((l.take i).foldl (fun q x=>si lt x q) []).reverse++l.drop i
 |0,_=>by simp[eM]
 |i+1,h=>by
  rw[part_succ,part_eq l i (by omega)]
  have b:l.drop i=nth l i::l.drop (i+1):=by
   rw[L.qy (by omega)];exact z8 (by omega)
  rw[b];have a:((l.take i).foldl (fun q x=>si lt x q) []).length=i:=(by rw[fold_len];simp;omega);have:=sink_app (lt:=lt) ((l.take i).foldl (fun q x=>si lt x q) []) (nth l i) (l.drop (i+1));rw[a] at this;rw[this,L.wQ (by omega),jO];rfl
theorem isort_eq (l:List α):lQ lt l=(l.foldl (fun q x=>si lt x q) []).reverse:=by
 unfold lQ;rw[part_eq l _ (jj _)];simp
theorem insR_mem {α:Type} {lt:α->α->Bool} {x z:α}:∀{q:List α},z∈si lt x q↔z=x\/z∈q
 |[]=>by simp[si]
 |y::r=>by
  unfold si
  split
  simp only[jk,insR_mem (q:=r)]
  constructor
  rintro(h|h|h)<;>simp[h]
  rintro(h|h|h)<;>simp[h]
  simp
theorem insR_desc {α:Type} {lt:α->α->Bool} {x:α}:∀{q:List α},yq lt (x::q)->q.Pairwise (fun a b=>lt a b=false)->(si lt x q).Pairwise (fun a b=>lt a b=false)
 |[],_,_=>by simp[si]
 |y::r,ho,h=>by
  rw[zB] at h
  unfold si
  split
  rename_i d
  rw[zB]
  refine⟨fun z c=> ?_,insR_desc (ho.sub (fun z c=>by rcases jk.1 c with h|h;exact h▸zh;exact jm _ (jm _ h))) h.2⟩
  rcases insR_mem.1 c with rfl|c
  exact ho.asymm (by simp) (by simp) d
  exact h.1 z c
  rename_i d
  have d:lt x y=false:=by simpa using d
  rw[zB]
  refine⟨fun z c=> ?_,zB.2 h⟩
  rcases jk.1 c with rfl|c
  exact d
  exact ho.ntrans (by simp) (by simp) (by simp[c]) d (h.1 z c)
theorem fold_desc {α:Type} {lt:α->α->Bool}:∀(l q:List α),yq lt (l++q)->q.Pairwise (fun a b=>lt a b=false)->(l.foldl (fun q x=>si lt x q) q).Pairwise (fun a b=>lt a b=false)
 |[],q,_,h=>h
 |x::l,q,ho,h=>by
  refine fold_desc l _ (ho.sub (fun z c=> ?_)) (insR_desc (ho.sub (fun z c=> ?_)) h)
  rcases jr.1 c with c|c
  simp[c]
  rcases insR_mem.1 c with rfl|c
  simp
  simp[c]
  rcases jk.1 c with rfl|c
  simp
  simp[c]
theorem isort_asc {l:List α} (a:yq lt l):Tf lt (lQ lt l):=by
 rw[isort_eq];unfold Tf;rw[List.pairwise_reverse];exact fold_desc l [] (by simpa using a) (by simp)
theorem isort_sort {l:List α} (a:yq lt l):lQ lt l=wd lt l:=tC a (isort_perm lt l) (isort_asc a)
end IS
end Go.X
namespace Go.X
open U
open Go.Proofs
def U.len8tab:ByteArray:=⟨#[0,1,2,2,3,3,3,3,4,4,4,4,4,4,4,4,5,5,5,5,5,5,5,5,5,5,5,5,5,5,5,5,6,6,6,6,6,6,6,6,6,6,6,6,6,6,6,6,6,6,6,6,6,6,6,6,6,6,6,6,6,6,6,6,7,7,7,7,7,7,7,7,7,7,7,7,7,7,7,7,7,7,7,7,7,7,7,7,7,7,7,7,7,7,7,7,7,7,7,7,7,7,7,7,7,7,7,7,7,7,7,7,7,7,7,7,7,7,7,7,7,7,7,7,7,7,7,7,8,8,8,8,8,8,8,8,8,8,8,8,8,8,8,8,8,8,8,8,8,8,8,8,8,8,8,8,8,8,8,8,8,8,8,8,8,8,8,8,8,8,8,8,8,8,8,8,8,8,8,8,8,8,8,8,8,8,8,8,8,8,8,8,8,8,8,8,8,8,8,8,8,8,8,8,8,8,8,8,8,8,8,8,8,8,8,8,8,8,8,8,8,8,8,8,8,8,8,8,8,8,8,8,8,8,8,8,8,8,8,8,8,8,8,8,8,8,8,8,8,8,8,8,8,8,8,8]⟩
abbrev rwI:Sh:= .cl (.row 3 .int .unk)
namespace U
abbrev FC:=Int×Int×Unit->Int×Unit
abbrev cD (F:FC):Int->Int->Bool:=we .int F
def lR (p:Int×Int×Unit->List Prop) (l:List Int):Prop:=∀x∈l,∀y∈l,wC (p (x,y,()))
def sj (n:Int):Int:=if n=0 then 0 else if n<2 then 1 else if n<4 then 2 else if n<8 then 3 else 4
end U
def I4:w4:=⟨[.val (.uint .u64)],[.int],false,fun d=>[0<=d.1/\d.1<=12],fun d=>(sj d.1,())⟩
abbrev jkA (d:Int×Unit):=(d.1/(2:Int)^Int.toNat 32/(2:Int)^Int.toNat 16/(2:Int)^Int.toNat 8)
abbrev jkB (d:Int×Unit):=(d.1/(2:Int)^Int.toNat 32/(2:Int)^Int.toNat 16)
abbrev jkC (d:Int×Unit):=(d.1/(2:Int)^Int.toNat 32/(2:Int)^Int.toNat 8)
abbrev jkD (d:Int×Unit):=(d.1/(2:Int)^Int.toNat 16/(2:Int)^Int.toNat 8)
abbrev jlg (d:Int×Unit):=(256<=d.1/(2:Int)^Int.toNat 32/(2:Int)^Int.toNat 16)
def I5:Prop:=∀(d:Int×Unit),0<=d.1/\d.1<=12->(decide (4294967296<=d.1)=true->(0:Int)<=32/\(32:Int)<=64/\(decide (65536<=d.1/(2:Int)^Int.toNat 32)=true->(0:Int)<=16/\(16:Int)<=64/\wl ((32:Int)+16)/\(decide (jlg d)=true->(0:Int)<=8/\(8:Int)<=64/\wl ((32:Int)+16+8)/\0<=d.1/(2:Int)^Int.toNat 32/(2:Int)^Int.toNat 16/(2:Int)^Int.toNat 8/\d.1/(2:Int)^Int.toNat 32/(2:Int)^Int.toNat 16/(2:Int)^Int.toNat 8<=255/\0<=d.1/(2:Int)^Int.toNat 32/(2:Int)^Int.toNat 16/(2:Int)^Int.toNat 8/\d.1/(2:Int)^Int.toNat 32/(2:Int)^Int.toNat 16/(2:Int)^Int.toNat 8<(U.len8tab.size:Int)/\wl (bg U.len8tab (jkA d).toNat)/\wl ((32:Int)+16+8+bg U.len8tab (jkA d).toNat)/\((32:Int)+16+8+bg U.len8tab (jkA d).toNat,())=(sj d.1,()))/\(decide (jlg d)=false->0<=d.1/(2:Int)^Int.toNat 32/(2:Int)^Int.toNat 16/\d.1/(2:Int)^Int.toNat 32/(2:Int)^Int.toNat 16<=255/\0<=d.1/(2:Int)^Int.toNat 32/(2:Int)^Int.toNat 16/\d.1/(2:Int)^Int.toNat 32/(2:Int)^Int.toNat 16<(U.len8tab.size:Int)/\wl (bg U.len8tab (jkB d).toNat)/\wl ((32:Int)+16+bg U.len8tab (jkB d).toNat)/\((32:Int)+16+bg U.len8tab (jkB d).toNat,())=(sj d.1,())))/\(decide (65536<=d.1/(2:Int)^Int.toNat 32)=false->(decide (256<=d.1/(2:Int)^Int.toNat 32)=true->(0:Int)<=8/\(8:Int)<=64/\wl ((32:Int)+8)/\0<=d.1/(2:Int)^Int.toNat 32/(2:Int)^Int.toNat 8/\d.1/(2:Int)^Int.toNat 32/(2:Int)^Int.toNat 8<=255/\0<=d.1/(2:Int)^Int.toNat 32/(2:Int)^Int.toNat 8/\d.1/(2:Int)^Int.toNat 32/(2:Int)^Int.toNat 8<(U.len8tab.size:Int)/\wl (bg U.len8tab (jkC d).toNat)/\wl ((32:Int)+8+bg U.len8tab (jkC d).toNat)/\((32:Int)+8+bg U.len8tab (jkC d).toNat,())=(sj d.1,()))/\(decide (256<=d.1/(2:Int)^Int.toNat 32)=false->0<=d.1/(2:Int)^Int.toNat 32/\d.1/(2:Int)^Int.toNat 32<=255/\0<=d.1/(2:Int)^Int.toNat 32/\d.1/(2:Int)^Int.toNat 32<(U.len8tab.size:Int)/\wl (bg U.len8tab (d.1/(2:Int)^Int.toNat 32).toNat)/\wl ((32:Int)+bg U.len8tab (d.1/(2:Int)^Int.toNat 32).toNat)/\((32:Int)+bg U.len8tab (d.1/(2:Int)^Int.toNat 32).toNat,())=(sj d.1,()))))/\(decide (4294967296<=d.1)=false->(decide (65536<=d.1)=true->(0:Int)<=16/\(16:Int)<=64/\wl ((0:Int)+16)/\(decide (256<=d.1/(2:Int)^Int.toNat 16)=true->(0:Int)<=8/\(8:Int)<=64/\wl ((0:Int)+16+8)/\0<=d.1/(2:Int)^Int.toNat 16/(2:Int)^Int.toNat 8/\d.1/(2:Int)^Int.toNat 16/(2:Int)^Int.toNat 8<=255/\0<=d.1/(2:Int)^Int.toNat 16/(2:Int)^Int.toNat 8/\d.1/(2:Int)^Int.toNat 16/(2:Int)^Int.toNat 8<(U.len8tab.size:Int)/\wl (bg U.len8tab (jkD d).toNat)/\wl ((0:Int)+16+8+bg U.len8tab (jkD d).toNat)/\((0:Int)+16+8+bg U.len8tab (jkD d).toNat,())=(sj d.1,()))/\(decide (256<=d.1/(2:Int)^Int.toNat 16)=false->0<=d.1/(2:Int)^Int.toNat 16/\d.1/(2:Int)^Int.toNat 16<=255/\0<=d.1/(2:Int)^Int.toNat 16/\d.1/(2:Int)^Int.toNat 16<(U.len8tab.size:Int)/\wl (bg U.len8tab (d.1/(2:Int)^Int.toNat 16).toNat)/\wl ((0:Int)+16+bg U.len8tab (d.1/(2:Int)^Int.toNat 16).toNat)/\((0:Int)+16+bg U.len8tab (d.1/(2:Int)^Int.toNat 16).toNat,())=(sj d.1,())))/\(decide (65536<=d.1)=false->(decide (256<=d.1)=true->(0:Int)<=8/\(8:Int)<=64/\wl ((0:Int)+8)/\0<=d.1/(2:Int)^Int.toNat 8/\d.1/(2:Int)^Int.toNat 8<=255/\0<=d.1/(2:Int)^Int.toNat 8/\d.1/(2:Int)^Int.toNat 8<(U.len8tab.size:Int)/\wl (bg U.len8tab (d.1/(2:Int)^Int.toNat 8).toNat)/\wl ((0:Int)+8+bg U.len8tab (d.1/(2:Int)^Int.toNat 8).toNat)/\((0:Int)+8+bg U.len8tab (d.1/(2:Int)^Int.toNat 8).toNat,())=(sj d.1,()))/\(decide (256<=d.1)=false->0<=d.1/\d.1<=255/\0<=d.1/\d.1<(U.len8tab.size:Int)/\wl (bg U.len8tab d.1.toNat)/\wl ((0:Int)+bg U.len8tab d.1.toNat)/\((0:Int)+bg U.len8tab d.1.toNat,())=(sj d.1,()))))
def O9:w4:=⟨[.val (.uint .u64)],[.int],false,fun d=>[0<=d.1/\d.1<=12],fun d=>(sj d.1,())⟩
def Pa:Prop:=∀(d:Int×Unit),0<=d.1/\d.1<=12->(false=true->False)/\(qF->(0<=d.1/\d.1<=12)/\(sj d.1,())=(sj d.1,()))
def bZ:vq:=⟨[.own rwI true,.val .int,.val .int,.fn [.int,.int] [.int]],[],fun d=>[d.2.1=0/\d.2.2.1=(d.1.length:Int)/\d.1.length<=12,lR d.2.2.2.1.pre d.1],fun d=>((),(lQ (cD d.2.2.2.1.F) d.1,()))⟩
def b7:Ann:=fun r=>match r with
 |1=>some fun σ=>{X:=Nat,sl:=fun i=>[(8,.dat .int (i:Int))],ob:=fun i=>[(1000000,some (.row 3 .int false .unk (eM (cD (gfn [.int,.int] [.int] σ 3)) (gr .int σ 1000000) i)))],inv:=fun i=>1<=i/\i<=max (gr .int σ 1000000).length 1,mu:=fun i=>(gr .int σ 1000000).length-i}
 |4=>some fun σ=>{X:=Nat×List Int,sl:=fun x=>[(9,.dat .int (x.1:Int))],ob:=fun x=>[(1000000,some (.row 3 .int false .unk x.2))],inv:=fun x=>(x.1:Int)<=gd .int σ 8/\x.2.Perm (gr .int σ 1000000)/\o8 (cD (gfn [.int,.int] [.int] σ 3)) x.2 x.1=o8 (cD (gfn [.int,.int] [.int] σ 3)) (gr .int σ 1000000) (gd .int σ 8).toNat,mu:=fun x=>x.1}
 |_=>none
abbrev jkE (a:Nat×List Int):=(nth a.2 (a.1:Int).toNat,nth a.2 ((a.1:Int)-1).toNat,())
abbrev jg9 (d:List Int×Int×Int×FnD [Ty.int,Ty.int] [Ty.int]×Unit):=(cD d.2.2.2.1.2)
def b8:Prop:=∀(d:List Int×Int×Int×FnD [Ty.int,Ty.int] [Ty.int]×Unit),d.2.1=0/\d.2.2.1=(d.1.length:Int)/\d.1.length<=12->lR d.2.2.2.1.1 d.1->wl (d.2.1+1)/\(∃(x:Nat),((d.2.1+1=(x:Int)/\True)/\d.1=eM (jg9 d) d.1 x/\True)/\1<=x/\x<=max d.1.length 1)/\∀(x:Nat),1<=x/\x<=max d.1.length 1->(decide ((x:Int)<d.2.2.1)=true->(∃(a:Nat×List Int),(((x:Int)=(a.1:Int)/\True)/\eM (jg9 d) d.1 x=a.2/\True)/\(a.1:Int)<=(x:Int)/\a.2.Perm (eM (jg9 d) d.1 x)/\o8 (jg9 d) a.2 a.1=o8 (jg9 d) (eM (jg9 d) d.1 x) (x:Int).toNat)/\∀(a:Nat×List Int),(a.1:Int)<=(x:Int)/\a.2.Perm (eM (jg9 d) d.1 x)/\o8 (jg9 d) a.2 a.1=o8 (jg9 d) (eM (jg9 d) d.1 x) (x:Int).toNat->(decide (d.2.1<(a.1:Int))=true->0<=(a.1:Int))/\(decide (d.2.1<(a.1:Int))=true->(a.1:Int)<a.2.length)/\(decide (d.2.1<(a.1:Int))=true->wl ((a.1:Int)-1))/\(decide (d.2.1<(a.1:Int))=true->0<=(a.1:Int)-1)/\(decide (d.2.1<(a.1:Int))=true->(a.1:Int)-1<(a.2.length:Int))/\VE (decide (d.2.1<(a.1:Int))) (d.2.2.2.1.1 (jkE a)) (((decide (d.2.1<(a.1:Int))&&decide ((d.2.2.2.1.2 (jkE a)).1<0))=true->wl ((a.1:Int)-1)/\wl ((a.1:Int)-1)/\0<=(a.1:Int)-1/\(a.1:Int)-1<(a.2.length:Int)/\0<=(a.1:Int)/\(a.1:Int)<a.2.length/\0<=(a.1:Int)/\(a.1:Int)<a.2.length/\0<=(a.1:Int)-1/\(a.1:Int)-1<(↑(a.2.set (a.1:Int).toNat (nth a.2 ((a.1:Int)-1).toNat)).length:Int)/\wl ((a.1:Int)-1)/\∃(b:Nat×List Int),(((a.1:Int)-1=(b.1:Int)/\True)/\(a.2.set (a.1:Int).toNat (nth a.2 ((a.1:Int)-1).toNat)).set ((a.1:Int)-1).toNat (nth a.2 (a.1:Int).toNat)=b.2/\True)/\((b.1:Int)<=(x:Int)/\b.2.Perm (eM (jg9 d) d.1 x)/\o8 (jg9 d) b.2 b.1=o8 (jg9 d) (eM (jg9 d) d.1 x) (x:Int).toNat)/\b.1<a.1)/\((decide (d.2.1<(a.1:Int))&&decide ((d.2.2.2.1.2 (jkE a)).1<0))=false->wl ((x:Int)+1)/\∃(c:Nat),(((x:Int)+1=(c:Int)/\True)/\a.2=eM (jg9 d) d.1 c/\True)/\(1<=c/\c<=max d.1.length 1)/\d.1.length-c<d.1.length-x)))/\(decide ((x:Int)<d.2.2.1)=false->()=()/\(eM (jg9 d) d.1 x,())=(lQ (jg9 d) d.1,()))
def fS:vq:=⟨[.own rwI true,.val .int,.val .int,.val .int,.fn [.int,.int] [.int]],[],fun d=>[d.2.1=0/\d.2.2.1=(d.1.length:Int)/\d.1.length<=12,lR d.2.2.2.2.1.pre d.1],fun d=>((),(lQ (cD d.2.2.2.2.1.F) d.1,()))⟩
def fT:Ann:=fun r=>match r with
 |1000002=>some fun _=>{X:=Unit,sl:=fun _=>[],ob:=fun _=>[],inv:=fun _=>True,mu:=fun _=>0}
 |_=>none
def fU:Prop:=∀(d:List Int×Int×Int×Int×FnD [Ty.int,Ty.int] [Ty.int]×Unit),d.2.1=0/\d.2.2.1=(d.1.length:Int)/\d.1.length<=12->lR d.q4.1.1 d.1->wl (d.2.2.1-d.2.1)/\(decide (d.2.2.1-d.2.1<=12)=true->(d.2.1=0/\d.2.2.1=(d.1.length:Int)/\d.1.length<=12)/\lR d.q4.1.1 d.1/\()=()/\(lQ (cD d.q4.1.2) d.1,())=(lQ (cD d.q4.1.2) d.1,()))/\(decide (d.2.2.1-d.2.1<=12)=false->(decide (d.2.2.2.1=0)=true->False)/\(decide (d.2.2.2.1=0)=false->((!true)=true->False)/\((!true)=false->False)))
def vD:vq:=⟨[.own rwI true,.fn [.int,.int] [.int]],[],fun d=>[d.1.length<=12,lR d.2.1.pre d.1,yq (cD d.2.1.F) d.1],fun d=>((),(wd (cD d.2.1.F) d.1,()))⟩
def t6:Prop:=∀(d:List Int×FnD [Ty.int,Ty.int] [Ty.int]×Unit),d.1.length<=12->lR d.2.1.1 d.1->yq (cD d.2.1.2) d.1->d.1.length<4611686018427387904->0<=(d.1.length:Int)/\(d.1.length:Int)<=18446744073709551615/\(0<=(d.1.length:Int)/\(d.1.length:Int)<=12)/\((0:Int)=0/\(d.1.length:Int)=d.1.length/\d.1.length<=12)/\lR d.2.1.1 d.1/\()=()/\(lQ (cD d.2.1.2) d.1,())=(wd (cD d.2.1.2) d.1,())
def asI (l:List Int):List (Ty.st [.int]).Data:=l.map (fun x=>(x,()))
def LVi (d:PD [.ref (.slice .int)]) (xs:List (Ty.st [.int]).Data):Prop:=xs=asI d.1
def t7:B9 (YS [.int]):=fun r=>match r with
 |1=>some fun σ _=>{X:=Nat,sl:=fun i=>[(7,.dat .int (i:Int))],ob:=fun _=>[],ys:=fun i=>(asI ((gd (.slice .int) σ 5).take i),true),inv:=fun i=>i<=(gd (.slice .int) σ 5).length,mu:=fun i=>(gd (.slice .int) σ 5).length-i}
 |_=>none
abbrev jhn:=(fun(a:Int)=>(a,()))
abbrev jjd (d:List Int×Unit)(x:Nat):=(nth d.1 (x:Int).toNat,())
def dZ:Prop:=∀(d:List Int×Unit) (l:Nat),d.1.length<4611686018427387904->(∃(x:Nat),((0=(x:Int)/\True)/\True)/\([],true)=(List.map jhn (List.take x d.1),true)/\x<=d.1.length)/\∀(x:Nat),x<=d.1.length->(decide ((x:Int)<d.1.length)=true->0<=(x:Int)/\(x:Int)<d.1.length/\l=l/\(∃(rest:List (Int×Unit)),List.map jhn (List.take x d.1)++[(jjd d x)]++rest=List.map jhn d.1)/\(((!true)=true->true=true->List.map jhn (List.take x d.1)++[(jjd d x)]=List.map jhn d.1)/\((!true)=false->wl ((x:Int)+1)/\∃(a:Nat),(((x:Int)+1=(a:Int)/\True)/\True)/\(List.map jhn (List.take x d.1)++[(jjd d x)],true)=(List.map jhn (List.take a d.1),true)/\a<=d.1.length/\d.1.length-a<d.1.length-x))/\((!false)=true->false=true->List.map jhn (List.take x d.1)++[(jjd d x)]=List.map jhn d.1)/\((!false)=false->wl ((x:Int)+1)/\∃(a:Nat),(((x:Int)+1=(a:Int)/\True)/\True)/\(List.map jhn (List.take x d.1)++[(jjd d x)],false)=(List.map jhn (List.take a d.1),true)/\a<=d.1.length/\d.1.length-a<d.1.length-x))/\(decide ((x:Int)<d.1.length)=false->true=true->List.map jhn (List.take x d.1)=List.map jhn d.1)
theorem ny:(ZY (ctx 16 [] []) (qq Tryz.f241) [.int] [.ref (.slice .int)] LVi (fun _=>[]) (fun _ _=>t7) (fun d l=>hkY [.int] l [13] (fun q=>∃rest,LVi d (q++rest)) (fun _=>none)))=dZ:=by kernel_rfl
def vI:rc:=⟨[.val (.slice .int)],fun _=>[],241,[.slice .int],fun d=>(d.1,())⟩
def lL:Prop:=∀(d:List Int×Unit),d=d
theorem rS:(WI (ctx 4 [] []) (fun _=>none) Tryz.f223 (qq Tryz.f223) vI)=lL:=by kernel_rfl
def cZ:K0 [.int]:={ps:=[.own (.box 31 [.row 3 .int .unk]) true],slots:=[2],dst:=20,pre:=fun _=>[],G:=fun d q=>((d.1.1++q.map (·.1),()),()),seq:=fun sv=>match sv with
 | .clo 241 [.ep t m]=>(match qS t (.slice .int) m with
  |some a=>some (True,fun xs=>xs=asI a)
  |none=>none)
 |_=>none}
def az:Nat->Option ((ts:List Ty)×K0 ts):=fun r=>match r with
 |3=>some ⟨[.int],cZ⟩
 |_=>none
def yd:rg:=⟨[none,some (241,1)],[.nil false,.ref (.slice .int)],[rwI],fun d=>[d.2.1.length<=12],fun d r=>r.1.1=d.2.1⟩
def yK:rg:=⟨[some (241,1)],[.ref (.slice .int)],[rwI],fun d=>[d.1.length<=12],fun d r=>r.1.1=d.1⟩
def vP:rg:=⟨[some (241,1),none],[.ref (.slice .int),.fn [.int,.int] [.int]],[rwI],fun d=>[d.1.length<=12,lR d.2.1.pre d.1,yq (cD d.2.1.F) d.1],fun d r=>r.1.1=wd (cD d.2.1.F) d.1⟩
def rT (d:OD yd.ps):List SV:=[.lit (.slice none 0 0),.clo 241 [.ep (.slice .int) d.2.1]]
abbrev jje:=(fun(a:Int×Unit)=>a.1)
abbrev jkF:=(fun(a:List (Int×Unit))=>false)
abbrev jkG:=(fun(a:Int)=>(a,()))
def db:Prop:=∀(d:Unit×List Int×Unit),d.2.1.length<=12/\True->True/\True/\(([]++List.map jje [],()),())=(([],()),())/\(∀(q:List (Int×Unit)) (x:Int×Unit) (rest:List (Int×Unit)),q++x::rest=List.map jkG d.2.1->gj jkF q->(([]++List.map jje q).length+[x.1].length)*8<=140737488355328/\qF/\(([]++List.map jje q++[x.1],()),())=(([]++List.map jje (q++[x]),()),()))/\(∀(xs:List (Int×Unit)),xs=List.map jkG d.2.1->gj jkF xs->∃(_:Unit),[]++List.map jje xs=d.2.1)/\∀(q:List (Int×Unit)) (x:Int×Unit) (rest:List (Int×Unit)),q++x::rest=List.map jkG d.2.1->gj jkF q->false=true->∃(_:Unit),[]=d.2.1
theorem mc:(WK (ctx 13 [] []) (fun _=>none) (hkC (ctx 13 [] []) (fun _=>none) az [] []) Tryz.f246 (qq Tryz.f246) yd rT)=db:=by kernel_rfl
def xr (d:OD yK.ps):List SV:=[.clo 241 [.ep (.slice .int) d.1]]
def fV:Prop:=∀(d:List Int×Unit),d.1.length<=12/\True->(d.1.length<=12/\True)/\∀(r:(List Int×Unit)×Unit),r.1.1=d.1->∃(_:Unit),r.1.1=d.1
theorem oS:(WK (ctx 5 [] []) (fun _=>none) (hkC (ctx 5 [] []) (fun _=>none) jcZ [4] [(246,20,yd)]) Tryz.f239 (qq Tryz.f239) yK xr)=fV:=by kernel_rfl
def oT (d:OD vP.ps):List SV:=[.clo 241 [.ep (.slice .int) d.1],.fn [.int,.int] [.int] d.2.1.pre d.2.1.F]
def cr:Prop:=∀(d:List Int×FnD [Ty.int,Ty.int] [Ty.int]×Unit),d.1.length<=12/\lR d.2.1.1 d.1/\yq (cD d.2.1.2) d.1/\True->(d.1.length<=12/\True)/\∀(r:(List Int×Unit)×Unit),r.1.1=d.1->r.1.1.length<=12/\lR d.2.1.1 r.1.1/\yq (cD d.2.1.2) r.1.1/\∃(_:Unit),wd (cD d.2.1.2) r.1.1=wd (cD d.2.1.2) d.1
theorem ln:(WK (ctx 12 [] [(240,vD)]) (fun _=>none) (hkC (ctx 12 [] [(240,vD)]) (fun _=>none) jcZ [7] [(239,20,yK)]) Tryz.f222 (qq Tryz.f222) vP oT)=cr:=by kernel_rfl
theorem TJ {b:Bool} {l:List Prop} {k:Prop} (h:b=true->wC l) (hk:k):VE b l k:=by
 induction l with
 |nil=>exact hk
 |cons p l c=>exact⟨fun a=>(h a).1,c (fun a=>(h a).2)⟩
theorem jgH:∀n:Nat,n<13->bg U.len8tab n=sj (n:Int):=by decide+kernel
theorem jdf (n:Int):0<=sj n/\sj n<=4:=by
 unfold sj
 split
 omega
 split
 omega
 split
 omega
 split<;>omega
theorem LY:I5:=by
 unfold I5 jlg jkD jkC jkB jkA;rintro⟨n,⟨⟩⟩ ⟨a,b⟩;have a:0<=n:=a;have b:n<=12:=b;refine⟨fun h=>absurd (ja h) (by simp only;omega),fun _=>⟨fun h=>absurd (ja h) (by simp only;omega),fun _=>⟨fun h=>absurd (ja h) (by simp only;omega),fun _=> ?_⟩⟩⟩;have c:=jgH n.toNat (by omega);rw[Int.toNat_of_nonneg a] at c;have d:=jdf n;simp only;rw[c];refine⟨by omega,by omega,by omega,?_,by unfold wl;omega,by unfold wl;omega,by rw[Int.zero_add]⟩;have:U.len8tab.size=256:=(by decide+kernel);omega
theorem I6:w9 PR 178 I4:=wT LY Tryz.func178 kcN koN
theorem TK:Pa:=by
 rintro⟨n,⟨⟩⟩ h;exact⟨fun e=>(by cases e),fun _=>⟨h,rfl⟩⟩
theorem Pb:w9 PR 140 O9:=wT TK Tryz.func140 (kcC I6 kcN) koN
theorem cj:b8:=by
 unfold b8 jg9 jkE;rintro⟨l,a,b,⟨pre,c⟩,⟨⟩⟩ x y;obtain⟨z,n,E⟩:a=0/\b=(l.length:Int)/\l.length<=12:=x;have s:lR pre l:=y;subst z n;simp only;refine⟨by unfold wl;omega,⟨1,⟨⟨rfl,tZ⟩,rfl,tZ⟩,jj _,by omega⟩,fun i hi=>⟨fun h=> ?_,fun h=> ?_⟩⟩
 .have h:i<l.length:=(by have:=ja h;omega);have u:=IS.part_perm (lt:=cD c) (l:=l) i (by omega);refine⟨⟨(i,eM (cD c) l i),⟨⟨rfl,tZ⟩,rfl,tZ⟩,zO _,List.Perm.refl _,rfl⟩,?_⟩;rintro⟨j,m⟩ ⟨v,o,p⟩;have v:(j:Int)<=i:=v;have o:m.Perm (eM (cD c) l i):=o;have p:o8 (cD c) m j=o8 (cD c) (eM (cD c) l i) i:=p;have C:m.length=l.length:=(o.trans u).length_eq;have g:∀{k:Nat},k<m.length->nth m k∈l:=fun hk=>(o.trans u).mem_iff.1 (L.wh hk)
  simp only[jw];refine⟨fun _=>by omega,fun f=>by have:=ja f;omega,fun f=>by have:=ja f;unfold wl;omega,fun f=>by have:=ja f;omega,fun f=>by have:=ja f;omega,TJ (fun f=> ?_) ⟨fun n=> ?_,fun n=> ?_⟩⟩
  .have f:=ja f;exact s _ (g (by omega)) _ (g (by omega))
  .simp only[ji,jp] at n;obtain⟨D,q⟩:=n;obtain⟨d,rfl⟩:∃d,j=d+1:=⟨j-1,by omega⟩;have r:((d+1:Nat):Int)-1=(d:Int):=(by omega);rw[r] at q⊢;simp only[jw] at q⊢;have t:=IS.swap_perm (l:=m) (j:=d+1) (k:=d) (by omega) (by omega);have e:wl (d:Int):=(by unfold wl;omega);refine⟨e,e,by omega,by omega,by omega,by omega,by omega,by omega,by omega,by simp;omega,e,⟨(d,Vk m (d+1) d),⟨⟨rfl,tZ⟩,rfl,tZ⟩,⟨by simp only;omega,t.trans o,?_⟩,by simp⟩⟩;rw[<-p];show _=(if cD c (nth m (d+1)) (nth m d)=true then o8 (cD c) (Vk m (d+1) d) d else m);have w:cD c (nth m (d+1)) (nth m d)=true:=jG q;rw[je w]
  .have B:m=eM (cD c) l (i+1):=by
    rw[IS.part_succ,<-p];cases j with
    |zero=>rfl
    |succ d=>
     unfold o8;rw[jd];intro A;refine absurd n (by
      rw[km];rintro(h|h)
      .exact absurd (jc h) (by simp)
      .refine jc h ?_;have r:((d+1:Nat):Int)-1=(d:Int):=(by omega);rw[r];exact ja A)
   exact⟨by unfold wl;omega,i+1,⟨⟨by simp,tZ⟩,B,tZ⟩,by omega,by omega⟩
 .have h:l.length<=i:=(by have:=jc h;omega);exact⟨tZ,by rw[IS.part_isort hi.1 hi.2 h]⟩
theorem b9:ax PR 251 bZ:=tD b7 cj Tryz.func251 kcN koN
theorem lq:fU:=by
 unfold fU Prod.q4;rintro⟨l,a,b,lim,⟨pre,c⟩,⟨⟩⟩ e d;obtain⟨f,g,i⟩:a=0/\b=(l.length:Int)/\l.length<=12:=e;subst f g;refine⟨by unfold wl;simp only;omega,fun _=>⟨⟨rfl,rfl,by simp only;omega⟩,d,rfl,rfl⟩,fun h=>absurd (jc h) (by simp only;omega)⟩
theorem fW:ax PR 247 fS:=tD fT lq Tryz.func247 kcN (koC b9 koN)
theorem xt:t6:=by
 rintro⟨l,⟨pre,c⟩,⟨⟩⟩ a b d _;have a:l.length<=12:=a;exact⟨by simp only;omega,by simp only;omega,⟨by simp only;omega,by simp only;omega⟩,⟨rfl,rfl,a⟩,b,rfl,jD (·,()) (IS.isort_sort d)⟩
theorem t8:ax PR 240 vD:=DA xt Tryz.func240 (kcC Pb kcN) (koC fW koN)
theorem jas {l:List Int} {i:Nat} (h:i<l.length):asI (l.take (i+1))=asI (l.take i)++[(nth l i,())]:=by
 unfold asI;rw[L.wQ h,zn];rfl
theorem xu:dZ:=by
 unfold dZ jjd jhn;rintro⟨l,⟨⟩⟩ y b;have b:l.length<4611686018427387904:=b;refine⟨⟨0,⟨⟨rfl,tZ⟩,tZ⟩,rfl,jl _⟩,fun x c=>⟨fun h=> ?_,fun h _=> ?_⟩⟩;have h:(x:Int)<l.length:=ja h;have a:x<l.length:=(by omega);have e:=jas a;unfold asI at e;simp only[jw];refine⟨by omega,h,tZ,⟨asI (l.drop (x+1)),?_⟩,⟨fun h=>(by cases h),fun _=>⟨iZ6,x+1,⟨⟨by simp,tZ⟩,tZ⟩,?_,by show x+1<=l.length;omega,by show l.length-(x+1)<l.length-x;omega⟩⟩,fun _ h=>(by cases h),fun h=>(by cases h)⟩;rw[<-e];unfold asI;rw[<-zn,z7];rw[e];have h:¬(x:Int)<l.length:=jc h;have c:x<=l.length:=c;rw[zw (by show l.length<=x;omega)]
theorem TL {H:Imm} {lb:Array Value} {d:PD [.ref (.slice .int)]} (e:pvs PR H [.ref (.slice .int)] lb.toList d):ZW PR H [.int] (LVi d) (.func (.func 241) #[] lb):=
 jbN (C:=ctx 16 [] []) (pm trivial trivial) mixed Tryz.func241 (by kernel_rfl) (by kernel_rfl) (by kernel_rfl) (by kernel_rfl) (by decide) (ny.mpr xu) (fun d l B0 R f a b c=>jeQ a c) e trivial
theorem D3:lL:=by intro d;rfl
theorem Bc:K4 PR 223 vI:=jeT (rS.mpr D3) Tryz.func223 (by kernel_rfl) (by kernel_rfl) (by kernel_rfl) (by kernel_rfl) trivial trivial
theorem jdg (l:List Int):(asI l).map (fun(x:Int×Unit)=>x.1)=l:=by
 unfold asI;rw[kA];exact List.map_id l
theorem ua:db:=by
 unfold db jkG jkF jje;intro d ⟨a,_⟩;refine⟨tZ,tZ,rfl,fun q x rest h _=>⟨?_,rfl,?_⟩,fun xs h _=>⟨(),?_⟩,fun _ _ _ _ _ h=>(by cases h)⟩;have b:=jD List.length h;simp only[zf,jH,za] at b;have a:d.2.1.length<=12:=a;simp only[j0,zf,za,zu];omega;simp;rw[h,j0];exact jdg d.2.1
theorem Bd:fV:=fun _ a=>⟨a,fun _ h=>⟨(),h⟩⟩
theorem rU:cr:=fun d ⟨a,b,c,_⟩=>⟨⟨a,tZ⟩,fun r h=>by rw[h];exact⟨a,b,c,(),rfl⟩⟩
theorem RW {P:Program} {ρ:Env} {H:Imm} (b:ρ.H=H) {g:Nat} {t:Ty} {d:t.Data} {lb:Array Value} {w:World} {bs:List Nat} (a:fB P H w [.ref t] lb.toList (d,()) bs):SV.den P ρ (.clo g [.ep t d]) (.func (.func g) #[] lb):=by
 subst b
 match e:lb.toList,a with
 |[],a=>exact a.elim
 |[x],⟨_,_,_,⟨c,_⟩,_⟩=>
  simp only[SV.den,SV.denL];exact⟨lb,rfl,x,[],e,c,rfl⟩
 |x::y::r,⟨_,_,_,_,h2⟩=>cases h2.1
theorem Pc {lb:Array Value} (h:lb.size=1):∃x,lb.toList=[x]:=by
 have a:lb.toList.length=1:=(by rw[zb];exact h);exact List.length_eq_one_iff.1 a
theorem Xj {g n:Nat} {s:rg} (h:ROK PR g s):∀(f:Nat) (p:Nat×rg),wS [(g,n,s)] f=some p->ROK PR f p.2:=by
 intro f p a;simp only[wS] at a
 split at a
 rename_i b;have:=jb b;subst this;simp at a;subst a;exact h;cases a
theorem jat (n:Nat):(ctx n [] []).ok PR:=pm trivial trivial
theorem oU:ROK PR 246 yd:=by
 refine WL (body:=qq Tryz.f246) (C:=ctx 13 [] []) (hk:=hkC (ctx 13 [] []) (fun _=>none) az [] []) (jat 13) mixed Tryz.func246 (by kernel_rfl) (by kernel_rfl) (by kernel_rfl) (fun B=>Hs (jat 13) mixed ?_ jdb B) rfl (fun H w vals fl d bs c b ρ f=> ?_) (fun d=>rfl) (mc.mpr ua)
 .intro k t rs sv pr L v ρ hk a p g;unfold az at hk
  split at hk
  case h_2=>cases hk
  simp only[jy] at hk;cases hk;simp only[cZ] at a
  split at a
  case h_2=>cases a
  rename_i t m
  split at a
  case h_2=>cases a
  rename_i z o;simp only[jy,Prod.mk.injEq] at a;obtain⟨rfl,rfl⟩:=a;obtain⟨e,rfl⟩:=wt o;subst e;simp only[SV.den,SV.denL] at g;obtain⟨lb,rfl,x,r,n,j,l⟩:=g;exact TL (d:=(m,())) (by rw[n,l];exact⟨j,rfl⟩)
 .obtain⟨v,q,h,rfl,rfl,lb,s,i,rfl,rfl,_,rfl,rfl⟩:=c;obtain⟨u,y,_,⟨rfl,_⟩,b⟩:=b;rw[j6] at b;refine⟨_,_,rfl,rfl,_,_,rfl,RW f b,rfl⟩
theorem ub:ROK PR 239 yK:=by
 refine WL (body:=qq Tryz.f239) (C:=ctx 5 [] []) (hk:=hkC (ctx 5 [] []) (fun _=>none) jcZ [4] [(246,20,yd)]) (jat 5) mixed Tryz.func239 (by kernel_rfl) (by kernel_rfl) (by kernel_rfl) (fun B=>Hs (jat 5) mixed Oz (Xj oU) B) rfl (fun H w vals fl d bs a c ρ b=> ?_) (fun d=>rfl) (oS.mpr Bd);obtain⟨lb,f,e,rfl,rfl,_,rfl,rfl⟩:=a;rw[j6] at c;exact⟨_,_,rfl,RW b c,rfl⟩
theorem HA:(ctx 12 [] [(240,vD)]).ok PR:=pm trivial ⟨t8,tZ⟩
theorem nz:ROK PR 222 vP:=by
 refine WL (body:=qq Tryz.f222) (C:=ctx 12 [] [(240,vD)]) (hk:=hkC (ctx 12 [] [(240,vD)]) (fun _=>none) jcZ [7] [(239,20,yK)]) HA mixed Tryz.func222 (by kernel_rfl) (by kernel_rfl) (by kernel_rfl)
  (fun B=>Hs HA mixed Oz (Xj ub) B) rfl (fun H w vals fl d bs a e ρ c=> ?_) (fun d=>rfl) (ln.mpr rU)
 obtain⟨lb,k,g,rfl,rfl,b,v,l,h,rfl,rfl,rfl,rfl⟩:=a;obtain⟨x,f⟩:=Pc b;rw[f] at e;obtain⟨m,n,_,⟨i,_⟩,c1,c2,_,⟨j,_⟩,_⟩:=e;subst c;refine⟨_,_,rfl,⟨lb,rfl,x,[],f,i,rfl⟩,_,_,rfl,j,rfl⟩
abbrev tRo:Ty:= .st [tDy,.slice .int,.slice (.slice .int),.slice .int]
abbrev RoD:Type:=DyD×List Int×List (List Int)×List Int×Unit
namespace U
def ro (o:Option RoD):RoD:=wR (Ty.dflt tRo) o
def rd (r:RoD):DyD:=r.1
def nU (r:RoD):List Int:=r.2.1
def cf (r:RoD):List (List Int):=r.2.2.1
def jgf (r:RoD):List Int:=r.2.2.2.1
def aM (d:DyD) (b:Int):Prop:=0<=b/\b<((wm d).length:Int)
def E8 (d:DyD) (l:List Int):Prop:=l.length<=12/\∀b∈l,aM d b
def GB (d:DyD):Prop:=wy (ww d)=true/\J6 d=true/\qG d=true
def Sx (r:RoD):Prop:=GB (rd r)/\(nU r).length=(wm (rd r)).length
def ND (d:DyD) (p:Int):Prop:=0<=p/\p<((wj (ww d)).length:Int)
def uI (d:DyD) (a b:Int):Int:=gx [dA (qh (bk d a)) (qh (bk d b)),dA a b]
def wA (d:DyD) (l:List Int):List Int:=wd (aJ d) l
def yf (d:DyD) (s:List Int) (n:Nat):Int:=J7 d (s.take n)
def J9 (d:DyD) (d9:List Int) (p:Int) (s:List Int) (i:Nat):Bool:= !(decide (iA (nth d9 (nth s i).toNat/2^p.toNat) 1=0)||(s.drop (i+1)).any (fun c=>decide (ca d (nth s i) c<0)))
def jd9 (d:DyD) (d9:List Int) (p:Int) (s:List Int):Bool:=(List.range s.length).all (J9 d d9 p s)&&decide (J7 d s<=jbq d)
def QT (d:DyD) (d9:List Int) (p:Int) (l:List Int):Bool:=jd9 d d9 p (wA d l)
def Ng (r:RoD) (p:Int) (l:List Int):Bool:=QT (rd r) (nU r) p l
def bG (on:List (List Int)) (b:Int) (n:Nat):Int:=(List.range n).foldl (fun s p=>if(nth on p).any (fun x=>decide (x=b))=true then bor s (1*2^p) else s) 0
def eN (on:List (List Int)) (b:Int):Int:=bG on b on.length
def E9 (d:DyD) (b t:Int):Bool:=(decide (ce (ww d) (gg (bk d b)) t=0)&&decide (jes (ww d) (gg (bk d b)) t=0))&&decide (t≠0)
end U
def xv:w4:=⟨[.val (.ptr tRo),.val .int,.val .int],[.int],false,fun d=>[d.1.isSome=true,GB (U.rd (U.ro d.1)),aM (U.rd (U.ro d.1)) d.2.1,aM (U.rd (U.ro d.1)) d.2.2.1],fun d=>(ca (U.rd (U.ro d.1)) d.2.1 d.2.2.1,())⟩
abbrev jhz (d:Option RoD×Int×Int×Unit):=(wR ((((0:Int),[],[],()),[],[],(0:Int),(0:Int),[],()),[],[],[],()) d.1)
abbrev jhR (d:Option RoD×Int×Int×Unit):=(nth (jhz d).1.2.2.1 d.2.1.toNat)
abbrev jh5 (d:Option RoD×Int×Int×Unit):=(nth (jhz d).1.2.2.1 d.2.2.1.toNat)
def xw:Prop:=∀(d:Option RoD×Int×Int×Unit),d.1.isSome=true->GB (U.rd (U.ro d.1))->aM (U.rd (U.ro d.1)) d.2.1->aM (U.rd (U.ro d.1)) d.2.2.1->d.1.isSome=true/\0<=d.2.1/\d.2.1<(↑(jhz d).1.2.2.1.length:Int)/\d.1.isSome=true/\0<=d.2.2.1/\d.2.2.1<(↑(jhz d).1.2.2.1.length:Int)/\wl ((jh5 d).2.2.1-(jhR d).2.2.2.1)/\d.1.isSome=true/\wl ((jh5 d).2.2.1-(jhR d).2.2.2.1-(jhz d).1.2.2.2.1)/\d.1.isSome=true/\(0:Int)<=(jhR d).2.1/\(jhR d).2.1<(↑(jhz d).1.2.1.length:Int)/\(0:Int)<=(jh5 d).2.1/\(jh5 d).2.1<(↑(nth (jhz d).1.2.1 (jhR d).2.1.toNat).length:Int)/\wl ((jh5 d).2.2.1-(jhR d).2.2.2.1-(jhz d).1.2.2.2.1-(nth (nth (jhz d).1.2.1 (jhR d).2.1.toNat) (jh5 d).2.1.toNat).2.1)/\((jh5 d).2.2.1-(jhR d).2.2.2.1-(jhz d).1.2.2.2.1-(nth (nth (jhz d).1.2.1 (jhR d).2.1.toNat) (jh5 d).2.1.toNat).2.1,())=(ca (U.rd (U.ro d.1)) d.2.1 d.2.2.1,())
def qZ:w4:=⟨[.val .int,.val .int,.ref (.ptr tRo)],[.int],false,fun d=>[d.2.2.1.isSome=true,aM (U.rd (U.ro d.2.2.1)) d.1,aM (U.rd (U.ro d.2.2.1)) d.2.1],fun d=>(uI (U.rd (U.ro d.2.2.1)) d.1 d.2.1,())⟩
abbrev jjT (d:Int×Int×Option RoD×Unit):=(wR ((((0:Int),[],[],()),[],[],(0:Int),(0:Int),[],()),[],[],[],()) d.2.2.1)
def oV:Prop:=∀(d:Int×Int×Option RoD×Unit),d.2.2.1.isSome=true->aM (U.rd (U.ro d.2.2.1)) d.1->aM (U.rd (U.ro d.2.2.1)) d.2.1->d.2.2.1.isSome=true/\0<=d.1/\d.1<(↑(jjT d).1.2.2.1.length:Int)/\d.2.2.1.isSome=true/\0<=d.2.1/\d.2.1<(↑(jjT d).1.2.2.1.length:Int)/\(gx [dA (nth (jjT d).1.2.2.1 d.1.toNat).2.2.1 (nth (jjT d).1.2.2.1 d.2.1.toNat).2.2.1,dA d.1 d.2.1],())=(uI (U.rd (U.ro d.2.2.1)) d.1 d.2.1,())
def d4:w4:=⟨[.val (.ptr tRo),.val (.slice .int)],[.slice .int],false,fun d=>[d.1.isSome=true,E8 (U.rd (U.ro d.1)) d.2.1],fun d=>(wA (U.rd (U.ro d.1)) d.2.1,())⟩
abbrev jlh (d:Option RoD×List Int×Unit):=(cD fun(a:Int×Int×Unit)=>(uI (U.rd (U.ro d.1)) a.1 a.2.1,()))
def d6:Prop:=∀(d:Option RoD×List Int×Unit),d.1.isSome=true->E8 (U.rd (U.ro d.1)) d.2.1->(d.2.1.length<=12/\lR (fun(a:Int×Int×Unit)=>[d.1.isSome=true,aM (U.rd (U.ro d.1)) a.1,aM (U.rd (U.ro d.1)) a.2.1]) d.2.1/\yq (jlh d) d.2.1/\True)/\∀(r:(List Int×Unit)×Unit),r.1.1=wd (jlh d) d.2.1->r.1=(wA (U.rd (U.ro d.1)) d.2.1,())
theorem nA:(jcV (NA 9 [(224,qZ)] [] [(223,vI)] []) (fun _=>none) (hkC (NA 9 [(224,qZ)] [] [(223,vI)] []) (fun _=>none) jcZ [8] [(222,20,vP)]) Tryz.f209 (qq Tryz.f209) d4)=d6:=by kernel_rfl
def xy:w4:=⟨[.val .int,.ref (.ptr tRo),.ref .int],[.bool],false,fun d=>[d.2.1.isSome=true,GB (U.rd (U.ro d.2.1)),aM (U.rd (U.ro d.2.1)) d.1,aM (U.rd (U.ro d.2.1)) d.2.2.1],fun d=>(decide (ca (U.rd (U.ro d.2.1)) d.2.2.1 d.1<0),())⟩
def xz:Prop:=∀(d:Int×Option RoD×Int×Unit),d.2.1.isSome=true->GB (U.rd (U.ro d.2.1))->aM (U.rd (U.ro d.2.1)) d.1->aM (U.rd (U.ro d.2.1)) d.2.2.1->d.2.1.isSome=true/\GB (U.rd (U.ro d.2.1))/\aM (U.rd (U.ro d.2.1)) d.2.2.1/\aM (U.rd (U.ro d.2.1)) d.1/\(decide (ca (U.rd (U.ro d.2.1)) d.2.2.1 d.1<0),())=(decide (ca (U.rd (U.ro d.2.1)) d.2.2.1 d.1<0),())
def D4:w4:=⟨[.val (.ptr tRo),.val .int,.val (.slice .int)],[.bool],false,fun d=>[d.1.isSome=true,Sx (U.ro d.1),ND (U.rd (U.ro d.1)) d.2.1,E8 (U.rd (U.ro d.1)) d.2.2.1],fun d=>(Ng (U.ro d.1) d.2.1 d.2.2.1,())⟩
def D5:Ann:=fun r=>match r with
 |4=>some fun σ=>{X:=Nat,sl:=fun i=>[(16,.dat .int (i:Int)),(7,.dat .int (yf (U.rd (U.ro (gd (.ptr tRo) σ 0))) (gd (.slice .int) σ 14) i))],ob:=fun _=>[],inv:=fun i=>i<=(gd (.slice .int) σ 14).length/\∀b:Nat,b<i->J9 (U.rd (U.ro (gd (.ptr tRo) σ 0))) (nU (U.ro (gd (.ptr tRo) σ 0))) (gd .int σ 1) (gd (.slice .int) σ 14) b=true,mu:=fun i=>(gd (.slice .int) σ 14).length-i}
 |_=>none
abbrev jiq (d:Option RoD×Int×List Int×Unit):=(wR ((((0:Int),[],[],()),[],[],(0:Int),(0:Int),[],()),[],[],[],()) d.1)
abbrev jhd (d:Option RoD×Int×List Int×Unit):=(U.rd (U.ro d.1))
abbrev jgW (d:Option RoD×Int×List Int×Unit):=(wA (jhd d) d.2.2.1)
abbrev jiJ (d:Option RoD×Int×List Int×Unit)(x:Nat):=(iA (nth (jiq d).2.1 (nth (jgW d) (x:Int).toNat).toNat/(2:Int)^d.2.1.toNat) (1:Int)=0)
abbrev jkH (d:Option RoD×Int×List Int×Unit)(x:Nat):=((nth (jiq d).1.2.2.1 (nth (jgW d) (x:Int).toNat).toNat).2.2.2.1-(nth (jiq d).1.2.2.1 (nth (jgW d) (x:Int).toNat).toNat).2.2.1)
abbrev jh6 (d:Option RoD×Int×List Int×Unit):=(↑(jgW d).length:Int)
abbrev jli (d:Option RoD×Int×List Int×Unit)(x:Nat):=(decide (jiJ d x)||(List.take ((jh6 d).toNat-((x:Int)+1).toNat) (List.drop ((x:Int)+1).toNat (jgW d))).any (wc fun(a:Int×Unit)=>(decide (ca (jhd d) (nth (jgW d) (x:Int).toNat) a.1<0),())))
def D6:Prop:=∀(d:Option RoD×Int×List Int×Unit),d.1.isSome=true->Sx (U.ro d.1)->ND (jhd d) d.2.1->E8 (jhd d) d.2.2.1->d.1.isSome=true/\E8 (jhd d) d.2.2.1/\((jgW d).length<4611686018427387904->(∃(x:Nat),((0=(x:Int)/\0=yf (jhd d) (jgW d) x/\True)/\True)/\x<=(jgW d).length/\∀(b:Nat),b<x->J9 (jhd d) (nU (U.ro d.1)) d.2.1 (jgW d) b=true)/\∀(x:Nat),(x<=(jgW d).length/\∀(b:Nat),b<x->J9 (jhd d) (nU (U.ro d.1)) d.2.1 (jgW d) b=true)->(decide ((x:Int)<(jh6 d))=true->0<=(x:Int)/\(x:Int)<(jh6 d)/\d.1.isSome=true/\0<=nth (jgW d) (x:Int).toNat/\nth (jgW d) (x:Int).toNat<(↑(jiq d).1.2.2.1.length:Int)/\d.1.isSome=true/\0<=nth (jgW d) (x:Int).toNat/\nth (jgW d) (x:Int).toNat<(↑(jiq d).1.2.2.1.length:Int)/\wl (jkH d x)/\wl (yf (jhd d) (jgW d) x+(jkH d x))/\d.1.isSome=true/\0<=nth (jgW d) (x:Int).toNat/\nth (jgW d) (x:Int).toNat<(↑(jiq d).2.1.length:Int)/\0<=d.2.1/\d.2.1<=64/\((!decide (jiJ d x))=true->wl ((x:Int)+1))/\((!decide (jiJ d x))=true->0<=(x:Int)+1)/\((!decide (jiJ d x))=true->(x:Int)+1<=(jh6 d))/\((!decide (jiJ d x))=true->(jh6 d)<=(jh6 d))/\((!decide (jiJ d x))=true->∀(g:Int),g∈List.take ((jh6 d).toNat-((x:Int)+1).toNat) (List.drop ((x:Int)+1).toNat (jgW d))->wC [d.1.isSome=true,GB (jhd d),aM (jhd d) g,aM (jhd d) (nth (jgW d) (x:Int).toNat)])/\((jli d x)=true->(false,())=(Ng (U.ro d.1) d.2.1 d.2.2.1,()))/\((jli d x)=false->wl ((x:Int)+1)/\∃(a:Nat),(((x:Int)+1=(a:Int)/\yf (jhd d) (jgW d) x+(jkH d x)=yf (jhd d) (jgW d) a/\True)/\True)/\(a<=(jgW d).length/\∀(b:Nat),b<a->J9 (jhd d) (nU (U.ro d.1)) d.2.1 (jgW d) b=true)/\(jgW d).length-a<(jgW d).length-x))/\(decide ((x:Int)<(jh6 d))=false->d.1.isSome=true/\(decide (yf (jhd d) (jgW d) x<=(jiq d).1.q4.1),())=(Ng (U.ro d.1) d.2.1 d.2.2.1,())))
def Be:w4:=⟨[.val (.ptr tRo),.val .int],[.int],false,fun d=>[d.1.isSome=true,(cf (U.ro d.1)).length<=60],fun d=>(eN (cf (U.ro d.1)) d.2.1,())⟩
def Bf:Ann:=fun r=>match r with
 |2=>some fun σ=>{X:=Nat,sl:=fun i=>[(12,.dat .int (i:Int)),(4,.dat .int (bG (cf (U.ro (gd (.ptr tRo) σ 0))) (gd .int σ 1) i))],ob:=fun _=>[],inv:=fun i=>i<=(cf (U.ro (gd (.ptr tRo) σ 0))).length,mu:=fun i=>(cf (U.ro (gd (.ptr tRo) σ 0))).length-i}
 |_=>none
abbrev jiK (d:Option RoD×Int×Unit):=(wR ((((0:Int),[],[],()),[],[],(0:Int),(0:Int),[],()),[],[],[],()) d.1)
abbrev jhe (d:Option RoD×Int×Unit):=(cf (U.ro d.1))
def Bg:Prop:=∀(d:Option RoD×Int×Unit),d.1.isSome=true->(jhe d).length<=60->d.1.isSome=true/\((jiK d).2.2.1.length<4611686018427387904->(∃(x:Nat),((0=(x:Int)/\0=bG (jhe d) d.2.1 x/\True)/\True)/\x<=(jhe d).length)/\∀(x:Nat),x<=(jhe d).length->(decide ((x:Int)<(jiK d).2.2.1.length)=true->0<=(x:Int)/\(x:Int)<(jiK d).2.2.1.length/\(((nth (jiK d).2.2.1 (x:Int).toNat).any fun(b:Int)=>decide (b=d.2.1))=true->0<=(x:Int)/\(x:Int)<=64/\wl ((1:Int)*2^(x:Int).toNat)/\wl ((x:Int)+1)/\∃(a:Nat),(((x:Int)+1=(a:Int)/\bor (bG (jhe d) d.2.1 x) ((1:Int)*2^(x:Int).toNat)=bG (jhe d) d.2.1 a/\True)/\True)/\a<=(jhe d).length/\(jhe d).length-a<(jhe d).length-x)/\(((nth (jiK d).2.2.1 (x:Int).toNat).any fun(b:Int)=>decide (b=d.2.1))=false->wl ((x:Int)+1)/\∃(a:Nat),((bG (jhe d) d.2.1 x=bG (jhe d) d.2.1 a/\(x:Int)+1=(a:Int)/\True)/\True)/\a<=(jhe d).length/\(jhe d).length-a<(jhe d).length-x))/\(decide ((x:Int)<(jiK d).2.2.1.length)=false->(bG (jhe d) d.2.1 x,())=(eN (jhe d) d.2.1,())))
def Bh:w4:=⟨[.val (.ptr tRo),.val .int,.val .int],[.bool],false,fun d=>[d.1.isSome=true,aM (U.rd (U.ro d.1)) d.2.1],fun d=>(E9 (U.rd (U.ro d.1)) d.2.1 d.2.2.1,())⟩
abbrev jjf (d:Option RoD×Int×Int×Unit):=(wR ((((0:Int),[],[],()),[],[],(0:Int),(0:Int),[],()),[],[],[],()) d.1)
def Bj:Prop:=∀(d:Option RoD×Int×Int×Unit),d.1.isSome=true->aM (U.rd (U.ro d.1)) d.2.1->d.1.isSome=true/\d.1.isSome=true/\0<=d.2.1/\d.2.1<(↑(jjf d).1.2.2.1.length:Int)/\(decide (ce (jjf d).1.1 (nth (jjf d).1.2.2.1 d.2.1.toNat).1 d.2.2.1=0)&&decide (jes (jjf d).1.1 (nth (jjf d).1.2.2.1 d.2.1.toNat).1 d.2.2.1=0)&&decide (d.2.2.1≠0),())=(E9 (U.rd (U.ro d.1)) d.2.1 d.2.2.1,())
theorem yr {d:DyD} (h:qG d=true):(wm d).length<=4/\(1<=(qg d).length/\(qg d).length<=5)/\(0<=BN d/\BN d<=300)/\(0<=jbq d/\jbq d<=1440)/\(qi d).length<=30/\
 (∀r∈qg d,di (qg d).length r=true)/\(∀b∈wm d,nP (qg d).length b=true)/\∀s∈qi d,nQ (wm d).length (wj (ww d)).length s=true:=by
 unfold qG at h;simp only[ji,jp,jV] at h;obtain⟨⟨e,f,g,i,j,k,l,m⟩,n,a,c⟩:=h;exact⟨e,⟨f,g⟩,⟨i,j⟩,⟨k,l⟩,m,n,a,c⟩
theorem jeX {d:DyD} {b:Int} (h:aM d b):U.bk d b∈wm d:=by
 unfold U.bk;exact L.wh (by unfold aM at h;omega)
theorem cA {d:DyD} (h:qG d=true) {b:Int} (a:aM d b):(0<=Vi (U.bk d b)/\Vi (U.bk d b)<((qg d).length:Int))/\0<=qh (U.bk d b)/\qh (U.bk d b)<gH (U.bk d b)/\gH (U.bk d b)<=1440:=by
 have:=(yr h).2.2.2.2.2.2.1 _ (jeX a);unfold nP at this;have:=ja this;omega
theorem uc {d:DyD} (h:qG d=true) {i:Nat} (hi:i<(qg d).length):(nth (qg d) i).length=(qg d).length/\∀j,j<(qg d).length->0<=U.lo (nth (nth (qg d) i) j)/\U.lo (nth (nth (qg d) i) j)<=U.hi (nth (nth (qg d) i) j)/\U.hi (nth (nth (qg d) i) j)<=300:=by
 have:=(yr h).2.2.2.2.2.1 _ (L.wh hi);unfold di at this;rw[ji,jp,jV] at this;refine⟨this.1,fun j b=> ?_⟩;have a:=this.2 _ (L.wh (l:=nth (qg d) i) (i:=j) (by omega));unfold uC at a;exact ja a
theorem D7 {d:DyD} (h:qG d=true) {a b:Int} (c:aM d a) (e:aM d b):0<=QS d a b/\QS d a b<=300:=by
 have f:=(cA h c).1;have g:=(cA h e).1;have:=(uc h (i:=(Vi (U.bk d a)).toNat) (by omega)).2 (Vi (U.bk d b)).toNat (by omega);unfold QS;omega
theorem Bk:xw:=by
 unfold xw jh5 jhR jhz;rintro⟨(_|r),a,b,⟨⟩⟩ h c d e;cases h;obtain⟨c1,c2,c⟩:GB (U.rd r):=c;have d:aM (U.rd r) a:=d;have e:aM (U.rd r) b:=e;have g:=cA c d;have j:=cA c e;have k:=D7 c d e;have l:=(yr c).2.2.1;have m:=(uc c (i:=(Vi (U.bk (U.rd r) a)).toNat) (by omega)).1;have f:(0<=a/\a<((wm (U.rd r)).length:Int))/\0<=b/\b<((wm (U.rd r)).length:Int):=⟨d,e⟩;refine⟨rfl,f.1.1,f.1.2,rfl,f.2.1,f.2.2,?_,rfl,?_,rfl,g.1.1,g.1.2,j.1.1,?_,?_,rfl⟩;show wl (qh (U.bk (U.rd r) b)-gH (U.bk (U.rd r) a));exact iZ6;show wl (qh (U.bk (U.rd r) b)-gH (U.bk (U.rd r) a)-BN (U.rd r));exact iZ6;show Vi (U.bk (U.rd r) b)<((nth (qg (U.rd r)) (Vi (U.bk (U.rd r) a)).toNat).length:Int);omega;show wl (qh (U.bk (U.rd r) b)-gH (U.bk (U.rd r) a)-BN (U.rd r)-QS (U.rd r) a b);exact iZ6
theorem xA:w9 PR 211 xv:=wT Bk Tryz.func211 kcN koN
theorem rV:oV:=by
 unfold oV jjT;rintro⟨a,b,(_|r),⟨⟩⟩ e c d;cases e;have c:aM (U.rd r) a:=c;have d:aM (U.rd r) b:=d;exact⟨rfl,c.1,c.2,rfl,d.1,d.2,rfl⟩
theorem oW:w9 PR 224 qZ:=wT rV Tryz.func224 (kcC gq (kcC cz kcN)) koN
theorem jdh (d:DyD):i9 (uI d):=by
 have e:uI d=Vs (fun a b=>dA (qh (U.bk d a)) (qh (U.bk d b))) dA:=by
  funext a b;unfold uI;rw[qw,yc];rfl
 rw[e];exact rK (pn nf (fun a=>qh (U.bk d a))) nf
theorem Xk {d:DyD} {a b:Int} (h:uI d a b=0):a=b:=by
 unfold uI at h;rw[qw] at h
 split at h
 contradiction;rw[yc] at h;exact bK.1 h
theorem Xl (d:DyD) (a b:Int):decide (uI d a b<0)=aJ d a b:=by
 unfold uI aJ;rw[qw,yc];refine decide_eq_decide.2 ?_;by_cases c:qh (U.bk d a)<qh (U.bk d b);have e:dA (qh (U.bk d a)) (qh (U.bk d b))= -1:=(by unfold dA;rw[je c]);rw[e];simp;omega;by_cases f:qh (U.bk d b)<qh (U.bk d a);have e:dA (qh (U.bk d a)) (qh (U.bk d b))=1:=(by unfold dA;rw[jd c,je f]);rw[e];simp;omega;have e:dA (qh (U.bk d a)) (qh (U.bk d b))=0:=(by unfold dA;rw[jd c,jd f]);rw[e];unfold dA;simp only[ne_eq,not_true_eq_false,if_false]
 split<;>(try split)<;>omega
theorem jgI (d:DyD) (l:List Int):yq (aJ d) l:=by
 have:=Cb (t:= .int) (jdh d) (l:=l) (fun _ _ _ _ h=>Xk h);have e:(we .int fun(x:Int×Int×Unit)=>(uI d x.1 x.2.1,()))=aJ d:=by
  funext a b;exact Xl d a b
 rw[e] at this;exact this
theorem ltK (d:DyD):(cD fun(x:Int×Int×Unit)=>(uI d x.1 x.2.1,()))=aJ d:=by
 funext a b;exact Xl d a b
theorem xB:d6:=by
 unfold d6 jlh;rintro⟨(_|r),l,⟨⟩⟩ c f;cases c;obtain⟨d,b⟩:E8 (U.rd r) l:=f;refine⟨⟨d,fun x g y h=>⟨rfl,b x g,b y h,tZ⟩,?_,tZ⟩,fun q a=> ?_⟩;have e:=ltK (U.rd r);show yq (cD fun(x:Int×Int×Unit)=>(uI (U.rd r) x.1 x.2.1,())) l;rw[e];exact jgI _ l;have e:=ltK (U.rd r);have a:q.1.1=wd (cD fun(x:Int×Int×Unit)=>(uI (U.rd r) x.1 x.2.1,())) l:=a;rw[e] at a;obtain⟨⟨q,⟨⟩⟩,⟨⟩⟩:=q;rw[show q=_ from a];rfl
theorem LZ:(NA 9 [(224,qZ)] [] [(223,vI)] []).ok PR:=OF ⟨fun _=>oW,tZ⟩ trivial ⟨Bc,tZ⟩ trivial
theorem ud:w9 PR 209 d4:=
 jeO (body:=qq Tryz.f209) (C:=NA 9 [(224,qZ)] [] [(223,vI)] []) (hk:=hkC (NA 9 [(224,qZ)] [] [(223,vI)] []) (fun _=>none) jcZ [8] [(222,20,vP)]) LZ mixed Tryz.func209 (by kernel_rfl) (by kernel_rfl) (by kernel_rfl) (by decide)
  (fun B=>Hs LZ mixed Oz (Xj nz) B) (nA.mpr xB)
theorem Bl:xz:=by
 rintro⟨b,(_|r),a,⟨⟩⟩ c f e d;cases c;exact⟨rfl,f,d,e,rfl⟩
theorem xC:w9 PR 210 xy:=wT Bl Tryz.func210 (kcC xA kcN) koN
theorem rW {d:DyD} {s:List Int} {i:Nat} (h:i<s.length):yf d s (i+1)=yf d s i+(gH (U.bk d (nth s i))-qh (U.bk d (nth s i))):=by
 unfold yf J7;rw[L.wQ h,zn,jO];rfl
theorem Pd {d:DyD} (a:qG d=true) {s:List Int} (c:∀b∈s,aM d b):∀i,i<=s.length->0<=yf d s i/\yf d s i<=1440*(i:Int)
 |0,_=>⟨zO _,zO _⟩
 |i+1,hi=>by
  have f:=Pd a c i (by omega)
  have e:=cA a (c _ (L.wh (l:=s) (i:=i) (by omega)))
  rw[rW (by omega)]
  omega
theorem Pe {d:DyD} {l:List Int} {b:Int}:b∈wA d l↔b∈l:=(qn l).mem_iff
theorem Pf (d:DyD) (l:List Int):(wA d l).length=l.length:=(qn l).length_eq
theorem FQ:D6:=by
 unfold D6 jli jh6 jkH jiJ jgW jhd jiq Prod.q4;rintro⟨(_|r),p,l,⟨⟩⟩ D v q K;cases D;obtain⟨⟨c1,c2,u⟩,v⟩:Sx r:=v;have q:ND (U.rd r) p:=q;obtain⟨z,A⟩:E8 (U.rd r) l:=K;have N:=(qe c1).2.2.1;refine⟨rfl,⟨z,A⟩,fun _=> ?_⟩;obtain⟨s,o⟩:∃s,s=wA (U.rd r) l:=⟨_,rfl⟩;have O:s.length<=12:=(by rw[o,Pf];exact z);have k:∀b∈s,aM (U.rd r) b:=fun b d=>A b (by rw[o] at d;exact Pe.1 d)
 have t:U.ro (some r)=r:=rfl;simp only[t,<-o];refine⟨⟨0,⟨⟨rfl,rfl,tZ⟩,tZ⟩,jl _,fun b d=>by omega⟩,fun x w=>⟨fun h=> ?_,fun h=> ?_⟩⟩;have h:(x:Int)<s.length:=ja h;have a:x<s.length:=(by omega);have d:=k _ (L.wh a);have H:=cA u d;have M:=Pd u k x (by omega);have C:((x:Int)+1).toNat=x+1:=(by omega);have B:(s.drop (x+1)).take (s.length-(x+1))=s.drop (x+1):=zw (by rw[zH];omega);have I:qh (U.bk (U.rd r) (nth s x))=(nth (wm (U.rd r)) (nth s x).toNat).2.2.1:=rfl;simp only[jw,C,B];have n:(nth s x)<((nU r).length:Int):=(by rw[v];exact d.2);have m:J9 (U.rd r) (nU r) p s x= !(decide (iA (nth (nU r) (nth s x).toNat/2^p.toNat) 1=0)||(s.drop (x+1)).any (fun c=>decide (ca (U.rd r) (nth s x) c<0))):=rfl;have j:((s.drop (x+1)).any (wc fun(y:Int×Unit)=>(decide (ca (U.rd r) (nth s x) y.fst<0),())))=(s.drop (x+1)).any (fun c=>decide (ca (U.rd r) (nth s x) c<0)):=rfl;unfold ND at q;refine⟨by omega,h,rfl,d.1,d.2,rfl,d.1,d.2,?_,?_,rfl,d.1,n,q.1,by omega,fun _=>iZ6,fun _=>by omega,fun _=>by omega,fun _=>by omega,fun _ g J=>⟨rfl,⟨c1,c2,u⟩,k g (kc J),d,tZ⟩,fun f=> ?_,fun f=>⟨iZ6,x+1,⟨⟨by simp,(rW a).symm,tZ⟩,tZ⟩,⟨by omega,fun b G=> ?_⟩,by omega⟩⟩;show wl (gH (U.bk (U.rd r) (nth s x))-qh (U.bk (U.rd r) (nth s x)));exact iZ6;show wl (yf (U.rd r) s x+(gH (U.bk (U.rd r) (nth s x))-qh (U.bk (U.rd r) (nth s x))));exact iZ6;have f:(decide (iA (nth (nU r) (nth s x).toNat/2^p.toNat) 1=0)||((s.drop (x+1)).any (wc fun(y:Int×Unit)=>(decide (ca (U.rd r) (nth s x) y.fst<0),()))))=true:=f;have f:J9 (U.rd r) (nU r) p s x=false:=(by rw[m,<-j,f];rfl);have:Ng r p l=false:=by
  unfold Ng QT jd9;rw[<-o];have:(List.range s.length).all (J9 (U.rd r) (nU r) p s)=false:=by
   rw[zW];exact⟨x,by simpa using a,by rw[f];simp⟩
  rw[this];rfl
 rw[this];by_cases e:b=x;subst e;have f:(decide (iA (nth (nU r) (nth s b).toNat/2^p.toNat) 1=0)||((s.drop (b+1)).any (wc fun(y:Int×Unit)=>(decide (ca (U.rd r) (nth s b) y.fst<0),()))))=false:=f;rw[m,<-j,f];rfl;exact w.2 b (by omega);have h:¬(x:Int)<s.length:=jc h;have a:x=s.length:=(by have:=w.1;omega);refine⟨rfl,?_⟩;have E:(List.range s.length).all (J9 (U.rd r) (nU r) p s)=true:=by
  rw[jV];intro i hi;exact w.2 i (by rw[a];simpa using hi)
 have F:yf (U.rd r) s x=J7 (U.rd r) s:=by
  unfold yf;rw[a,zw (jj _)]
 rw[F];have:Ng r p l=decide (J7 (U.rd r) s<=jbq (U.rd r)):=by
  unfold Ng QT jd9;rw[<-o,E,Bool.true_and]
 rw[this];rfl
theorem D8:w9 PR 182 D4:=vb D5 FQ Tryz.func182 (kcC ud (kcC xC (kcC gm kcN))) koN
theorem D9 (on:List (List Int)) (b:Int) (n:Nat):bG on b (n+1)=if(nth on n).any (fun x=>decide (x=b))=true then bor (bG on b n) (1*2^n) else bG on b n:=by
 unfold bG;rw[j8,jO];rfl
theorem nB (n:Nat):(1:Int)*2^n=2^n:=Int.one_mul _
theorem Ea:Bg:=by
 unfold Bg jhe jiK;rintro⟨(_|r),b,⟨⟩⟩ g d;cases g;have d:(cf r).length<=60:=d;have c:U.ro (some r)=r:=rfl;refine⟨rfl,fun _=>⟨⟨0,⟨⟨rfl,rfl,tZ⟩,tZ⟩,jl _⟩,fun x f=>⟨fun h=> ?_,fun h=> ?_⟩⟩⟩;have h:(x:Int)<(cf r).length:=ja h;have e:=D9 (cf r) b x;have i:BT.qm ((2:Int)^x):=BT.lC (by omega);unfold BT.qm at i;simp only[jw,c];refine⟨by omega,h,fun a=>⟨by omega,by omega,by rw[nB];exact iZ6,iZ6,x+1,⟨⟨by simp,?_,tZ⟩,tZ⟩,by omega,by omega⟩,fun a=>⟨iZ6,x+1,⟨⟨?_,by simp,tZ⟩,tZ⟩,by omega,by omega⟩⟩;rw[e];have a:((nth (cf r) x).any fun y=>decide (y=b))=true:=a;rw[je a];rw[e];have a:((nth (cf r) x).any fun y=>decide (y=b))=false:=a;rw[jd (by rw[a];simp)];have h:¬(x:Int)<(cf r).length:=jc h;have f:x<=(cf r).length:=f;rw[show x=(cf r).length by omega];rfl
theorem lM:w9 PR 106 Be:=vb Bf Ea Tryz.func106 (kcC dY kcN) koN
theorem Eb:Bj:=by
 unfold Bj jjf;rintro⟨(_|r),b,t,⟨⟩⟩ c a;cases c;have a:aM (U.rd r) b:=a;exact⟨rfl,rfl,a.1,a.2,rfl⟩
theorem Bm:w9 PR 107 Bh:=wT Eb Tryz.func107 (kcC OY kcN) koN
theorem rX {l:List ShD} {s:ShD}:s∈qA l↔s∈l:=by
 have e:qA l=ck (fun a b=>decide (a=b)) (wd (we tSh fun x=>(ee x.1 x.2.1,())) l):=by
  unfold qA;congr 1
 rw[e,L.comp_mem];exact(qn l).mem_iff
theorem L0 (l:List ShD):(qA l).Nodup:=by
 have e:qA l=ck (fun a b=>decide (a=b)) (wd (we tSh fun x=>(ee x.1 x.2.1,())) l):=by
  unfold qA;congr 1
 rw[e];refine L.asc_nodup (lt:=we tSh fun x=>(ee x.1 x.2.1,())) (fun x=> ?_) (L.comp_asc (jap _) (cJ (jap l)));exact(jap [x]).irrefl x (kX.2 rfl)
theorem jbS (l:List ShD):∀i,i<=l.length->∀k,wW 0 (wG .int k (gh [] l i))=(((l.take i).countP (fun s=>decide (gM s=k)):Nat):Int)
 |0,_,k=>rfl
 |i+1,hi,k=>by
  have a:=jbS l i (by omega)
  rw[fQ (by omega),L.wQ (by omega),zL]
  unfold oC
  by_cases e:k=gM (nth l i)
  rw[e]
  rw[M.so (kt:= .int) (gM (nth l i)) (wW 0 (wG .int (gM (nth l i)) (gh [] l i))+1) (gh [] l i)]
  show wW 0 (wG .int (gM (nth l i)) (gh [] l i))+1=_
  rw[a]
  simp
  rw[M.eV (kt:= .int) (k:=gM (nth l i)) (k':=k) e (wW 0 (wG .int (gM (nth l i)) (gh [] l i))+1) (gh [] l i),a]
  have:decide (gM (nth l i)=k)=false:=zp fun h=>e h.symm
  simp[this]
theorem RX {l:List ShD} {i:Nat} (h:i<l.length):uH [] l i=(l.take i).any (fun s=>decide (gM s=gM (nth l i))):=by
 unfold uH Sw;rw[<-fQ h,jbS l (i+1) (by omega),L.wQ h,zL];rw[j7,jp,zc];have b:List.countP (fun s=>decide (gM s=gM (nth l i))) [nth l i]=1:=(by simp);rw[b];constructor;intro a;have:0<(l.take i).countP (fun s=>decide (gM s=gM (nth l i))):=(by omega);rw[List.countP_pos_iff] at this;exact this;intro a;have:0<(l.take i).countP (fun s=>decide (gM s=gM (nth l i))):=List.countP_pos_iff.2 a;omega
theorem jdi (l:List ShD):Vu l=false↔(l.map gM).Nodup:=by
 have g:Vu l=false↔∀i,i<l.length->uH [] l i=false:=by
  unfold Vu;constructor;intro h i hi;cases k:uH [] l i with
  |false=>rfl
  |true=>
   exfalso;have b:(List.range l.length).findIdx? (uH [] l)≠none:=by
    intro f;rw[kx] at f;have:=f i (jE.2 hi);rw[k] at this;cases this
   unfold nT gN at h;cases d:(List.range l.length).findIdx? (uH [] l) with
   |none=>exact b d
   |some j=>
    rw[d] at h;have h:=jc h;exact h (jU j)
  intro h;rw[(Hy h).1];rfl
 rw[g,kT,zP,zF];constructor;intro h i j hi a m e;have:=h j a;rw[RX a,zj] at this;have c:=this (l[i]) (by rw[ze];exact⟨i,by omega,rfl⟩);rw[L.qy a] at c;simp[e] at c;intro h i hi;rw[RX hi,zj];intro s b;rw[ze] at b;obtain⟨j,a,rfl⟩:=b;have:=h j i (by omega) hi (by omega);rw[L.qy hi];simpa using this
theorem Xm (l:List ShD):Vu (qA l)=false↔∀a∈l,∀b∈l,gM a=gM b->a=b:=by
 rw[jdi];constructor;intro h a c b d e;exact L.nodup_inj h (rX.2 c) (rX.2 d) e;intro h;rw[kT,zP];exact(List.Pairwise.imp_of_mem (fun{a b} c d f e=>f (h a (rX.1 c) b (rX.1 d) e)) (L0 l))
theorem Xn (l:List ShD):cu l=false↔∀a∈l,∀b∈l,gM a=gM b->a=b:=by
 have k:cu l=false↔∀i,i<l.length->∀j,j<i->E6 (nth l i) (nth l j)=false:=by
  unfold cu aV Cg;rw[zj];constructor;intro h i hi j d;have:=h i (jE.2 hi);rw[zT,zj] at this;have:=this (nth l j) (by rw[ze];exact⟨j,by omega,(L.qy (by omega)).symm⟩);simpa using this;intro h i hi;have hi:=jE.1 hi;rw[zT,zj];intro s g;rw[ze] at g;obtain⟨j,d,rfl⟩:=g;have:=h i hi j (by omega);rw[L.qy (l:=l) (i:=j) (by omega)] at this;simpa using this
 rw[k];have f:∀a b:ShD,E6 a b=false↔(gM a=gM b->a=b):=by
  intro a b;unfold E6;rw[km];simp only[jI,zq,jp];constructor;rintro(h|h) e;exact absurd e h;exact h;intro h;by_cases e:gM a=gM b;exact .inr (h e);exact .inl e
 constructor;intro h a m b n e;obtain⟨i,hi,rfl⟩:=L.mem_iff.1 m;obtain⟨j,d,rfl⟩:=L.mem_iff.1 n;rcases kK i j with c|rfl|c;exact((f _ _).1 (h j d i c) e.symm).symm;rfl;exact(f _ _).1 (h i hi j c) e;intro h i hi j d;exact(f _ _).2 (h _ (L.wh hi) _ (L.wh (by omega)))
theorem Xo (l:List ShD):Vu (qA l)=cu l:=by
 have:=(Xm l).trans (Xn l).symm;cases a:Vu (qA l) with
 |false=>exact(this.1 a).symm
 |true=>
  cases b:cu l with
  |false=>rw[this.2 b] at a;cases a
  |true=>rfl
theorem de (d:DyD):qo d=aA d:=by
 unfold qo xY aA;rw[Xo]
 split
 rfl
 split
 rfl;rw[jd (by simp)]
abbrev tSt:Ty:= .st [.int,.int]
abbrev jfK:Sh:= .box 168 [.dat .int,.dat (.slice tPe),.dat (.slice tLw),.dat (.slice (.slice tSp)),.dat (.slice tBk),.dat .int,.dat .int,.dat (.slice tSh),.row 3 .int .yes,.row 31 (.slice .int) .no,.row 3 .int .unk]
namespace U
def noI:List Int:=[]
def yU (b:jfK.D):RoD:=(((b.1,b.2.1,b.2.2.1,()),b.2.2.2.1,b.2.2.2.2.1,b.2.2.2.2.2.1,b.2.2.2.2.2.2.1,b.2.2.2.2.2.2.2.1,()),b.2.2.2.2.2.2.2.2.1,b.2.2.2.2.2.2.2.2.2.1,b.2.2.2.2.2.2.2.2.2.2.1,())
def BO (b:jfK.D) (x:List (List Int)×List Int):jfK.D:=(b.1,b.2.1,b.2.2.1,b.2.2.2.1,b.2.2.2.2.1,b.2.2.2.2.2.1,b.2.2.2.2.2.2.1,b.2.2.2.2.2.2.2.1,b.2.2.2.2.2.2.2.2.1,x.1,x.2,())
def iq (s:ShD):Int×Int×Unit:=(mo s,aL s,())
def vz (l:List ShD) (n:Nat):List ((Int×Int×Unit)×ShD):=(l.take n).foldl (fun m s=>iz tSt (iq s) s m) []
def yM (m:List ((Int×Int×Unit)×ShD)) (s:ShD):Bool:= !(!decide (wW (Ty.dflt tSh) (wG tSt (iq s) m)=s)|| !decide (Zb s=1))
def Nh (d:DyD) (d9:List Int) (m:List ((Int×Int×Unit)×ShD)) (x:List (List Int)×List Int) (s:ShD):List (List Int)×List Int:=
 if yM m s=true then(if QT d d9 (aL s) (nth x.1 (aL s).toNat++[mo s])=true then(x.1.set (aL s).toNat (nth x.1 (aL s).toNat++[mo s]),x.2) else(x.1,x.2++[gM s])) else x
def jgN (l:List ShD):List ShD:=wd (we tSh fun x=>(wF x.1 x.2.1,())) l
def vL (d:DyD):List ShD:=jgN (qA (qi d))
def yR (r:RoD) (l:List ShD) (n:Nat):List (List Int)×List Int:=(l.take n).foldl (Nh (rd r) (nU r) (vz l l.length)) (cf r,jgf r)
def cm (r:RoD):List (List Int)×List Int:=((yR r (vL (rd r)) (vL (rd r)).length).1,E5 (yR r (vL (rd r)) (vL (rd r)).length).2)
def jea (l:List (List Int)):Prop:=∀x∈l,x=noI
def jbr (r:RoD):Prop:=(qo (rd r)=0/\(nU r).length=(wm (rd r)).length)/\((cf r).length=(wj (ww (rd r))).length/\jea (cf r))/\jgf r=noI
def eg (r:RoD) (l:List ShD) (n:Nat) (x:List (List Int)×List Int):Prop:=x.1.length=(wj (ww (rd r))).length/\x.2.length<=n/\∀p:Nat,(nth x.1 p).Nodup/\∀b∈nth x.1 p,aM (rd r) b/\∃i:Nat,i<n/\iq (nth l i)=(b,(p:Int),())/\wW (Ty.dflt tSh) (wG tSt (iq (nth l i)) (vz l l.length))=nth l i
end U
def bx (σ:St) (o:Nat):List SV:=match σ.obj o with|some (.box _ _ cs)=>cs|_=>[]
def gb (t:Ty) (σ:St) (o:Nat):t.Data:=match gn σ t (bx σ o) with|some (x,_)=>x|none=>t.dflt
abbrev FR:vq:=WO 3
def xD:vq:=⟨[.own jfK true],[],fun d=>[jbr (yU d.1)],fun d=>((),(BO d.1 (cm (yU d.1)),()))⟩
def xE:Ann:=fun r=>match r with
 |4=>some fun σ=>{X:=Nat,sl:=fun i=>[(20,.dat .int (i:Int))],ob:=fun i=>[(9,some (.map false tSt tSh (vz (gr tSh σ 3) i)))],inv:=fun i=>i<=(gr tSh σ 3).length,mu:=fun i=>(gr tSh σ 3).length-i}
 |9=>some fun σ=>{X:=Nat,sl:=fun i=>[(34,.dat .int (i:Int))],ob:=fun i=>[(400009,some (.row 31 (.slice .int) false .no (yR (gb tRo σ 1000000) (gr tSh σ 3) i).1)),(400010,some (.row 3 .int false .unk (yR (gb tRo σ 1000000) (gr tSh σ 3) i).2))],inv:=fun i=>i<=(gr tSh σ 3).length/\eg (gb tRo σ 1000000) (gr tSh σ 3) i (yR (gb tRo σ 1000000) (gr tSh σ 3) i),mu:=fun i=>(gr tSh σ 3).length-i}
 |_=>none
abbrev jg5 (d:(Int×List PeD×List LwD×List (List (Int×Int×Unit))×List BkD×Int×Int×List ShD×List Int×List (List Int)×List Int×Unit)×Unit):=(((d.1.1,d.1.2.1,d.1.2.2.1,()),d.1.2.2.2.1,d.1.q4.1,d.1.q4.2.1,d.1.q4.2.2.1,d.1.q4.2.2.2.1,()),d.1.q4.q4)
abbrev jjU:=(Ty.int.pair (Ty.int.pair Ty.unit))
abbrev jlj:=(we (Ty.int.pair (Ty.int.pair (Ty.int.pair jjU))) fun(a:ShD×ShD×Unit)=>(wF a.1 a.2.1,()))
abbrev jgP (d:(Int×List PeD×List LwD×List (List (Int×Int×Unit))×List BkD×Int×Int×List ShD×List Int×List (List Int)×List Int×Unit)×Unit):=(wd jlj (qA d.1.q4.2.2.2.1))
abbrev jgT (d:(Int×List PeD×List LwD×List (List (Int×Int×Unit))×List BkD×Int×Int×List ShD×List Int×List (List Int)×List Int×Unit)×Unit)(a:Nat):=(nth (jgP d) (a:Int).toNat)
abbrev jgX (d:(Int×List PeD×List LwD×List (List (Int×Int×Unit))×List BkD×Int×Int×List ShD×List Int×List (List Int)×List Int×Unit)×Unit)(a:Nat):=(yR (jg5 d) (jgP d) a)
abbrev jiL (d:(Int×List PeD×List LwD×List (List (Int×Int×Unit))×List BkD×Int×Int×List ShD×List Int×List (List Int)×List Int×Unit)×Unit)(a:Nat):=(some (((d.1.1,d.1.2.1,d.1.2.2.1,()),d.1.2.2.2.1,d.1.q4.1,d.1.q4.2.1,d.1.q4.2.2.1,d.1.q4.2.2.2.1,()),d.1.q4.q4.1,(jgX d a).1,(jgX d a).2,()))
abbrev jlk:=((0:Int),(0:Int),(0:Int),(0:Int),(0:Int),())
def xF:Prop:=∀(d:(Int×List PeD×List LwD×List (List (Int×Int×Unit))×List BkD×Int×Int×List ShD×List Int×List (List Int)×List Int×Unit)×Unit),jbr (yU d.1)->d.1.q4.2.2.2.1.length<=100000/\(∀(c:ShD),c∈qA d.1.q4.2.2.2.1->∀(y:ShD),y∈qA d.1.q4.2.2.2.1->wC [])/\yq jlj (qA d.1.q4.2.2.2.1)/\((jgP d).length<4611686018427387904->(∃(x:Nat),((0=(x:Int)/\True)/\[]=vz (jgP d) x/\True)/\x<=(jgP d).length)/\∀(x:Nat),x<=(jgP d).length->(decide ((x:Int)<(jgP d).length)=true->0<=(x:Int)/\(x:Int)<(jgP d).length/\wl ((x:Int)+1)/\∃(b:Nat),(((x:Int)+1=(b:Int)/\True)/\iz jjU (nth (jgP d) (x:Int).toNat).2.2.2 (nth (jgP d) (x:Int).toNat) (vz (jgP d) x)=vz (jgP d) b/\True)/\b<=(jgP d).length/\(jgP d).length-b<(jgP d).length-x)/\(decide ((x:Int)<(jgP d).length)=false->(jgP d).length<4611686018427387904->(∃(x:Nat),((0=(x:Int)/\True)/\d.1.q4.q4.2.1=(yR (jg5 d) (jgP d) x).1/\d.1.q4.q4.2.2.1=(yR (jg5 d) (jgP d) x).2/\True)/\x<=(jgP d).length/\eg (jg5 d) (jgP d) x (yR (jg5 d) (jgP d) x))/\∀(a:Nat),a<=(jgP d).length/\eg (jg5 d) (jgP d) a (jgX d a)->(decide ((a:Int)<(jgP d).length)=true->0<=(a:Int)/\(a:Int)<(jgP d).length/\((!decide (wW jlk (wG jjU (jgT d a).2.2.2 (vz (jgP d) x))=nth (jgP d) (a:Int).toNat)||decide ((jgT d a).2.2.1≠1))=true->wl ((a:Int)+1)/\∃(b:Nat),(((a:Int)+1=(b:Int)/\True)/\(jgX d a).2=(yR (jg5 d) (jgP d) b).2/\(jgX d a).1=(yR (jg5 d) (jgP d) b).1/\True)/\(b<=(jgP d).length/\eg (jg5 d) (jgP d) b (yR (jg5 d) (jgP d) b))/\(jgP d).length-b<(jgP d).length-a)/\((!decide (wW jlk (wG jjU (jgT d a).2.2.2 (vz (jgP d) x))=nth (jgP d) (a:Int).toNat)||decide ((jgT d a).2.2.1≠1))=false->(0:Int)<=(jgT d a).q4.1/\(jgT d a).q4.1<(↑(jgX d a).1.length:Int)/\(0:Int)<=(jgT d a).q4.1/\(jgT d a).q4.1<(↑(jgX d a).1.length:Int)/\(0:Int)<=(jgT d a).q4.1/\(jgT d a).q4.1<(↑(jgX d a).1.length:Int)/\(↑(nth (jgX d a).1 (jgT d a).q4.1.toNat).length:Int)=(nth (jgX d a).1 (jgT d a).q4.1.toNat).length/\(↑(nth (jgX d a).1 (jgT d a).q4.1.toNat).length:Int)=(nth (jgX d a).1 (jgT d a).q4.1.toNat).length/\((nth (jgX d a).1 (jgT d a).q4.1.toNat).length+[(jgT d a).2.2.2.1].length)*8<=140737488355328/\(jiL d a).isSome=true/\Sx (U.ro (jiL d a))/\ND (U.rd (U.ro (jiL d a))) (jgT d a).q4.1/\E8 (U.rd (U.ro (jiL d a))) (nth (jgX d a).1 (jgT d a).q4.1.toNat++[(jgT d a).2.2.2.1])/\(Ng (U.ro (jiL d a)) (jgT d a).q4.1 (nth (jgX d a).1 (jgT d a).q4.1.toNat++[(jgT d a).2.2.2.1])=true->(0:Int)<=(jgT d a).q4.1/\(jgT d a).q4.1<(↑(jgX d a).1.length:Int)/\wl ((a:Int)+1)/\∃(b:Nat),(((a:Int)+1=(b:Int)/\True)/\(jgX d a).2=(yR (jg5 d) (jgP d) b).2/\(jgX d a).1.set (jgT d a).q4.1.toNat (nth (jgX d a).1 (jgT d a).q4.1.toNat++[(jgT d a).2.2.2.1])=(yR (jg5 d) (jgP d) b).1/\True)/\(b<=(jgP d).length/\eg (jg5 d) (jgP d) b (yR (jg5 d) (jgP d) b))/\(jgP d).length-b<(jgP d).length-a)/\(Ng (U.ro (jiL d a)) (jgT d a).q4.1 (nth (jgX d a).1 (jgT d a).q4.1.toNat++[(jgT d a).2.2.2.1])=false->((jgX d a).2.length+[(jgT d a).1].length)*8<=140737488355328/\wl ((a:Int)+1)/\∃(b:Nat),(((a:Int)+1=(b:Int)/\True)/\(jgX d a).1=(yR (jg5 d) (jgP d) b).1/\(d.1.1=d.1.1/\d.1.2.1=d.1.2.1/\d.1.2.2.1=d.1.2.2.1/\d.1.2.2.2.1=d.1.2.2.2.1/\d.1.q4.1=d.1.q4.1/\d.1.q4.2.1=d.1.q4.2.1/\d.1.q4.2.2.1=d.1.q4.2.2.1/\d.1.q4.2.2.2.1=d.1.q4.2.2.2.1/\True/\True/\True/\True)/\(jgX d a).2++[(jgT d a).1]=(yR (jg5 d) (jgP d) b).2/\True)/\(b<=(jgP d).length/\eg (jg5 d) (jgP d) b (yR (jg5 d) (jgP d) b))/\(jgP d).length-b<(jgP d).length-a)))/\(decide ((a:Int)<(jgP d).length)=false->()=()/\((d.1.1,d.1.2.1,d.1.2.2.1,d.1.2.2.2.1,d.1.q4.1,d.1.q4.2.1,d.1.q4.2.2.1,d.1.q4.2.2.2.1,d.1.q4.q4.1,(jgX d a).1,E5 (jgX d a).2,()),())=(BO d.1 (cm (yU d.1)),()))))
theorem gX {d:DyD} (h:qo d=0):GB d/\∀a∈qi d,∀b∈qi d,gM a=gM b->a=b:=by
 unfold qo xY at h;cases c:wy (ww d) with
 |false=>rw[c] at h;simp at h
 |true=>
  cases e:J6 d with
  |false=>rw[c,e] at h;simp at h
  |true=>
   cases f:qG d with
   |false=>rw[c,e,f] at h;simp at h
   |true=>
    cases g:Vu (qA (qi d)) with
    |true=>rw[c,e,f,g] at h;simp at h
    |false=>exact⟨⟨c,e,f⟩,(Xm _).1 g⟩
theorem jdj:i9 wF:=by
 have e:wF=Vs (fun a b=>dA (Fi a) (Fi b)) (fun a b=>dA (gM a) (gM b)):=by
  funext a b;unfold wF;rw[qw,yc];rfl
 rw[e];exact rK (pn nf Fi) (pn nf gM)
theorem Xp {a b:ShD} (h:wF a b=0):gM a=gM b:=by
 unfold wF at h;rw[qw,yc] at h
 split at h
 contradiction;exact bK.1 h
theorem jgr {d:DyD} (h:qo d=0):yq (we tSh fun x=>(wF x.1 x.2.1,())) (qA (qi d)):=
 Cb jdj (fun a b e f c=>(gX h).2 a (rX.1 e) b (rX.1 f) (Xp c))
theorem lr {d:DyD} {s:ShD}:s∈vL d↔s∈qi d:=((qn _).mem_iff).trans rX
theorem fX (d:DyD):(vL d).Nodup:=(qn _).nodup_iff.2 (L0 _)
theorem jdk (d:DyD):(vL d).length<=(qi d).length:=by
 unfold vL jgN;rw[(qn _).length_eq];exact Xf _
theorem oq {d:DyD} (h:qG d=true) {s:ShD} (a:s∈qi d):(0<=aL s/\aL s<((wj (ww d)).length:Int))/\aM d (mo s):=by
 have:=(yr h).2.2.2.2.2.2.2 _ a;unfold nQ at this;have:=ja this;unfold aM;omega
theorem Ec {l:List ShD} {i:Nat} (h:i<l.length):vz l (i+1)=iz tSt (iq (nth l i)) (nth l i) (vz l i):=by
 unfold vz;rw[L.wQ h,jO];rfl
theorem ue {r:RoD} {l:List ShD} {i:Nat} (h:i<l.length):yR r l (i+1)=Nh (U.rd r) (nU r) (vz l l.length) (yR r l i) (nth l i):=by
 unfold yR;rw[L.wQ h,jO];rfl
theorem jf3 {d:DyD} {l:List Int} (c:l.Nodup) (a:∀b∈l,aM d b):l.length<=(wm d).length:=by
 have:=L.nodup_len l ((List.range (wm d).length).map (fun(b:Nat)=>(b:Int))) c (fun x e=>by
  have:=a x e;unfold aM at this;exact jS.2 ⟨x.toNat,jE.2 (by omega),by omega⟩)
 simpa using this
section
variable {r:RoD} {l:List ShD} {i:Nat}
theorem Xq (t:qG (U.rd r)=true) (u:∀s∈l,s∈qi (U.rd r)) (nd:l.Nodup) (h:i<l.length) {x:List (List Int)×List Int} (w:eg (U.rd r,nU r,cf r,jgf r,()) l i x)
 (g:yM (vz l l.length) (nth l i)=true):(nth x.1 (aL (nth l i)).toNat++[mo (nth l i)]).Nodup/\(∀b∈nth x.1 (aL (nth l i)).toNat++[mo (nth l i)],aM (U.rd r) b)/\
  ∀b∈nth x.1 (aL (nth l i)).toNat++[mo (nth l i)],∃j:Nat,j<i+1/\iq (nth l j)=(b,((aL (nth l i)).toNat:Int),())/\wW (Ty.dflt tSh) (wG tSt (iq (nth l j)) (vz l l.length))=nth l j:=by
 obtain⟨z,A,p⟩:=w;have v:=oq t (u _ (L.wh h));have d:wW (Ty.dflt tSh) (wG tSt (iq (nth l i)) (vz l l.length))=nth l i:=by
  unfold yM at g;simp only[jX,jT,zq,jp] at g;exact g.1
 have n:((aL (nth l i)).toNat:Int)=aL (nth l i):=(by omega);obtain⟨y,k⟩:=p (aL (nth l i)).toNat;refine⟨?_,fun b c=> ?_,fun b c=> ?_⟩;refine zI.2 ⟨y,by simp,fun a q b c e=> ?_⟩;simp at c;subst c;subst e;obtain⟨_,j,m,f,e2⟩:=k _ q;rw[n] at f;have o:iq (nth l j)=iq (nth l i):=f;rw[o,d] at e2;have:=(kT.1 nd);rw[zF] at this;refine this j i (by omega) h m ?_;rw[<-L.qy,<-L.qy h];exact e2.symm;rcases jr.1 c with c|c;exact(k b c).1;simp at c;subst c;exact v.2;rcases jr.1 c with c|c;obtain⟨_,j,m,f,e2⟩:=k b c;exact⟨j,by omega,f,e2⟩;simp at c;subst c;exact⟨i,by omega,by rw[n];rfl,d⟩
theorem Xr {r:RoD} {x:List (List Int)×List Int} (a:eg r l i x):eg r l (i+1) x:=
 ⟨a.1,by have:=a.2.1;omega,fun p=>⟨(a.2.2 p).1,fun b c=>⟨((a.2.2 p).2 b c).1,by
  obtain⟨j,d,e⟩:=((a.2.2 p).2 b c).2
  exact⟨j,by omega,e⟩⟩⟩⟩
theorem jbT (g:qG (U.rd r)=true) (j:∀s∈l,s∈qi (U.rd r)) (nd:l.Nodup) (h:i<l.length) {x:List (List Int)×List Int} (a:eg r l i x):
 eg r l (i+1) (Nh (U.rd r) (nU r) (vz l l.length) x (nth l i)):=by
 unfold Nh;cases k:yM (vz l l.length) (nth l i) with
 |false=>rw[jd (by simp)];exact Xr a
 |true=>
  rw[je rfl];have d:=Xq g j nd h a k;have m:=oq g (j _ (L.wh h))
  split
  refine⟨by show(x.1.set _ _).length=_;rw[zK];exact a.1,by have:=a.2.1;show x.2.length<=_;omega,fun p=> ?_⟩;have c:(aL (nth l i)).toNat<x.1.length:=(by rw[a.1];omega);show(nth (x.1.set (aL (nth l i)).toNat (nth x.1 (aL (nth l i)).toNat++[mo (nth l i)])) p).Nodup/\_;rw[L.gz c]
  split
  rename_i e;subst e;exact⟨d.1,fun b f=>⟨d.2.1 b f,d.2.2 b f⟩⟩;exact(Xr a).2.2 p;refine⟨a.1,?_,(Xr a).2.2⟩;have:=a.2.1;show(x.2++[gM (nth l i)]).length<=_;rw[jH];simp;omega
end
theorem RY {l:List (List Int)} (h:jea l) (p:Nat):nth l p=[]:=by
 by_cases a:p<l.length;exact h _ (L.wh a);unfold nth;rw[zg,List.getElem?_eq_none (by omega)];rfl
theorem Xs {r:RoD} {l:List ShD} (a:(cf r).length=(wj (ww (U.rd r))).length) (c:jea (cf r)) (d:jgf r=U.noI):eg r l 0 (yR r l 0):=by
 refine⟨a,?_,fun p=> ?_⟩;show(jgf r).length<=0;rw[d];exact jj 0;have e:nth (yR r l 0).1 p=[]:=RY c p;rw[e];exact⟨kZ,fun b f=>by cases f⟩
theorem jeY (m:List ((Int×Int×Unit)×ShD)) (s:ShD):yM m s= !(!decide (wW (Ty.dflt tSh) (wG tSt (iq s) m)=s)||decide (Zb s≠1)):=by
 unfold yM;by_cases h:Zb s=1<;>simp[h]
section
variable {r:RoD} {l:List ShD} {i:Nat}
theorem RZ (h:i<l.length) (a:yM (vz l l.length) (nth l i)=false):yR r l (i+1)=yR r l i:=by
 rw[ue h];unfold Nh;rw[a,jd (by simp)]
theorem Xt (h:i<l.length) (a:yM (vz l l.length) (nth l i)=true) (b:QT (U.rd r) (nU r) (aL (nth l i)) (nth (yR r l i).1 (aL (nth l i)).toNat++[mo (nth l i)])=true):
 yR r l (i+1)=((yR r l i).1.set (aL (nth l i)).toNat (nth (yR r l i).1 (aL (nth l i)).toNat++[mo (nth l i)]),(yR r l i).2):=by
 rw[ue h];unfold Nh;rw[a,je rfl,je b]
theorem jbU (h:i<l.length) (a:yM (vz l l.length) (nth l i)=true) (b:QT (U.rd r) (nU r) (aL (nth l i)) (nth (yR r l i).1 (aL (nth l i)).toNat++[mo (nth l i)])=false):
 yR r l (i+1)=((yR r l i).1,(yR r l i).2++[gM (nth l i)]):=by
 rw[ue h];unfold Nh;rw[a,je rfl,b,jd (by simp)]
end
theorem Bn:xF:=by
 unfold xF jlk jiL jgX jgT jgP jlj jjU jg5 Prod.q4;rintro⟨b,⟨⟩⟩ J;obtain⟨⟨hk,N⟩,⟨O,B⟩,C⟩:jbr (yU b):=J;have F:=(gX hk).1;have u:=F.2.2;have v:(qi (U.rd (yU b))).length<=30:=(yr u).2.2.2.2.1;have H:b.2.2.2.2.2.2.2.1.length<=30:=v;have M:(vL (U.rd (yU b))).length<=30:=jF (jdk _) v;have g:∀s∈vL (U.rd (yU b)),s∈qi (U.rd (yU b)):=fun s D=>lr.1 D
 have w:=fX (U.rd (yU b));have K:(wm (U.rd (yU b))).length<=4:=(yr u).1;refine⟨by show b.2.2.2.2.2.2.2.1.length<=100000;omega,fun _ _ _ _=>tZ,jgr hk,fun _=>⟨⟨0,⟨⟨rfl,tZ⟩,rfl,tZ⟩,jl _⟩,fun x I=>⟨fun h=> ?_,fun h _=>⟨⟨0,⟨⟨rfl,tZ⟩,rfl,rfl,tZ⟩,jl _,Xs (r:=yU b) O B C⟩,fun y n=>⟨fun t=> ?_,fun t=> ?_⟩⟩⟩⟩⟩;have h:(x:Int)<(vL (U.rd (yU b))).length:=ja h;have D:=Ec (l:=vL (U.rd (yU b))) (i:=x) (by omega);exact⟨by omega,h,iZ6,x+1,⟨⟨by simp,tZ⟩,D.symm,tZ⟩,by show x+1<=(vL (U.rd (yU b))).length;omega,by show(vL (U.rd (yU b))).length-(x+1)<(vL (U.rd (yU b))).length-x;omega⟩;have I:x<=(vL (U.rd (yU b))).length:=I;have h:¬(x:Int)<(vL (U.rd (yU b))).length:=jc h;have E:x=(vL (U.rd (yU b))).length:=(by omega);have t:(y:Int)<(vL (U.rd (yU b))).length:=ja t;have a:y<(vL (U.rd (yU b))).length:=(by omega);obtain⟨_,e⟩:y<=(vL (U.rd (yU b))).length/\eg (yU b) (vL (U.rd (yU b))) y (yR (yU b) (vL (U.rd (yU b))) y):=n;have c:=jbT (r:=yU b) u g w a e;rw[<-ue a] at c;have up:y+1<=(vL (U.rd (yU b))).length:=a;have A:(vL (U.rd (yU b))).length-(y+1)<(vL (U.rd (yU b))).length-y:=(by omega);have q:=oq u (g _ (L.wh a));have o:=jeY (vz (vL (U.rd (yU b))) (vL (U.rd (yU b))).length) (nth (vL (U.rd (yU b))) y);subst E;refine⟨by omega,t,fun p=> ?_,fun p=> ?_⟩;have f:yM (vz (vL (U.rd (yU b))) (vL (U.rd (yU b))).length) (nth (vL (U.rd (yU b))) y)=false:=by
  rw[o];have p:(!decide (wW (Ty.dflt tSh) (wG tSt (iq (nth (vL (U.rd (yU b))) y)) (vz (vL (U.rd (yU b))) (vL (U.rd (yU b))).length))=nth (vL (U.rd (yU b))) y)||decide (Zb (nth (vL (U.rd (yU b))) y)≠1))=true:=p;rw[p];rfl
 have d:=RZ (r:=yU b) a f;exact⟨iZ6,y+1,⟨⟨by simp,tZ⟩,jD (·.2) d.symm,jD (·.1) d.symm,tZ⟩,⟨up,c⟩,A⟩;have f:yM (vz (vL (U.rd (yU b))) (vL (U.rd (yU b))).length) (nth (vL (U.rd (yU b))) y)=true:=by
  rw[o];have p:(!decide (wW (Ty.dflt tSh) (wG tSt (iq (nth (vL (U.rd (yU b))) y)) (vz (vL (U.rd (yU b))) (vL (U.rd (yU b))).length))=nth (vL (U.rd (yU b))) y)||decide (Zb (nth (vL (U.rd (yU b))) y)≠1))=false:=p;rw[p];rfl
 have j:=Xq (r:=yU b) u g w a e f;have z:=jf3 j.1 j.2.1;have G:(nth (yR (yU b) (vL (U.rd (yU b))) y).1 (aL (nth (vL (U.rd (yU b))) y)).toNat).length<=4:=by
  rw[jH] at z;omega
 have k:0<=aL (nth (vL (U.rd (yU b))) y):=q.1.1;have m:aL (nth (vL (U.rd (yU b))) y)<((yR (yU b) (vL (U.rd (yU b))) y).1.length:Int):=(by rw[e.1];exact q.1.2);have P:=e.2.1;refine⟨k,m,k,m,k,m,rfl,rfl,?_,rfl,⟨F,N⟩,q.1,⟨jF z (by omega),j.2.1⟩,fun n=> ?_,fun n=> ?_⟩;show((nth (yR (yU b) (vL (U.rd (yU b))) y).1 (aL (nth (vL (U.rd (yU b))) y)).toNat).length+1)*8<=140737488355328;omega;have d:=Xt (r:=yU b) a f n;exact⟨k,m,iZ6,y+1,⟨⟨by simp,tZ⟩,jD (·.2) d.symm,jD (·.1) d.symm,tZ⟩,⟨up,c⟩,A⟩;have d:=jbU (r:=yU b) a f n;refine⟨?_,iZ6,y+1,⟨⟨by simp,tZ⟩,jD (·.1) d.symm,⟨rfl,rfl,rfl,rfl,rfl,rfl,rfl,rfl,tZ,tZ,tZ,tZ⟩,jD (·.2) d.symm,tZ⟩,⟨up,c⟩,A⟩;show((yR (yU b) (vL (U.rd (yU b))) y).2.length+1)*8<=140737488355328;omega;have t:¬(y:Int)<(vL (U.rd (yU b))).length:=jc t;have n:=n.1;have n:y<=(vL (U.rd (yU b))).length:=n;have a:y=(vL (U.rd (yU b))).length:=(by omega);subst a;exact⟨rfl,rfl⟩
theorem FS:ax PR 183 FR:=Z5 Tryz.sortI 3 (yb Tryz.func183 (c:=qq Tryz.f183) (by kernel_rfl) (by kernel_rfl))
theorem xG:ax PR 143 xD:=tD xE Bn Tryz.func143 (kcC O7 (kcC D8 kcN)) (koC tY (koC cq (koC FS koN)))
end Go.X
namespace Go.X
open U
open Go.Proofs
namespace U
def lS (l:List Int) (n:Nat):Int:=(l.take n).foldl (fun s p=>bor s (1*2^p.toNat)) 0
def Sy (l:List Int):Int:=lS l l.length
def yN (d:DyD) (n:Nat):List Int:=((wm d).take n).map (fun b=>Sy (d9 (ww d) (gg b)))
def jet (d:DyD):List (List Int):=List.replicate (wj (ww d)).length noI
def NE (d:DyD):RoD:=(d,yN d (wm d).length,jet d,noI,())
def Vv (d:DyD):RoD:=(d,yN d (wm d).length,(cm (NE d)).1,(cm (NE d)).2,())
def uO (d:DyD):Option RoD:=if qo d=0 then some (Vv d) else none
end U
def L1:vq:=⟨[.val tDy,.nil true],[.cl (.dat (.ptr tRo)),.cl (.dat .int)],fun d=>[(qi d.1).length<=100000],fun d=>((uO d.1,qo d.1,()),())⟩
def Xu:Ann:=fun r=>match r with
 |8=>some fun σ=>{X:=Nat,sl:=fun i=>[(39,.dat .int (i:Int))],ob:=fun i=>[(27,some (.box 168 false (((bx σ 27).set 8 (.own (iG 27 8) .int)).set 10 (.own (iG 27 10) .int)))),(iG 27 10,some (.row 3 .int false .yes U.noI)),(iG 27 8,some (.row 3 .int false .yes (yN (gb tDy σ 2) i)))],inv:=fun i=>i<=(wm (gb tDy σ 2)).length,mu:=fun i=>(wm (gb tDy σ 2)).length-i}
 |13=>some fun σ=>{X:=Nat,sl:=fun i=>[(53,.dat .int (i:Int)),(12,.dat .int (lS (gd (.slice .int) σ 51) i))],ob:=fun _=>[],inv:=fun i=>i<=(gd (.slice .int) σ 51).length,mu:=fun i=>(gd (.slice .int) σ 51).length-i}
 |3000005=>some fun _=>{X:=Unit,sl:=fun _=>[],ob:=fun _=>[],inv:=fun _=>True,mu:=fun _=>0}
 |_=>none
abbrev jg6 (d:DyD×Unit×Unit)(x:Nat):=(d9 d.1.1 (nth d.1.2.2.1 (x:Int).toNat).1)
abbrev jll (d:DyD×Unit×Unit):=(d.1.1.1=d.1.1.1/\d.1.1.2.1=d.1.1.2.1/\d.1.1.2.2.1=d.1.1.2.2.1/\d.1.2.1=d.1.2.1/\d.1.2.2.1=d.1.2.2.1/\d.1.2.2.2.1=d.1.2.2.2.1/\d.1.q4.1=d.1.q4.1/\d.1.q4.2.1=d.1.q4.2.1/\True/\True/\True/\True)
abbrev jiM (d:DyD×Unit×Unit):=(d.1.1.2.1.length:Int)
abbrev jlm (d:DyD×Unit×Unit)(x:Nat):=(yU (d.1.1.1,d.1.1.2.1,d.1.1.2.2.1,d.1.2.1,d.1.2.2.1,d.1.2.2.2.1,d.1.q4.1,d.1.q4.2.1,yN d.1 x,List.replicate (jiM d).toNat [],U.noI,()))
abbrev jhA (d:DyD×Unit×Unit)(x:Nat):=(BO (d.1.1.1,d.1.1.2.1,d.1.1.2.2.1,d.1.2.1,d.1.2.2.1,d.1.2.2.2.1,d.1.q4.1,d.1.q4.2.1,yN d.1 x,List.replicate (jiM d).toNat [],U.noI,()) (cm (jlm d x)))
def L2:Prop:=∀(d:DyD×Unit×Unit),(qi d.1).length<=100000->(qi d.1).length<=100000/\(decide (qo d.1≠0)=true->(none,qo d.1,())=(uO d.1,qo d.1,())/\()=())/\(decide (qo d.1≠0)=false->0<=(jiM d)/\(jiM d)=(jiM d)/\(jiM d).toNat*24<=140737488355328/\((!true)=true->(!true)=true/\(!true)=true/\False)/\((!true)=false->(!true)=false/\(!true)=false/\(!true)=false/\(!true)=false/\(false=true->(none,(1:Int),())=(uO d.1,qo d.1,())/\()=())/\(qF->d.1.2.2.1.length<4611686018427387904->(∃(x:Nat),((0=(x:Int)/\True)/\(jll d)/\U.noI=[]/\yN d.1 x=[]/\True)/\x<=(wm d.1).length)/\∀(x:Nat),x<=(wm d.1).length->(decide ((x:Int)<d.1.2.2.1.length)=true->0<=(x:Int)/\(x:Int)<d.1.2.2.1.length/\((jg6 d x).length<4611686018427387904->(∃(a:Nat),((0=(a:Int)/\0=lS (jg6 d x) a/\True)/\True)/\a<=(jg6 d x).length)/\∀(a:Nat),a<=(jg6 d x).length->(decide ((a:Int)<(jg6 d x).length)=true->0<=(a:Int)/\(a:Int)<(jg6 d x).length/\0<=nth (jg6 d x) (a:Int).toNat/\nth (jg6 d x) (a:Int).toNat<=64/\wl ((1:Int)*2^(nth (jg6 d x) (a:Int).toNat).toNat)/\wl ((a:Int)+1)/\∃(b:Nat),(((a:Int)+1=(b:Int)/\bor (lS (jg6 d x) a) ((1:Int)*2^(nth (jg6 d x) (a:Int).toNat).toNat)=lS (jg6 d x) b/\True)/\True)/\b<=(jg6 d x).length/\(jg6 d x).length-b<(jg6 d x).length-a)/\(decide ((a:Int)<(jg6 d x).length)=false->((yN d.1 x).length+[lS (jg6 d x) a].length)*8<=140737488355328/\wl ((x:Int)+1)/\∃(b:Nat),(((x:Int)+1=(b:Int)/\True)/\U.noI=U.noI/\(jll d)/\yN d.1 x++[lS (jg6 d x) a]=yN d.1 b/\True)/\b<=(wm d.1).length/\(wm d.1).length-b<(wm d.1).length-x)))/\(decide ((x:Int)<d.1.2.2.1.length)=false->jbr (jlm d x)/\(some ((((jhA d x).1,(jhA d x).2.1,(jhA d x).2.2.1,()),(jhA d x).2.2.2.1,(jhA d x).q4.1,(jhA d x).q4.2.1,(jhA d x).q4.2.2.1,(jhA d x).q4.2.2.2.1,()),(jhA d x).q4.q4.1,(jhA d x).q4.q4.2.1,(jhA d x).q4.q4.2.2.1,()),(0:Int),())=(uO d.1,qo d.1,())/\()=()))))
theorem xH {l:List Int} {i:Nat} (h:i<l.length):lS l (i+1)=bor (lS l i) (1*2^(nth l i).toNat):=by
 unfold lS;rw[L.wQ h,jO];rfl
theorem Xv {d:DyD} {i:Nat} (h:i<(wm d).length):yN d (i+1)=yN d i++[Sy (d9 (ww d) (gg (nth (wm d) i)))]:=by
 unfold yN;rw[L.wQ h,zn];rfl
theorem jau (d:DyD) (i:Nat):(yN d i).length<=i:=by
 unfold yN;rw[zf,jZ];omega
theorem Xw {c:CrD} (h:wy c=true) {j:JbD} {p:Int} (a:p∈d9 c j):0<=p/\p<8:=by
 have d:=(qe h).2.2.1;unfold d9 at a
 split at a
 unfold dq at a;obtain⟨n,b,rfl⟩:=jS.1 a;have:=jE.1 (jP.1 b).1;omega;cases a
theorem jdl {c:CrD} (h:wy c=true) (j:JbD):(d9 c j).length<=8:=by
 have a:=(qe h).2.2.1;unfold d9
 split
 unfold dq;rw[zf];exact jF (zA _ _) (by simpa using a);exact jl _
theorem Xx {d:DyD} (h:qo d=0):jbr (NE d):=by
 refine⟨⟨h,?_⟩,⟨?_,fun x a=> ?_⟩,rfl⟩;show(yN d (wm d).length).length=(wm d).length;unfold yN;simp;show(jet d).length=(wj (ww d)).length;unfold jet;simp;have a:x∈jet d:=a;unfold jet at a;exact(List.mem_replicate.1 a).2
theorem Pg:L2:=by
 unfold L2 jhA jlm jiM jll jg6 Prod.q4;rintro⟨d,⟨⟩,⟨⟩⟩ j;refine⟨j,fun h=>⟨?_,rfl⟩,fun h=>⟨jU _,rfl,?_,fun c=>(by cases c),fun _=>⟨rfl,rfl,rfl,rfl,fun c=>(by cases c),fun _=> ?_⟩⟩⟩;have h:qo d≠0:=ja h;show(none,qo d,())=(uO d,qo d,());unfold uO;rw[jd h];have hk:qo d=0:=jM.1 (jc h);have e:=(qe (gX hk).1.1).2.2.1;have e:d.1.2.1.length<=8:=e;show((d.1.2.1.length:Int)).toNat*24<=140737488355328;omega;have hk:qo d=0:=jM.1 (jc h);clear j h;have f:=(gX hk).1;have r:=f.2.2;have g:(wm d).length<=4:=(yr r).1;have n:d.2.2.1.length<=4:=g;refine fun _=>⟨⟨0,⟨⟨rfl,tZ⟩,⟨rfl,rfl,rfl,rfl,rfl,rfl,rfl,rfl,tZ,tZ,tZ,tZ⟩,rfl,rfl,tZ⟩,jl _⟩,fun x o=>⟨fun h=>⟨by omega,ja h,fun _=>⟨⟨0,⟨⟨rfl,rfl,tZ⟩,tZ⟩,jl _⟩,fun y p=>⟨fun a=> ?_,fun a=> ?_⟩⟩⟩,fun h=> ?_⟩⟩
 have a:(y:Int)<(d9 (ww d) (nth d.2.2.1 (x:Int).toNat).1).length:=ja a;have b:y<(d9 (ww d) (nth d.2.2.1 (x:Int).toNat).1).length:=(by omega);have s:=Xw f.1 (L.wh b);have k:=xH b;have e:=jdl f.1 (nth d.2.2.1 (x:Int).toNat).1;have q:BT.qm ((2:Int)^(nth (d9 (ww d) (nth d.2.2.1 (x:Int).toNat).1) y).toNat):=BT.lC (by omega);unfold BT.qm at q;exact⟨by omega,a,s.1,by show nth (d9 (ww d) (nth d.2.2.1 (x:Int).toNat).1) y<=64;omega,by show wl (1*2^(nth (d9 (ww d) (nth d.2.2.1 (x:Int).toNat).1) y).toNat);rw[nB];exact iZ6,iZ6,y+1,⟨⟨by simp,k.symm,tZ⟩,tZ⟩,by show y+1<=(d9 (ww d) (nth d.2.2.1 (x:Int).toNat).1).length;omega,by show(d9 (ww d) (nth d.2.2.1 (x:Int).toNat).1).length-(y+1)<(d9 (ww d) (nth d.2.2.1 (x:Int).toNat).1).length-y;omega⟩;have h:(x:Int)<(wm d).length:=ja h;have k:=Xv (d:=d) (i:=x) (by omega);have j:=jau d x;have p:y<=(d9 (ww d) (nth d.2.2.1 (x:Int).toNat).1).length:=p;have a:¬(y:Int)<(d9 (ww d) (nth d.2.2.1 (x:Int).toNat).1).length:=jc a;have m:y=(d9 (ww d) (nth d.2.2.1 (x:Int).toNat).1).length:=(by omega);subst m;refine⟨?_,iZ6,x+1,⟨⟨by simp,tZ⟩,rfl,⟨rfl,rfl,rfl,rfl,rfl,rfl,rfl,rfl,tZ,tZ,tZ,tZ⟩,k.symm,tZ⟩,by show x+1<=(wm d).length;omega,by show(wm d).length-(x+1)<(wm d).length-x;omega⟩;show((yN d x).length+1)*8<=140737488355328;omega;have h:¬(x:Int)<(wm d).length:=jc h;have o:x<=(wm d).length:=o;have l:x=(wm d).length:=(by omega);subst l;refine⟨Xx hk,?_⟩;refine⟨?_,rfl⟩;show(some (Vv d),(0:Int),())=(uO d,qo d,());unfold uO;rw[je hk,hk]
theorem Ax:ax PR 105 L1:=tD Xu Pg Tryz.func105 (kcC Hz (kcC jaj kcN)) (koC xG koN)
namespace U
def aY (d:DyD) (n:Nat):List Int:=(List.range n).map (fun(b:Nat)=>eN (cf (Vv d)) (b:Int))
def dJ (d:DyD):List Int:=if qo d=0 then aY d (wm d).length else[]
def Sz (d:DyD) (b:Nat):Bool:=E9 d (b:Int) (eN (cf (Vv d)) (b:Int))
def aK (d:DyD) (n:Nat):List Int:=((List.range n).filter (Sz d)).map (fun(b:Nat)=>(b:Int))
def wb (d:DyD):List Int:=if qo d=0 then aK d (wm d).length else[]
def Ni (d:DyD) (p:Int):Bool:=wa p 0 (((wj (ww d)).length:Int)-1)
def Ze (d:DyD) (b:Int):Bool:=wa b 0 (((wm d).length:Int)-1)
end U
def TM:w4:=⟨[.val tDy],[.slice .int,.int],false,fun d=>[(qi d.1).length<=100000],fun d=>(dJ d.1,qo d.1,())⟩
def TN:Ann:=fun r=>match r with
 |6=>some fun σ=>{X:=Nat,sl:=fun i=>[(19,.dat .int (i:Int)),(6,.own 6 .int)],ob:=fun i=>[(6,some (.row 3 .int false .yes (aY (gb tDy σ 1) i)))],inv:=fun i=>i<=(wm (gb tDy σ 1)).length,mu:=fun i=>(wm (gb tDy σ 1)).length-i}
 |_=>none
def TO:Prop:=∀(d:DyD×Unit),(qi d.1).length<=100000->(qi d.1).length<=100000/\(decide (qo d.1≠0)=true->([],qo d.1,())=(dJ d.1,qo d.1,()))/\(decide (qo d.1≠0)=false->d.1.2.2.1.length<4611686018427387904->(∃(x:Nat),((0=(x:Int)/\True/\True)/\aY d.1 x=[]/\True)/\x<=(wm d.1).length)/\∀(x:Nat),x<=(wm d.1).length->(decide ((x:Int)<d.1.2.2.1.length)=true->(uO d.1).isSome=true/\(cf (U.ro (uO d.1))).length<=60/\((aY d.1 x).length+[eN (cf (U.ro (uO d.1))) (x:Int)].length)*8<=140737488355328/\wl ((x:Int)+1)/\∃(a:Nat),(((x:Int)+1=(a:Int)/\True/\True)/\aY d.1 x++[eN (cf (U.ro (uO d.1))) (x:Int)]=aY d.1 a/\True)/\a<=(wm d.1).length/\(wm d.1).length-a<(wm d.1).length-x)/\(decide ((x:Int)<d.1.2.2.1.length)=false->(aY d.1 x,(0:Int),())=(dJ d.1,qo d.1,())))
def Ph:w4:=⟨[.val tDy],[.slice .int,.int],false,fun d=>[(qi d.1).length<=100000],fun d=>(wb d.1,qo d.1,())⟩
def Pi:Ann:=fun r=>match r with
 |6=>some fun σ=>{X:=Nat,sl:=fun i=>[(19,.dat .int (i:Int)),(6,.own 6 .int)],ob:=fun i=>[(6,some (.row 3 .int false .yes (aK (gb tDy σ 1) i)))],inv:=fun i=>i<=(wm (gb tDy σ 1)).length,mu:=fun i=>(wm (gb tDy σ 1)).length-i}
 |_=>none
def Pj:Prop:=∀(d:DyD×Unit),(qi d.1).length<=100000->(qi d.1).length<=100000/\(decide (qo d.1≠0)=true->([],qo d.1,())=(wb d.1,qo d.1,()))/\(decide (qo d.1≠0)=false->d.1.2.2.1.length<4611686018427387904->(∃(x:Nat),((0=(x:Int)/\True/\True)/\aK d.1 x=[]/\True)/\x<=(wm d.1).length)/\∀(x:Nat),x<=(wm d.1).length->(decide ((x:Int)<d.1.2.2.1.length)=true->(uO d.1).isSome=true/\(cf (U.ro (uO d.1))).length<=60/\(uO d.1).isSome=true/\aM (U.rd (U.ro (uO d.1))) (x:Int)/\(E9 (U.rd (U.ro (uO d.1))) (x:Int) (eN (cf (U.ro (uO d.1))) (x:Int))=true->((aK d.1 x).length+[(x:Int)].length)*8<=140737488355328/\wl ((x:Int)+1)/\∃(a:Nat),(((x:Int)+1=(a:Int)/\True/\True)/\aK d.1 x++[(x:Int)]=aK d.1 a/\True)/\a<=(wm d.1).length/\(wm d.1).length-a<(wm d.1).length-x)/\(E9 (U.rd (U.ro (uO d.1))) (x:Int) (eN (cf (U.ro (uO d.1))) (x:Int))=false->wl ((x:Int)+1)/\∃(a:Nat),((True/\(x:Int)+1=(a:Int)/\True)/\aK d.1 x=aK d.1 a/\True)/\a<=(wm d.1).length/\(wm d.1).length-a<(wm d.1).length-x))/\(decide ((x:Int)<d.1.2.2.1.length)=false->(aK d.1 x,(0:Int),())=(wb d.1,qo d.1,())))
theorem Pk {r:RoD} {l:List ShD} (d:qG (U.rd r)=true) (e:∀s∈l,s∈qi (U.rd r)) (nd:l.Nodup) (a:(cf r).length=(wj (ww (U.rd r))).length) (b:jea (cf r)) (c:jgf r=U.noI):
 ∀i,i<=l.length->eg r l i (yR r l i)
 |0,_=>Xs a b c
 |i+1,hi=>by
  rw[ue hi]
  exact jbT d e nd hi (Pk d e nd a b c i (by omega))
structure jdm (d:DyD):Prop where
 may:Sx (Vv d)
 len:(cf (Vv d)).length=(wj (ww d)).length
 row:∀p,(nth (cf (Vv d)) p).Nodup/\∀b∈nth (cf (Vv d)) p,aM d b
theorem Xy {d:DyD} (h:qo d=0):jdm d:=by
 obtain⟨⟨_,i⟩,⟨j,c⟩,e⟩:=Xx h;have f:=(gX h).1;have a:=Pk (r:=NE d) (l:=vL d) f.2.2 (fun s k=>lr.1 k) (fX d) j c e _ (jj _);refine⟨⟨f,i⟩,a.1,fun p=> ?_⟩;have:=a.2.2 p;exact⟨this.1,fun b g=>(this.2 b g).1⟩
theorem jdm.len60 {d:DyD} (h:jdm d):(cf (Vv d)).length<=60:=by
 have a:=(qe h.may.1.1).2.2.1;have a:(wj (ww d)).length<=8:=a;rw[h.len];omega
theorem jbV {d:DyD} (h:qo d=0):uO d=some (Vv d):=je h
theorem TP (d:DyD) (n:Nat):aY d (n+1)=aY d n++[eN (cf (Vv d)) (n:Int)]:=by
 unfold aY;rw[j8,zn];rfl
theorem Xz:TO:=by
 rintro⟨d,⟨⟩⟩ j;refine⟨j,fun h=> ?_,fun h _=>⟨⟨0,⟨⟨rfl,tZ,tZ⟩,rfl,tZ⟩,jl _⟩,fun x g=>⟨fun a=> ?_,fun a=> ?_⟩⟩⟩;have h:qo d≠0:=ja h;show([],qo d,())=(dJ d,qo d,());unfold dJ;rw[jd h];have hk:qo d=0:=jM.1 (jc h);have f:=Xy hk;have i:(wm d).length<=4:=(yr f.may.1.2.2).1;have a:(x:Int)<(wm d).length:=ja a;have k:=TP d x;have e:(aY d x).length=x:=(by unfold aY;simp);have b:=jbV hk;refine⟨by show(uO d).isSome=true;rw[b];rfl,by show(cf (U.ro (uO d))).length<=60;rw[b];exact f.len60,?_,iZ6,x+1,⟨⟨by simp,tZ,tZ⟩,?_,tZ⟩,by show x+1<=(wm d).length;omega,by show(wm d).length-(x+1)<(wm d).length-x;omega⟩;show((aY d x).length+1)*8<=_;omega;show aY d x++[eN (cf (U.ro (uO d))) (x:Int)]=aY d (x+1);rw[b,k];rfl;have hk:qo d=0:=jM.1 (jc h);have g:x<=(wm d).length:=g;have a:¬(x:Int)<(wm d).length:=jc a;have c:x=(wm d).length:=(by omega);subst c;show(aY d _,(0:Int),())=(dJ d,qo d,());unfold dJ;rw[je hk,hk]
theorem TQ:w9 PR 66 TM:=vb TN Xz Tryz.func66 (kcC lM kcN) (koC Ax koN)
theorem TR (d:DyD) (n:Nat):aK d (n+1)=aK d n++(if Sz d n=true then[(n:Int)] else[]):=by
 unfold aK;rw[L.yt,zn];by_cases h:Sz d n=true;rw[je h,je h];rfl;rw[jd h,jd h];rfl
theorem TS:Pj:=by
 rintro⟨d,⟨⟩⟩ p;refine⟨p,fun h=> ?_,fun h _=>⟨⟨0,⟨⟨rfl,tZ,tZ⟩,rfl,tZ⟩,jl _⟩,fun x m=>⟨fun b=> ?_,fun b=> ?_⟩⟩⟩;have h:qo d≠0:=ja h;show([],qo d,())=(wb d,qo d,());unfold wb;rw[jd h];have hk:qo d=0:=jM.1 (jc h);have l:=Xy hk;have o:(wm d).length<=4:=(yr l.may.1.2.2).1;have b:(x:Int)<(wm d).length:=ja b;have e:=TR d x;have k:(aK d x).length<=x:=by
  unfold aK;rw[zf];exact jF (zA _ _) (by simp)
 have c:=jbV hk;have i:(uO d).isSome=true:=(by rw[c];rfl);have e2:(cf (U.ro (uO d))).length<=60:=(by rw[c];exact l.len60);have n:aM (U.rd (U.ro (uO d))) (x:Int):=(by rw[c];exact⟨by omega,b⟩);have j:E9 (U.rd (U.ro (uO d))) (x:Int) (eN (cf (U.ro (uO d))) (x:Int))=Sz d x:=(by rw[c];rfl);have up:x+1<=(wm d).length:=(by omega);have g:(wm d).length-(x+1)<(wm d).length-x:=(by omega);refine⟨i,e2,i,n,fun a=> ?_,fun a=> ?_⟩;have a:Sz d x=true:=(by rw[<-j];exact a);refine⟨?_,iZ6,x+1,⟨⟨by simp,tZ,tZ⟩,?_,tZ⟩,up,g⟩;show((aK d x).length+1)*8<=_;omega;rw[je a] at e;exact e.symm;have a:Sz d x=false:=(by rw[<-j];exact a);refine⟨iZ6,x+1,⟨⟨tZ,by simp,tZ⟩,?_,tZ⟩,up,g⟩;rw[jd (by rw[a];simp),j6] at e;exact e.symm;have hk:qo d=0:=jM.1 (jc h);have m:x<=(wm d).length:=m;have b:¬(x:Int)<(wm d).length:=jc b;have f:x=(wm d).length:=(by omega);subst f;show(aK d _,(0:Int),())=(wb d,qo d,());unfold wb;rw[je hk,hk]
theorem Pl:w9 PR 67 Ph:=vb Pi TS Tryz.func67 (kcC lM (kcC Bm kcN)) (koC Ax koN)
theorem rY {l:List Int} (h:∀p∈l,0<=p/\p<8):∀n,n<=l.length->BT.qm (lS l n)/\∀q,BT.has (lS l n) q=true->q<8
 |0,_=>⟨BT.Ff,fun q a=>by rw[show lS l 0=0 from rfl,BT.uL] at a;cases a⟩
 |n+1,d=>by
  have b:=rY h n (by omega)
  have e:=h _ (L.wh (l:=l) (i:=n) (by omega))
  have c:BT.qm ((2:Int)^(nth l n).toNat):=BT.lC (by omega)
  rw[xH (by omega),nB]
  refine⟨BT.bor_set b.1 c,fun q a=> ?_⟩
  rw[BT.has_bor b.1 c,zt,BT.Cj,jp] at a
  rcases a with a|a
  exact b.2 q a
  omega
end Go.X
namespace Go.X
open U
open Go.Proofs
end Go.X
namespace Go.X
open U
open Go.Proofs
end Go.X
