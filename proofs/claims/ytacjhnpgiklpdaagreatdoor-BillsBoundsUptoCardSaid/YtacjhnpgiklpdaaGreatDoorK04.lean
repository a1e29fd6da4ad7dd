/-
  Part 4 of the road: a checked reading of bodies, and what the functions on it do (T L BT BS NL DF RC FX A1 P1 A2 P2 A4 P4 A5 P5 A3 P6 CM MP O1 B1 P7 IS B2 P8 B3 P9 DI B4 P10 B5 P11 B6 P12 P13 B7 P14 B8 P15 C1 PC1 PC2 PC3).
-/
import Derived.Test.YtacjhnpgiklpdaaGreatDoorK03
import Derived.Test.YtacjhnpgiklpdaaGreatDoorProg
import Derived.KernelRfl
import Derived.Shelf.SlSortCmp.WholeK
import Derived.Shelf.Sort.Plain
namespace Go.X
open U
open Go.Proofs
abbrev bT:=true
abbrev bF:=false
abbrev vO:Value:=.int .i64 0
abbrev qy0:Ty:=.ptr (.uint .u8)
abbrev qy1:Ty:=.st [.int,.int]
abbrev qy2:Ty:=.ptr (.uint .u64)
abbrev qy3:Ty:=.slice (.slice .int)
abbrev qy4:Ty:=.st [.int,.int,.int]
abbrev qy5:Ty:=.st [.int,.int,.bool]
abbrev qy6:Ty:=.slice qy1
abbrev qy7:Ty:=.slice qy4
abbrev qy8:Ty:=.slice qy5
abbrev qy9:Ty:=.st [.int,.int,.int,.int,.int]
abbrev qy10:Ty:=.st [.int,.int,.bool,.uint .u8]
abbrev qy11:Ty:=.map .int qy4
abbrev qy12:Ty:=.slice qy6
abbrev qy13:Ty:=.st [.int,.int,.int,.int,.int,.int]
abbrev qy14:Ty:=.slice qy9
abbrev qy15:Ty:=.slice qy13
abbrev qy16:Ty:=.st [.slice .int,.int,.int,.slice .int,.bool,.int]
abbrev qy17:Ty:=.map qy1 qy9
abbrev qy18:Ty:=.st [qy13,.int,.int,.int]
abbrev qy19:Ty:=.slice qy16
abbrev qy20:Ty:=.slice qy18
abbrev qy21:Ty:=.st [.int,.int,.int,.int,.int,.int,.int,.int,.slice .int,qy6]
abbrev qy22:Ty:=.st [.int,qy19,qy8]
abbrev qy23:Ty:=.st [qy22,qy13,qy5]
abbrev qy24:Ty:=.ptr qy23
abbrev qy25:Ty:=.st [qy18,qy21,.int,.int,.slice .int,.int,.int,.bool,.int]
abbrev qy26:Ty:=.ptr qy25
abbrev qy27:Ty:=.map .int qy26
abbrev qy28:Ty:=.st [qy22,qy12,qy20,.int,.int,qy14]
abbrev qy29:Ty:=.st [qy28,.slice .int,qy3,.slice .int]
abbrev qy30:Ty:=.ptr qy29
abbrev qy31:Ty:=.st [qy28,.slice .int,.slice .int,qy21,qy7]
abbrev qy32:Ty:=.st [qy31,qy27]
def rr (i:Nat)(t:Ty)(n:Nat)(a:Bool)(f:List (Nat×Nat))(s:Bool)(e b:Nat)(z:List Value)(c m:Bool)(k:Nat)(q:Bool):TI:=⟨i,t,n,a,f,s,e,b,z,c,m,k,q,false,false,false⟩
def rf (i:Nat):TI:=⟨i,.unit,1,false,[],false,0,8,[.nilFunc],false,false,0,false,false,false,true⟩
def rq (i:Nat):TI:=⟨i,.unit,1,false,[],false,0,8,[.pointer none],false,false,0,false,false,true,false⟩
def ti:List TI:=[
 rf 1,
 rr 2 .int 1 bF [] bF 0 8 [vO] bF bF 0 bT,
 rr 3 .int 1 bF [] bF 0 8 [vO] bF bF 0 bT,
 rr 4 .bool 1 bF [] bF 0 1 [.bool false] bT bF 0 bF,
 rr 5 (.uint .u8) 1 bF [] bF 0 1 [.int .u8 0] bF bF 0 bF,
 rr 6 (.uint .u8) 1 bF [] bF 0 1 [.int .u8 0] bF bF 0 bF,
 rr 7 qy10 4 bT [(0,2),(1,3),(2,4),(3,6)] bF 0 24 [vO,vO,.bool false,.int .u8 0] bT bF 0 bT,
 rr 8 qy10 4 bT [(0,2),(1,3),(2,4),(3,6)] bF 0 24 [vO,vO,.bool false,.int .u8 0] bT bF 0 bT,
 rr 12 (.uint .u64) 1 bF [] bF 0 8 [.int .u64 0] bF bF 0 bF,
 rq 15,
 rq 16,
 rq 17,
 rr 18 .unit 1 bT [(0,17)] bF 0 8 [.pointer none] bF bF 0 bF,
 rr 19 .unit 1 bT [(0,17)] bF 0 8 [.pointer none] bF bF 0 bF,
 rr 21 (.uint .i32) 1 bF [] bF 0 4 [.int .i32 0] bF bF 0 bF,
 rr 22 qy19 1 bF [] bT 136 24 [.slice none 0 0] bF bF 0 bF,
 rr 23 qy8 1 bF [] bT 145 24 [.slice none 0 0] bF bF 0 bF,
 rr 24 qy22 3 bT [(0,3),(1,22),(2,23)] bF 0 56 [vO,.slice none 0 0,.slice none 0 0] bF bF 0 bF,
 rr 25 qy22 3 bT [(0,3),(1,22),(2,23)] bF 0 56 [vO,.slice none 0 0,.slice none 0 0] bF bF 0 bF,
 rr 26 qy12 1 bF [] bT 107 24 [.slice none 0 0] bF bF 0 bF,
 rr 27 qy20 1 bF [] bT 65 24 [.slice none 0 0] bF bF 0 bF,
 rr 28 qy14 1 bF [] bT 134 24 [.slice none 0 0] bF bF 0 bF,
 rr 29 qy28 8 bT [(0,25),(3,26),(4,27),(5,3),(6,3),(7,28)] bF 0 144 [vO,.slice none 0 0,.slice none 0 0,.slice none 0 0,.slice none 0 0,vO,vO,.slice none 0 0] bF bF 0 bF,
 rr 30 qy28 8 bT [(0,25),(3,26),(4,27),(5,3),(6,3),(7,28)] bF 0 144 [vO,.slice none 0 0,.slice none 0 0,.slice none 0 0,.slice none 0 0,vO,vO,.slice none 0 0] bF bF 0 bF,
 rr 31 (.slice .int) 1 bF [] bT 3 24 [.slice none 0 0] bF bF 0 bF,
 rr 32 qy6 1 bF [] bT 87 24 [.slice none 0 0] bF bF 0 bF,
 rr 33 qy21 10 bT [(0,3),(1,3),(2,3),(3,3),(4,3),(5,3),(6,3),(7,3),(8,31),(9,32)] bF 0 112 [vO,vO,vO,vO,vO,vO,vO,vO,.slice none 0 0,.slice none 0 0] bF bF 0 bF,
 rr 34 qy21 10 bT [(0,3),(1,3),(2,3),(3,3),(4,3),(5,3),(6,3),(7,3),(8,31),(9,32)] bF 0 112 [vO,vO,vO,vO,vO,vO,vO,vO,.slice none 0 0,.slice none 0 0] bF bF 0 bF,
 rr 35 qy7 1 bF [] bT 95 24 [.slice none 0 0] bF bF 0 bF,
 rr 36 qy31 21 bT [(0,30),(8,31),(9,31),(10,34),(20,35)] bF 0 328 [vO,.slice none 0 0,.slice none 0 0,.slice none 0 0,.slice none 0 0,vO,vO,.slice none 0 0,.slice none 0 0,.slice none 0 0,vO,vO,vO,vO,vO,vO,vO,vO,.slice none 0 0,.slice none 0 0,.slice none 0 0] bF bF 0 bF,
 rr 37 qy31 21 bT [(0,30),(8,31),(9,31),(10,34),(20,35)] bF 0 328 [vO,.slice none 0 0,.slice none 0 0,.slice none 0 0,.slice none 0 0,vO,vO,.slice none 0 0,.slice none 0 0,.slice none 0 0,vO,vO,vO,vO,vO,vO,vO,vO,.slice none 0 0,.slice none 0 0,.slice none 0 0] bF bF 0 bF,
 rr 38 qy4 3 bT [(0,3),(1,3),(2,3)] bF 0 24 [vO,vO,vO] bT bF 0 bT,
 rr 39 qy4 3 bT [(0,3),(1,3),(2,3)] bF 0 24 [vO,vO,vO] bT bF 0 bT,
 rf 40,
 rf 41,
 rf 42,
 rr 43 .int 1 bF [] bF 0 8 [vO] bF bF 0 bT,
 rf 45,
 rf 46,
 rf 47,
 rf 49,
 rf 51,
 rf 52,
 rf 53,
 rr 54 qy15 1 bF [] bT 61 24 [.slice none 0 0] bF bF 0 bF,
 rf 56,
 rf 57,
 rf 58,
 rf 59,
 rr 60 qy13 6 bT [(0,3),(1,3),(2,3),(3,3),(4,3),(5,3)] bF 0 48 [vO,vO,vO,vO,vO,vO] bT bF 0 bT,
 rr 61 qy13 6 bT [(0,3),(1,3),(2,3),(3,3),(4,3),(5,3)] bF 0 48 [vO,vO,vO,vO,vO,vO] bT bF 0 bT,
 rr 62 qy13 6 bT [(0,3),(1,3),(2,3),(3,3),(4,3),(5,3)] bF 0 48 [vO,vO,vO,vO,vO,vO] bT bF 0 bT,
 rr 63 qy13 6 bT [(0,3),(1,3),(2,3),(3,3),(4,3),(5,3)] bF 0 48 [vO,vO,vO,vO,vO,vO] bT bF 0 bT,
 rr 64 qy18 9 bT [(0,63),(6,3),(7,3),(8,3)] bF 0 72 [vO,vO,vO,vO,vO,vO,vO,vO,vO] bT bF 0 bT,
 rr 65 qy18 9 bT [(0,63),(6,3),(7,3),(8,3)] bF 0 72 [vO,vO,vO,vO,vO,vO,vO,vO,vO] bT bF 0 bT,
 rf 67,
 rf 68,
 rf 69,
 rf 70,
 rr 71 qy27 1 bF [] bF 79 8 [.map none] bF bT 3 bF,
 rr 72 qy32 22 bT [(0,37),(21,71)] bF 0 336 [vO,.slice none 0 0,.slice none 0 0,.slice none 0 0,.slice none 0 0,vO,vO,.slice none 0 0,.slice none 0 0,.slice none 0 0,vO,vO,vO,vO,vO,vO,vO,vO,.slice none 0 0,.slice none 0 0,.slice none 0 0,.map none] bF bF 0 bF,
 rr 73 qy32 22 bT [(0,37),(21,71)] bF 0 336 [vO,.slice none 0 0,.slice none 0 0,.slice none 0 0,.slice none 0 0,vO,vO,.slice none 0 0,.slice none 0 0,.slice none 0 0,vO,vO,vO,vO,vO,vO,vO,vO,.slice none 0 0,.slice none 0 0,.slice none 0 0,.map none] bF bF 0 bF,
 rf 75,
 rf 76,
 rf 77,
 rf 78,
 {rr 79 qy26 1 bF [] bF 0 8 [.pointer none] bF bF 0 bF with pt:=true},
 rf 80,
 rf 81,
 rf 82,
 rf 83,
 rr 84 qy25 26 bT [(0,65),(9,34),(19,3),(20,3),(21,31),(22,3),(23,3),(24,4),(25,3)] bF 0 256 [vO,vO,vO,vO,vO,vO,vO,vO,vO,vO,vO,vO,vO,vO,vO,vO,vO,.slice none 0 0,.slice none 0 0,vO,vO,.slice none 0 0,vO,vO,.bool false,vO] bF bF 0 bF,
 rr 85 qy25 26 bT [(0,65),(9,34),(19,3),(20,3),(21,31),(22,3),(23,3),(24,4),(25,3)] bF 0 256 [vO,vO,vO,vO,vO,vO,vO,vO,vO,vO,vO,vO,vO,vO,vO,vO,vO,.slice none 0 0,.slice none 0 0,vO,vO,.slice none 0 0,vO,vO,.bool false,vO] bF bF 0 bF,
 rr 86 qy1 2 bT [(0,3),(1,3)] bF 0 16 [vO,vO] bT bF 0 bT,
 rr 87 qy1 2 bT [(0,3),(1,3)] bF 0 16 [vO,vO] bT bF 0 bT,
 rf 88,
 rf 89,
 rf 90,
 rf 91,
 rr 92 (.uint .u64) 1 bF [] bF 0 8 [.int .u64 0] bF bF 0 bF,
 rf 93,
 rr 94 qy4 3 bT [(0,3),(1,3),(2,3)] bF 0 24 [vO,vO,vO] bT bF 0 bT,
 rr 95 qy4 3 bT [(0,3),(1,3),(2,3)] bF 0 24 [vO,vO,vO] bT bF 0 bT,
 rf 96,
 rf 97,
 rf 98,
 rf 99,
 rr 100 qy11 1 bF [] bF 95 8 [.map none] bF bT 3 bF,
 rf 102,
 rf 103,
 rf 104,
 rf 105,
 rf 106,
 rr 107 qy6 1 bF [] bT 131 24 [.slice none 0 0] bF bF 0 bF,
 rf 108,
 rf 109,
 rf 110,
 rf 111,
 rf 112,
 rf 113,
 rf 115,
 rf 116,
 rf 117,
 rf 118,
 rf 119,
 rf 120,
 rf 121,
 rf 122,
 rf 123,
 rf 124,
 rf 125,
 rf 126,
 rr 127 qy15 1 bF [] bT 63 24 [.slice none 0 0] bF bF 0 bF,
 rf 129,
 rr 130 qy1 2 bT [(0,3),(1,3)] bF 0 16 [vO,vO] bT bF 0 bT,
 rr 131 qy1 2 bT [(0,3),(1,3)] bF 0 16 [vO,vO] bT bF 0 bT,
 rf 132,
 rr 133 qy9 5 bT [(0,3),(1,3),(2,3),(3,3),(4,3)] bF 0 40 [vO,vO,vO,vO,vO] bT bF 0 bT,
 rr 134 qy9 5 bT [(0,3),(1,3),(2,3),(3,3),(4,3)] bF 0 40 [vO,vO,vO,vO,vO] bT bF 0 bT,
 rr 135 qy16 6 bT [(0,31),(1,3),(2,3),(3,31),(4,4),(5,3)] bF 0 80 [.slice none 0 0,vO,vO,.slice none 0 0,.bool false,vO] bF bF 0 bF,
 rr 136 qy16 6 bT [(0,31),(1,3),(2,3),(3,31),(4,4),(5,3)] bF 0 80 [.slice none 0 0,vO,vO,.slice none 0 0,.bool false,vO] bF bF 0 bF,
 {rr 137 qy30 1 bF [] bF 0 8 [.pointer none] bF bF 0 bF with pt:=true},
 rf 139,
 rf 140,
 rf 141,
 rf 142,
 rf 143,
 rr 144 qy5 3 bT [(0,3),(1,3),(2,4)] bF 0 24 [vO,vO,.bool false] bT bF 0 bT,
 rr 145 qy5 3 bT [(0,3),(1,3),(2,4)] bF 0 24 [vO,vO,.bool false] bT bF 0 bT,
 rf 146,
 rf 147,
 rf 148,
 rf 149,
 rf 150,
 rf 151,
 rf 152,
 rf 153,
 rf 154,
 rf 155,
 rf 156,
 rr 157 (.map .int .int) 1 bF [] bF 3 8 [.map none] bF bT 3 bF,
 rf 158,
 rf 159,
 rf 160,
 rf 161,
 rf 162,
 rf 163,
 rf 164,
 rf 165,
 rr 166 qy3 1 bF [] bT 31 24 [.slice none 0 0] bF bF 0 bF,
 rr 167 qy29 11 bT [(0,30),(8,31),(9,166),(10,31)] bF 0 216 [vO,.slice none 0 0,.slice none 0 0,.slice none 0 0,.slice none 0 0,vO,vO,.slice none 0 0,.slice none 0 0,.slice none 0 0,.slice none 0 0] bF bF 0 bF,
 rr 168 qy29 11 bT [(0,30),(8,31),(9,166),(10,31)] bF 0 216 [vO,.slice none 0 0,.slice none 0 0,.slice none 0 0,.slice none 0 0,vO,vO,.slice none 0 0,.slice none 0 0,.slice none 0 0,.slice none 0 0] bF bF 0 bF,
 rf 169,
 rf 170,
 rf 171,
 rf 172,
 rf 173,
 rf 174,
 rf 175,
 rf 176,
 rf 177,
 rf 178,
 rf 179,
 rf 180,
 rf 181,
 rr 182 .int 1 bF [] bF 0 8 [vO] bF bF 0 bT,
 rf 184,
 rf 185,
 rf 186,
 rf 187,
 rf 188,
 rr 189 (.uint .u32) 1 bF [] bF 0 4 [.int .u32 0] bF bF 0 bF,
 rf 190,
 rr 191 (.uint .u64) 1 bF [] bF 0 8 [.int .u64 0] bF bF 0 bF,
 {rr 192 qy24 1 bF [] bF 0 8 [.pointer none] bF bF 0 bF with pt:=true},
 rf 194,
 rr 195 (.uint .u64) 1 bF [] bF 0 8 [.int .u64 0] bF bF 0 bF,
 rf 196,
 rr 197 qy17 1 bF [] bF 134 8 [.map none] bF bT 199 bF,
 rr 198 qy1 2 bT [(0,3),(1,3)] bF 0 16 [vO,vO] bT bF 0 bT,
 rr 199 qy1 2 bT [(0,3),(1,3)] bF 0 16 [vO,vO] bT bF 0 bT,
 rf 200,
 rf 201,
 rf 202,
 rf 203,
 rf 204,
 rf 205,
 rf 206,
 rf 207,
 rf 208,
 rf 209,
 rf 210,
 rf 211,
 rf 212,
 rr 213 (.uint .u64) 1 bF [] bF 0 8 [.int .u64 0] bF bF 0 bF,
 rf 214,
 rf 215,
 rf 216,
 {rr 217 (.ptr .int) 1 bF [] bF 0 8 [.pointer none] bF bF 0 bF with pt:=true},
 rf 218,
 rr 219 qy23 12 bT [(0,25),(3,63),(9,145)] bF 0 128 [vO,.slice none 0 0,.slice none 0 0,vO,vO,vO,vO,vO,vO,vO,vO,.bool false] bF bF 0 bF,
 rr 220 qy23 12 bT [(0,25),(3,63),(9,145)] bF 0 128 [vO,.slice none 0 0,.slice none 0 0,vO,vO,vO,vO,vO,vO,vO,vO,.bool false] bF bF 0 bF,
 rf 221,
 rf 222,
 rf 223,
 rf 224,
 rf 225,
 rf 226,
 rf 227,
 rf 228,
 rf 229,
 rf 230,
 {rr 231 qy2 1 bF [] bF 0 8 [.pointer none] bF bF 0 bF with pt:=true},
 rf 233,
 rf 234,
 rf 235,
 rf 236,
 rf 237,
 rf 238,
 rf 239,
 rf 240,
 rf 241,
 rf 242,
 rf 243,
 rf 244,
 rf 245,
 rf 246,
 rf 247,
 rf 248,
 rf 249,
 rf 251,
 rf 252,
 rf 253,
 rf 254,
 rf 256,
 rf 258,
 rf 259,
 rf 260,
 rf 261,
 rf 262,
 rf 263,
 rf 264,
 rf 265,
 rf 266,
 rf 267,
 rr 271 .unit 0 bT [(0,270)] bF 0 0 [] bF bF 0 bF,
 rr 272 .unit 0 bT [(0,270)] bF 0 0 [] bF bF 0 bF,
 rr 273 (.uint .u8) 1 bF [] bF 0 1 [.int .u8 0] bF bF 0 bF,
 rr 274 (.uint .u8) 1 bF [] bF 0 1 [.int .u8 0] bF bF 0 bF,
 rf 275,
 {rr 276 qy0 1 bF [] bF 0 8 [.pointer none] bF bF 0 bF with pt:=true},
 rr 277 (.uint .i32) 1 bF [] bF 0 4 [.int .i32 0] bF bF 0 bF,
 rr 278 (.uint .i32) 1 bF [] bF 0 4 [.int .i32 0] bF bF 0 bF,
 rr 279 .unit 11 bT [(0,12),(1,12),(2,189),(3,273),(4,5),(5,5),(6,274),(7,275),(8,276),(9,277),(10,278)] bF 0 48 [.int .u64 0,.int .u64 0,.int .u32 0,.int .u8 0,.int .u8 0,.int .u8 0,.int .u8 0,.nilFunc,.pointer none,.int .i32 0,.int .i32 0] bF bF 0 bF,
 rr 280 .unit 11 bT [(0,12),(1,12),(2,189),(3,273),(4,5),(5,5),(6,274),(7,275),(8,276),(9,277),(10,278)] bF 0 48 [.int .u64 0,.int .u64 0,.int .u32 0,.int .u8 0,.int .u8 0,.int .u8 0,.int .u8 0,.nilFunc,.pointer none,.int .i32 0,.int .i32 0] bF bF 0 bF,
 rf 281,
 rf 283]
def strs:List Nat:=[9,10,11]
noncomputable abbrev PR:Program:=Tryz.prog
theorem Vs:ti.all (jaT PR)=true:=by kernel_rfl
def Yj (P:Program) (k:Nat):Bool:=match P.underlying k with|some .string=>true|_=>false
theorem Sm {P:Program} {l:List Nat} (a:l.all (Yj P)=true) (T:Nat) (h:aX l T=true):P.underlying T=some .string:=by
 have:=j6.1 a T ((vE _ _).1 h);unfold Yj at this
 split at this
 assumption
 cases this
theorem Yk:strs.all (Yj PR)=true:=by kernel_rfl
theorem N1:∀T,aX strs T=true->PR.underlying T=some .string:=Sm Yk
theorem mixed:PR.follows .mixedOrders=true:=by kernel_rfl
def jbe (n:Nat) (fs:List (Nat×wL)):Ctx:=⟨n,ti,fs,fun _ _ _ _=>none,strs,false⟩
def ctx (n:Nat) (fs:List (Nat×wL)) (os:List (Nat×qB)):Ctx:=⟨n,ti,fs,ja8 (jbe n fs) os,strs,false⟩
def mF:List (Nat×wL)->Prop
 |[]=>True
 |p::r=>(p.2.own=false->wU PR p.1 p.2)/\mF r
def cw:List (Nat×qB)->Prop
 |[]=>True
 |p::r=>gq PR p.1 p.2/\cw r
theorem dA:∀{l:List (Nat×wL)},mF l->∀f s,wA l f=some s->s.own=false->wU PR f s
 |[],_,f,s,h,_=>by simp[wA] at h
 | (j,x)::r,hk,f,s,h,ho=>by
  simp only[wA] at h
  cases a:Nat.beq j f with
  |true=>rw[a] at h;simp at h;subst h;have:=ja a;subst this;exact hk.1 ho
  |false=>rw[a] at h;exact dA hk.2 f s h ho
theorem ou:∀{l:List (Nat×qB)},cw l->∀f s,wA l f=some s->gq PR f s
 |[],_,f,s,h=>by simp[wA] at h
 | (j,x)::r,hk,f,s,h=>by
  simp only[wA] at h
  cases a:Nat.beq j f with
  |true=>rw[a] at h;simp at h;subst h;have:=ja a;subst this;exact hk.1
  |false=>rw[a] at h;exact ou hk.2 f s h
theorem Sn {n:Nat} {fs:List (Nat×wL)} (h:mF fs):(jbe n fs).ok PR:=
 ⟨NI Vs,dA h,N1,rfl,fun _ _ _ _ _ a=>by cases a⟩
theorem ny {n:Nat} {fs:List (Nat×wL)} {os:List (Nat×qB)} (h:mF fs) (b:cw os):(ctx n fs os).ok PR:=
 ⟨NI Vs,dA h,N1,rfl,fun _ _ _ _ _ a=>Pa (Sn h) (ou b) a⟩
def gd (t:Ty) (σ:St) (s:Nat):t.Data:=match σ.get s with
 | .dat a d=>(match qi a t d with|some x=>x|none=>t.dflt)
 |_=>t.dflt
def gr (t:Ty) (σ:St) (o:Nat):List t.Data:=match σ.obj o with
 |some (.row _ a _ _ l)=>(match qi (.slice a) (.slice t) l with|some l'=>l'|none=>[])
 |_=>[]
def gfn (ps rs:List Ty) (σ:St) (s:Nat):(Ty.st ps).Data->(Ty.st rs).Data:=match σ.get s with
 | .fn a b _ F=>if h:a=ps/\b=rs then h.1▸h.2▸F else fun _=>(Ty.st rs).dflt
 |_=>fun _=>(Ty.st rs).dflt
def wS (fn:Func):Code:=match fn.body with|some c=>c|none=> .skip
theorem jbQ {f:Nat} {fn:Func} {n:Nat} {fs:List (Nat×wL)} {os:List (Nat×qB)} {s:wL} {A:Ann} (h:Zs (ctx n fs os) A fn (wS fn) s) (d:PR.funcs[f]? =some fn) (c:fn.body=some (wS fn)) (a:(fn.name== "runtime.NumGoroutine")=false)
 (e:fn.ntmps=n) (b:Nat.ble s.ps.length n=true) (hk:mF fs) (g:cw os):wU PR f s:=
 ZQ (ny hk g) mixed d c a e (jx b) A h
theorem Z2 {f:Nat} {fn:Func} {n:Nat} {fs:List (Nat×wL)} {os:List (Nat×qB)} {s:qB} {A:Ann} (h:R0 (ctx n fs os) A fn (wS fn) s) (e:PR.funcs[f]? =some fn) (d:fn.body=some (wS fn)) (a:(fn.name== "runtime.NumGoroutine")=false)
 (g:fn.ntmps=n) (c:Nat.ble s.ps.length n=true) (b:gm (K8 s.ps 0)=true) (hk:mF fs) (i:cw os):gq PR f s:=
 ZT (ny hk i) mixed e d a g (jx c) b A h
abbrev qF:Prop:=false=false
theorem tZ:True:=True.intro
theorem iZ6 {x:Int} (a: -9223372036854775808<=x:=by omega) (b:x<=9223372036854775807:=by omega):wq x:=⟨a,b⟩
theorem kcC {f:Nat} {s:wL} {fs:List (Nat×wL)} (h:wU PR f s) (hk:mF fs):mF ((f,s)::fs):=⟨fun _=>h,hk⟩
theorem kcN:mF []:=trivial
theorem koC {f:Nat} {s:qB} {fs:List (Nat×qB)} (h:gq PR f s) (hk:cw fs):cw ((f,s)::fs):=⟨h,hk⟩
theorem koN:cw []:=trivial
theorem yi (A:Ann) {f:Nat} {fn:Func} {fs:List (Nat×wL)} {os:List (Nat×qB)} {s:wL} {P:Prop} (h:P) (e:PR.funcs[f]? =some fn) (hk:mF fs) (g:cw os) (d:Zs (ctx fn.ntmps fs os) A fn (wS fn) s=P:=by kernel_rfl) (c:fn.body=some (wS fn):=by kernel_rfl) (a:(fn.name== "runtime.NumGoroutine")=false:=by kernel_rfl) (b:Nat.ble s.ps.length fn.ntmps=true:=by kernel_rfl):wU PR f s:=jbQ (d.mpr h) e c a rfl b hk g
theorem wF {f:Nat} {fn:Func} {fs:List (Nat×wL)} {os:List (Nat×qB)} {s:wL} {P:Prop} (h:P) (e:PR.funcs[f]? =some fn) (hk:mF fs) (g:cw os) (d:Zs (ctx fn.ntmps fs os) (fun _=>none) fn (wS fn) s=P:=by kernel_rfl) (c:fn.body=some (wS fn):=by kernel_rfl) (a:(fn.name== "runtime.NumGoroutine")=false:=by kernel_rfl) (b:Nat.ble s.ps.length fn.ntmps=true:=by kernel_rfl):wU PR f s:=jbQ (d.mpr h) e c a rfl b hk g
theorem uz (A:Ann) {f:Nat} {fn:Func} {fs:List (Nat×wL)} {os:List (Nat×qB)} {s:qB} {P:Prop} (h:P) (g:PR.funcs[f]? =some fn) (hk:mF fs) (i:cw os) (e:R0 (ctx fn.ntmps fs os) A fn (wS fn) s=P:=by kernel_rfl) (d:fn.body=some (wS fn):=by kernel_rfl) (a:(fn.name== "runtime.NumGoroutine")=false:=by kernel_rfl) (c:Nat.ble s.ps.length fn.ntmps=true:=by kernel_rfl) (b:gm (K8 s.ps 0)=true:=by kernel_rfl):gq PR f s:=Z2 (e.mpr h) g d a rfl c b hk i
theorem BI {f:Nat} {fn:Func} {fs:List (Nat×wL)} {os:List (Nat×qB)} {s:qB} {P:Prop} (h:P) (g:PR.funcs[f]? =some fn) (hk:mF fs) (i:cw os) (e:R0 (ctx fn.ntmps fs os) (fun _=>none) fn (wS fn) s=P:=by kernel_rfl) (d:fn.body=some (wS fn):=by kernel_rfl) (a:(fn.name== "runtime.NumGoroutine")=false:=by kernel_rfl) (c:Nat.ble s.ps.length fn.ntmps=true:=by kernel_rfl) (b:gm (K8 s.ps 0)=true:=by kernel_rfl):gq PR f s:=Z2 (e.mpr h) g d a rfl c b hk i
def Kq (n:Nat) (fs:List (Nat×wL)) (os:List (Nat×qB)) (cs:List (Nat×ol)) (vs:List (Nat×Gg)):Ctx:=⟨n,ti,fs,jbd (jbe n fs) os cs vs,strs,false⟩
def So:List (Nat×ol)->Prop
 |[]=>True
 |p::r=>Ih PR p.1 p.2/\So r
def Sp:List (Nat×Gg)->Prop
 |[]=>True
 |p::r=>VOK PR p.1 p.2/\Sp r
theorem BJ:∀{l:List (Nat×ol)},So l->∀f s,wA l f=some s->Ih PR f s
 |[],_,f,s,h=>by simp[wA] at h
 | (j,x)::r,hk,f,s,h=>by
  simp only[wA] at h
  cases a:Nat.beq j f with
  |true=>rw[a] at h;simp at h;subst h;have:=ja a;subst this;exact hk.1
  |false=>rw[a] at h;exact BJ hk.2 f s h
theorem BK:∀{l:List (Nat×Gg)},Sp l->∀f s,wA l f=some s->VOK PR f s
 |[],_,f,s,h=>by simp[wA] at h
 | (j,x)::r,hk,f,s,h=>by
  simp only[wA] at h
  cases a:Nat.beq j f with
  |true=>rw[a] at h;simp at h;subst h;have:=ja a;subst this;exact hk.1
  |false=>rw[a] at h;exact BK hk.2 f s h
theorem Lo {n:Nat} {fs:List (Nat×wL)} {os:List (Nat×qB)} {cs:List (Nat×ol)} {vs:List (Nat×Gg)} (h:mF fs) (c:cw os) (a:So cs) (d:Sp vs):(Kq n fs os cs vs).ok PR:=
 ⟨NI Vs,dA h,N1,rfl,fun _ _ _ _ _ b=>Pc (Sn h) (ou c) (BJ a) (BK d) b⟩
theorem Z3 {f:Nat} {fn:Func} {n:Nat} {fs:List (Nat×wL)} {os:List (Nat×qB)} {s:ol} {A:Ann} (h:Se (ctx n fs os) A fn (wS fn) s) (d:PR.funcs[f]? =some fn) (c:fn.body=some (wS fn)) (a:(fn.name== "runtime.NumGoroutine")=false)
 (e:fn.ntmps=n) (b:Nat.ble s.ps.length n=true) (hk:mF fs) (g:cw os):Ih PR f s:=
 ZZ (ny hk g) mixed d c a e (jx b) A h
end Go.X
namespace Go.X
open U
namespace L
theorem ql {α:Type} [Inhabited α] {l:List α} {i:Nat} (h:i<l.length):nth l i=l[i]:=by
 unfold nth;simp[h]
theorem wG {α:Type} [Inhabited α] {l:List α} {i:Nat} (h:i<l.length):l.take (i+1)=l.take i++[nth l i]:=by
 rw[ql h];exact List.take_succ_eq_append_getElem h
theorem wd {α:Type} [Inhabited α] {l:List α} {i:Nat} (h:i<l.length):nth l i∈l:=by
 rw[ql h];exact kL h
theorem mem_iff {α:Type} [Inhabited α] {l:List α} {x:α}:x∈l↔∃i,i<l.length/\nth l i=x:=by
 constructor;intro h;obtain⟨i,hi,e⟩:=List.getElem_of_mem h;exact⟨i,hi,by rw[ql hi,e]⟩;rintro⟨i,hi,rfl⟩;exact wd hi
theorem all_false {α:Type} [Inhabited α] {l:List α} {i:Nat} {p:α->Bool} (h:i<l.length) (a:p (nth l i)=false):l.all p=false:=by
 rw[zQ];exact⟨nth l i,wd h,by simp[a]⟩
theorem Ep {x:Int} (a: -9223372036854775808<=x) (b:x<=9223372036854775807):wq x:=⟨a,b⟩
end L
namespace BT
theorem two_nat (k:Nat):(2:Int)^k=((2^k:Nat):Int):=by simp
theorem div_nat (n k:Nat):(n:Int)/2^k=((n/2^k:Nat):Int):=by simp
theorem pow63 {k:Nat} (h:k<=62):2^k<2^63:=Nat.pow_lt_pow_right (by decide) (by omega)
theorem ofInt_nat {n:Nat} (a:n<2^63):(BitVec.ofInt 64 (n:Int)).toNat=n:=by
 simp only[BitVec.toNat_ofInt];omega
theorem wrap_nat {n:Nat} (h:n<2^63):IntKind.i64.wrap (n:Int)=(n:Int):=by
 unfold IntKind.wrap;simp[IntKind.signed,IntKind.bits];omega
theorem wrapU_nat {n:Nat} (h:n<2^63):IntKind.u64.wrap (n:Int)=(n:Int):=by
 unfold IntKind.wrap;simp[IntKind.signed,IntKind.bits];omega
theorem band_nat {a b:Nat} (c:a<2^63) (d:b<2^63):nI (a:Int) (b:Int)=((a&&&b:Nat):Int):=by
 unfold nI;rw[BitVec.toNat_and,ofInt_nat c,ofInt_nat d];exact wrap_nat (kC Nat.and_le_left c)
theorem uand_nat {a b:Nat} (c:a<2^63) (d:b<2^63):yP (a:Int) (b:Int)=((a&&&b:Nat):Int):=by
 unfold yP;rw[BitVec.toNat_and,ofInt_nat c,ofInt_nat d];exact wrapU_nat (kC Nat.and_le_left c)
theorem bor_nat {a b:Nat} (c:a<2^63) (d:b<2^63):bor (a:Int) (b:Int)=((a|||b:Nat):Int):=by
 unfold bor;rw[BitVec.toNat_or,ofInt_nat c,ofInt_nat d,wrap_nat (ko c d)]
def vA (s:Int):Prop:=0<=s/\s<2^62
def has (s:Int) (p:Nat):Bool:=s.toNat.testBit p
theorem nat_of {s:Int} (h:vA s):∃n:Nat,s=(n:Int)/\n<2^62:=⟨s.toNat,by unfold vA at h;omega,by unfold vA at h;omega⟩
theorem lt63 {n:Nat} (h:n<2^62):n<2^63:=by omega
theorem has_shr {s:Int} (h:vA s) (p:Nat):decide (nI (s/2^p) 1=1)=has s p:=by
 obtain⟨n,rfl,b⟩:=nat_of h;unfold has;rw[ju,div_nat];have a:n/2^p<2^63:=kC (Nat.div_le_self _ _) (lt63 b);rw[show(1:Int)=((1:Nat):Int) from rfl,band_nat a (by decide),kS,kw];exact decide_eq_decide.2 ⟨fun h=>by omega,fun h=>by omega⟩
theorem has_ushr {s:Int} (h:vA s) (p:Nat):decide (yP (s/2^p) 1=1)=has s p:=by
 obtain⟨n,rfl,b⟩:=nat_of h;unfold has;rw[ju,div_nat];have a:n/2^p<2^63:=kC (Nat.div_le_self _ _) (lt63 b);rw[show(1:Int)=((1:Nat):Int) from rfl,uand_nat a (by decide),kS,kw];exact decide_eq_decide.2 ⟨fun h=>by omega,fun h=>by omega⟩
theorem bit_num {s:Int} (h:vA s) (p:Nat):nI (s/2^p) 1=if has s p=true then 1 else 0:=by
 obtain⟨n,rfl,b⟩:=nat_of h;unfold has;rw[ju,div_nat];have a:n/2^p<2^63:=kC (Nat.div_le_self _ _) (lt63 b);rw[show(1:Int)=((1:Nat):Int) from rfl,band_nat a (by decide),kS,kw]
 split
 rename_i h;have:=jb h;omega;rename_i h;have:¬(n/2^p%2=1):=fun e=>h (jI e);omega
theorem sy (p:Nat):has 0 p=false:=by unfold has;simp
theorem Aw (k p:Nat):has ((2:Int)^k) p=decide (k=p):=by
 unfold has;rw[two_nat,ju,Nat.testBit_two_pow]
theorem has_bor {a b:Int} (c:vA a) (d:vA b) (p:Nat):has (bor a b) p=(has a p||has b p):=by
 obtain⟨n,rfl,f⟩:=nat_of c;obtain⟨m,rfl,e⟩:=nat_of d;unfold has;rw[bor_nat (lt63 f) (lt63 e)];simp only[ju,kU]
theorem bor_set {a b:Int} (e:vA a) (f:vA b):vA (bor a b):=by
 obtain⟨n,rfl,d⟩:=nat_of e;obtain⟨m,rfl,c⟩:=nat_of f;rw[bor_nat (lt63 d) (lt63 c)];have:n|||m<2^62:=ko d c;unfold vA;omega
theorem Dg:vA 0:=by unfold vA;omega
theorem mD {k:Nat} (h:k<=61):vA ((2:Int)^k):=by
 rw[two_nat];have:2^k<2^62:=Nat.pow_lt_pow_right (by decide) (by omega);obtain⟨q,a⟩:∃q,q=2^k:=⟨_,rfl⟩;rw[<-a] at this⊢;unfold vA;omega
theorem ext {a b:Int} (c:vA a) (d:vA b) (h:∀p,has a p=has b p):a=b:=by
 obtain⟨n,rfl,f⟩:=nat_of c;obtain⟨m,rfl,e⟩:=nat_of d;have:n=m:=z8 (fun i=>by have:=h i;unfold has at this;simpa using this);rw[this]
theorem has_lt {s:Int} {k:Nat} (c:0<=s) (h:s<2^k) {p:Nat} (b:has s p=true):p<k:=by
 obtain⟨n,rfl⟩:∃n:Nat,s=(n:Int):=⟨s.toNat,by omega⟩;rw[two_nat] at h;unfold has at b;rw[ju] at b;have d:=Nat.ge_two_pow_of_testBit b;rcases Nat.lt_or_ge p k with a|a;exact a;have:=Nat.pow_le_pow_right (n:=2) (by decide) a;omega
theorem lt_of_has {s:Int} {k:Nat} (a:vA s) (h:∀p,has s p=true->p<k):s<2^k:=by
 obtain⟨n,rfl,b⟩:=nat_of a;rw[two_nat];have:n<2^k:=Nat.lt_pow_two_of_testBit n (fun i hi=>by
  cases e:n.testBit i with
  |false=>rfl
  |true=>have:=h i (by unfold has;simpa using e);omega)
 omega
theorem or_two {n p:Nat} (h:n.testBit p=false):n+2^p=n|||2^p:=by
 have f:n=2^(p+1)*(n/2^(p+1))+n%2^(p+1):=(Nat.div_add_mod _ _).symm;have c:n%2^(p+1)<2^p:=by
  have b:n%2^(p+1)<2^(p+1):=Nat.mod_lt _ (Nat.pow_pos (by decide));rcases Nat.lt_or_ge (n%2^(p+1)) (2^p) with a|a
  .exact a
  .exfalso;have:(n%2^(p+1)).testBit p=true:=Nat.testBit_of_two_pow_le_and_two_pow_add_one_gt a b;rw[Nat.testBit_mod_two_pow,h] at this;simp at this
 apply z8;intro i;rw[kU,Nat.testBit_two_pow];have e:n+2^p=2^(p+1)*(n/2^(p+1))+(2^p+n%2^(p+1)):=(by omega);have g:2^p+n%2^(p+1)<2^(p+1):=zA (Nat.add_lt_add_left c _) (by rw[Nat.pow_succ];omega);rw[e,kJ _ g]
 conv=>rhs;rw[f,kJ _ (Nat.mod_lt _ (Nat.pow_pos (by decide)))]
 have e2:2^p+n%2^(p+1)=2^p*1+n%2^(p+1):=(by omega);by_cases hi:i<p+1
 .rw[jh hi,jh hi,e2,kJ _ c];by_cases d:i<p
  .rw[jh d,za (by omega),Bool.or_false]
  .have:i=p:=(by omega);subst this;rw[jc d,Nat.sub_self,jI rfl,Bool.or_true];simp
 .rw[jc hi,jc hi,za (by omega),Bool.or_false]
theorem add_two {s:Int} (b:vA s) {p:Nat} (c:p<=61) (h:has s p=false):s+2^p=bor s (2^p):=by
 obtain⟨n,rfl,a⟩:=nat_of b;rw[two_nat,bor_nat (lt63 a) (pow63 (by omega))];unfold has at h;rw[ju] at h;rw[<-or_two h];omega
def size (s:Int):Int:=(((List.range 62).countP (fun p=>has s p):Nat):Int)
theorem size_zero:size 0=0:=by
 unfold size;have:(List.range 62).countP (fun p=>has 0 p)=0:=zT.2 (fun p _=>by rw[sy];simp);rw[this];rfl
theorem size_le (s:Int):0<=size s/\size s<=62:=by
 have:=List.countP_le_length (l:=List.range 62) (p:=fun p=>has s p);rw[zI] at this;unfold size;omega
theorem has_half {s:Int} (a:vA s) (p:Nat):has (s/2) p=has s (p+1):=by
 obtain⟨n,rfl,b⟩:=nat_of a;unfold has;have:((n:Int)/2).toNat=n/2:=(by omega);rw[this,ju,kx]
theorem size_half {s:Int} (d:vA s):size s=s%2+size (s/2):=by
 obtain⟨n,e,i⟩:=nat_of d;have b:has (s/2) 61=false:=by
  rw[has_half d];subst e;unfold has;rw[ju];exact Nat.testBit_lt_two_pow i
 have j:(List.range 62)=0::(List.range 61).map (·+1):=by
  rw[show(62:Nat)=61+1 from rfl,List.range_succ_eq_map]
 have c:(List.range 62)=List.range 61++[61]:=(by rw[show(62:Nat)=61+1 from rfl,zq]);have f:(has s 0=true)↔s%2=1:=by
  subst e;unfold has;rw[ju,Nat.testBit_zero];simp only[jp];omega
 have g:(List.range 62).countP (fun p=>has (s/2) p)=(List.range 61).countP (fun p=>has s (p+1)):=by
  rw[c,zM];simp only[ke,List.countP_nil,b];simp only[has_half d];simp
 unfold size;rw[g]
 conv=>lhs;rw[j]
 rw[ke,List.countP_map];have h:((fun p=>has s p)∘fun(x:Nat)=>x+1)=fun p=>has s (p+1):=rfl
 rw[h];by_cases a:has s 0=true
 .rw[jh a];have:=f.1 a;omega
 .rw[jc a];have:¬s%2=1:=fun e=>a (f.2 e);omega
end BT
namespace BT
theorem uor_nat {a b:Nat} (c:a<2^63) (d:b<2^63):uor (a:Int) (b:Int)=((a|||b:Nat):Int):=by
 unfold uor;rw[BitVec.toNat_or,ofInt_nat c,ofInt_nat d,wrapU_nat (ko c d)]
theorem has_uor {a b:Int} (c:vA a) (d:vA b) (p:Nat):has (uor a b) p=(has a p||has b p):=by
 obtain⟨n,rfl,f⟩:=nat_of c;obtain⟨m,rfl,e⟩:=nat_of d;unfold has;rw[uor_nat (lt63 f) (lt63 e)];simp only[ju,kU]
theorem uor_set {a b:Int} (e:vA a) (f:vA b):vA (uor a b):=by
 obtain⟨n,rfl,d⟩:=nat_of e;obtain⟨m,rfl,c⟩:=nat_of f;rw[uor_nat (lt63 d) (lt63 c)];have:n|||m<2^62:=ko d c;unfold vA;omega
theorem pred_odd (k:Nat):(2*k+1)&&&(2*k+1-1)=2*k:=by
 apply z8;intro i;rw[Nat.testBit_and,Nat.add_sub_cancel];cases i with
 |zero=>simp
 |succ i=>
  rw[kx,kx];have:(2*k+1)/2=k:=(by omega);have a:(2*k)/2=k:=(by omega);rw[this,a,Bool.and_self]
theorem pred_even (k:Nat) (_:k≠0):(2*k)&&&(2*k-1)=2*(k&&&(k-1)):=by
 apply z8;intro i;rw[Nat.testBit_and];cases i with
 |zero=>simp
 |succ i=>
  rw[kx,kx,kx];have:(2*k)/2=k:=(by omega);have a:(2*k-1)/2=k-1:=(by omega);have b:(2*(k&&&(k-1)))/2=k&&&(k-1):=(by omega);rw[this,a,b,Nat.testBit_and]
theorem size_dbl {k:Nat} (h:k<2^61):size ((2*k:Nat):Int)=size (k:Int):=by
 rw[size_half (s:=((2*k:Nat):Int)) (by unfold vA;omega)];have a:((2*k:Nat):Int)%2=0:=(by omega);have b:((2*k:Nat):Int)/2=(k:Int):=(by omega);rw[a,b];omega
theorem size_odd {k:Nat} (h:k<2^61):size ((2*k+1:Nat):Int)=1+size (k:Int):=by
 rw[size_half (s:=((2*k+1:Nat):Int)) (by unfold vA;omega)];have a:((2*k+1:Nat):Int)%2=1:=(by omega);have b:((2*k+1:Nat):Int)/2=(k:Int):=(by omega);rw[a,b]
theorem pred_nat:∀(n:Nat),n≠0->n<2^62->(n&&&(n-1))<n/\size ((n&&&(n-1):Nat):Int)+1=size (n:Int)
 |n,b,d=>by
  rcases Nat.mod_two_eq_zero_or_one n with e|e
  obtain⟨k,rfl⟩:∃k,n=2*k:=⟨n/2,by omega⟩
  have hk:k≠0:=by omega
  obtain⟨c,a⟩:=pred_nat k hk (by omega)
  rw[pred_even k hk]
  exact⟨by omega,by rw[size_dbl (by omega),size_dbl (by omega)];exact a⟩
  obtain⟨k,rfl⟩:∃k,n=2*k+1:=⟨n/2,by omega⟩
  rw[pred_odd]
  exact⟨by omega,by rw[size_dbl (by omega),size_odd (by omega)];omega⟩
termination_by n=>n
theorem pred {s:Int} (d:vA s) (h:s≠0):vA (yP s (s-1))/\yP s (s-1)<s/\size (yP s (s-1))+1=size s:=by
 obtain⟨n,rfl,a⟩:=nat_of d;have b:n≠0:=(by omega);have e:(n:Int)-1=((n-1:Nat):Int):=(by omega);rw[e,uand_nat (lt63 a) (by omega)];obtain⟨f,c⟩:=pred_nat n b a;exact⟨by unfold vA;omega,by omega,c⟩
end BT
namespace U
def dY {α:Type} (eq:α->α->Bool) (p:α):List α->List α
 |[]=>[]
 |y::r=>if eq y p=true then dY eq y r else y::dY eq y r
def aN {α:Type} (eq:α->α->Bool):List α->List α
 |[]=>[]
 |x::r=>x::dY eq x r
def Zf {α:Type} (eq:α->α->Bool) (l:List α) (i:Nat):Prop:=1<=i/\i<=l.length/\aN eq (l.take i)=l.take i
def nC {α:Type} (eq:α->α->Bool) (l:List α) (n:Nat):Int:=((aN eq (l.take n)).length:Int)
def M2 {α:Type} (eq:α->α->Bool) (l:List α) (i k:Nat) (r:List α):Prop:=1<=k/\i+k<=l.length/\r.length=l.length/\aN eq (l.take (i+k))=r.take (aN eq (l.take (i+k))).length/\r.drop (i+k-1)=l.drop (i+k-1)/\(aN eq (l.take (i+k))).length<i+k
end U
namespace L
theorem nodup_len {α:Type}:∀(a b:List α),a.Nodup->(∀x∈a,x∈b)->a.length<=b.length
 |[],_,_,_=>by simp
 |x::a,b,hn,h=>by
  obtain⟨e,f,rfl⟩:=List.append_of_mem (h x (by simp))
  rw[zn] at hn
  have:=nodup_len a (e++f) hn.2 (fun y d=>by
   have:=h y (by simp[d])
   rw[js,jj] at this
   rw[js]
   rcases this with c|c|c
   exact .inl c
   subst c;exact absurd d hn.1
   exact .inr c)
  simp at this⊢
  omega
theorem nG {α:Type} [DecidableEq α]:∀{a b:List α},a.Nodup->b.Nodup->(∀n,n∈a↔n∈b)->a.Perm b
 |[],b,_,_,h=>by
  have:b=[]:=by
   cases b with
   |nil=>rfl
   |cons x r=>exact absurd ((h x).2 (by simp)) (by simp)
  rw[this]
 |x::r,b,ha,hb,h=>by
  have i:x∈b:=(h x).1 (by simp);have f:=List.perm_cons_erase i;refine(List.Perm.cons x (nG (zn.1 ha).2 (hb.erase x) (fun n=> ?_))).trans f.symm;rw[hb.mem_erase_iff];constructor;intro c;exact⟨fun e=>by subst e;exact(zn.1 ha).1 c,(h n).1 (jl _ c)⟩;rintro⟨d,c⟩;rcases jj.1 ((h n).2 c) with e|g;exact absurd e d;exact g
theorem nodup_inj {α β:Type} {f:α->β}:∀{l:List α},(l.map f).Nodup->∀{x y:α},x∈l->y∈l->f x=f y->x=y
 |[],_,_,_,h,_,_=>by simp at h
 |a::r,hn,x,y,hx,hy,e=>by
  simp only[zu,zn] at hn
  rcases jj.1 hx with rfl|c
  rcases jj.1 hy with rfl|b
  rfl
  exact absurd (jT.2 ⟨y,b,e.symm⟩) hn.1
  rcases jj.1 hy with rfl|b
  exact absurd (jT.2 ⟨x,c,e⟩) hn.1
  exact nodup_inj hn.2 c b e
theorem nth_take {α:Type} [Inhabited α] {l:List α} {i n:Nat} (h:i<n):nth (l.take n) i=nth l i:=by
 unfold nth;rw[j8,j8,jM h]
theorem nth_drop {α:Type} [Inhabited α] {l r:List α} {a n:Nat} (h:l.drop a=r.drop a) (b:a<=n):nth l n=nth r n:=by
 have e:=jS (fun x=>x[n-a]?) h;simp only[zc] at e;rw[show a+(n-a)=n by omega] at e;unfold nth;rw[j8,j8,e]
theorem nth_map {α β:Type} [Inhabited α] [Inhabited β] {f:α->β} {l:List α} {i:Nat} (h:i<l.length):nth (l.map f) i=f (nth l i):=by
 rw[ql (by simpa using h),ql h];simp
theorem gL {α:Type} [Inhabited α] {l:List α} {i j:Nat} {x:α} (h:i<l.length):nth (l.set i x) j=if i=j then x else nth l j:=by
 unfold nth;rw[j8,j8,km]
 split
 rename_i e;subst e;simp[h];rfl
theorem Ax {α:Type} [Inhabited α] {n i:Nat} {x:α} (h:i<n):nth (List.replicate n x) i=x:=by
 unfold nth;rw[j8,kA,jh h];rfl
theorem ext_nth {α:Type} [Inhabited α] {a b:List α} (h:a.length=b.length) (d:∀i,i<a.length->nth a i=nth b i):a=b:=by
 apply List.ext_getElem h;intro i c e;rw[<-ql c,<-ql e];exact d i c
theorem range_map_nth {α:Type} [Inhabited α] (l:List α):(List.range l.length).map (nth l)=l:=by
 apply ext_nth;simp;intro i hi;rw[nth_map (by simpa using hi)];congr 1;rw[ql (by simpa using hi)];simp
section
variable {α:Type} [Inhabited α] {eq:α->α->Bool}
theorem compT_snoc (y:α):∀(r:List α) (p:α),dY eq p (r++[y])=dY eq p r++(if eq y (nth (p::r) r.length)=true then[] else[y])
 |[],p=>rfl
 |z::r,p=>by
  have e:nth (p::z::r) (z::r).length=nth (z::r) r.length:=rfl
  rw[e]
  simp only[jU,dY]
  split
  exact compT_snoc y r z
  rw[compT_snoc y r z];rfl
theorem comp_snoc (y:α) {l:List α} (h:l≠[]):aN eq (l++[y])=aN eq l++(if eq y (nth l (l.length-1))=true then[] else[y]):=by
 cases l with
 |nil=>exact absurd rfl h
 |cons x r=>
  show x::dY eq x (r++[y])=_;rw[compT_snoc];have:(x::r).length-1=r.length:=(by simp);rw[this];rfl
theorem comp_take {l:List α} {n:Nat} (b:1<=n) (a:n<l.length):aN eq (l.take (n+1))=aN eq (l.take n)++(if eq (nth l n) (nth l (n-1))=true then[] else[nth l n]):=by
 rw[L.wG a,comp_snoc];have e:(l.take n).length-1=n-1:=(by rw[j0];omega);rw[e,nth_take (by omega)];intro e;have:=jS List.length e;rw[j0,zp] at this;omega
end
theorem comp_short {α:Type} {eq:α->α->Bool} {l:List α} (h:l.length<2):aN eq l=l:=by
 match l,h with
 |[],_=>rfl
 |[x],_=>rfl
theorem comp_len {α:Type} {eq:α->α->Bool} (l:List α):(aN eq l).length<=l.length:=by
 have:∀(r:List α) (p:α),(dY eq p r).length<=r.length:=by
  intro r
  induction r with
  |nil=>intro p;simp[dY]
  |cons y r a=>
   intro p;unfold dY
   split
   have:=a y;simp;omega;have:=a y;simp;omega
 cases l with
 |nil=>simp[aN]
 |cons x r=>have:=this r x;simp[aN];omega
theorem inv9_next {α:Type} [Inhabited α] {eq:α->α->Bool} {l r:List α} {i k:Nat} (hi:1<=i) (h:M2 eq l i k r) (g:i+k<l.length):
 (eq (nth r (i+k)) (nth r (i+k-1))=false->nC eq l (i+(k+1))=nC eq l (i+k)+1/\M2 eq l i (k+1) (r.set (nC eq l (i+k)).toNat (nth r (i+k))))/\
 (eq (nth r (i+k)) (nth r (i+k-1))=true->nC eq l (i+(k+1))=nC eq l (i+k)/\M2 eq l i (k+1) r):=by
 obtain⟨s,t,j,d,e,p⟩:=h;have o:nth r (i+k)=nth l (i+k):=nth_drop e (by omega);have e2:nth r (i+k-1)=nth l (i+k-1):=nth_drop e (by omega);have a:=comp_take (eq:=eq) (l:=l) (n:=i+k) (by omega) g;rw[show i+k+1=i+(k+1) by omega] at a;have m:r.drop (i+k)=l.drop (i+k):=by
  have:=jS (List.drop 1) e;rw[List.drop_drop,List.drop_drop,show i+k-1+1=i+k by omega] at this;exact this
 rw[o,e2];obtain⟨c,b⟩:∃c,c=aN eq (l.take (i+k)):=⟨_,rfl⟩;rw[<-b] at a d p;have q:(nC eq l (i+k))=(c.length:Int):=(by unfold nC;rw[<-b]);rw[q];refine⟨fun f=> ?_,fun f=> ?_⟩;rw[jc (by rw[f];simp)] at a;refine⟨by unfold nC;rw[a];simp,by omega,by omega,by simpa using j,?_,?_,?_⟩;rw[a];simp only[ju,jL,jX,zp];rw[List.take_add_one,List.getElem?_set_self (by omega)];rw[List.take_set_of_le (by omega),<-d];rfl;rw[show i+(k+1)-1=i+k by omega];simp only[ju];rw[List.drop_set_of_lt (by omega)];exact m;rw[a];simp;omega;rw[jh f,j7] at a;refine⟨by unfold nC;rw[a],by omega,by omega,j,?_,?_,?_⟩;rw[a];exact d;rw[show i+(k+1)-1=i+k by omega];exact m;rw[a];omega
theorem compT_sub {α:Type} {eq:α->α->Bool}:∀(r:List α) (p x:α),x∈dY eq p r->x∈r
 |[],_,_,h=>by simp[dY] at h
 |y::r,p,x,h=>by
  unfold dY at h
  split at h
  exact jl _ (compT_sub r y x h)
  rcases jj.1 h with rfl|h
  simp
  exact jl _ (compT_sub r y x h)
theorem comp_sub {α:Type} {eq:α->α->Bool} {l:List α} {x:α} (h:x∈aN eq l):x∈l:=by
 cases l with
 |nil=>simp[aN] at h
 |cons y r=>
  unfold aN at h;rcases jj.1 h with rfl|h;simp;exact jl _ (compT_sub r y x h)
theorem compT_mem {α:Type} [DecidableEq α]:∀(r:List α) (p x:α),x∈r->x=p\/x∈dY (fun a b=>decide (a=b)) p r
 |y::r,p,x,h=>by
  unfold dY
  rcases jj.1 h with rfl|h
  by_cases e:x=p
  exact .inl e
  rw[jc (by simpa using e)];right;simp
  rcases compT_mem r y x h with rfl|c
  by_cases e:x=p
  exact .inl e
  rw[jc (by simpa using e)];right;simp
  right
  split
  exact c
  exact jl _ c
theorem comp_mem {α:Type} [DecidableEq α] {l:List α} {x:α}:x∈aN (fun a b=>decide (a=b)) l↔x∈l:=by
 refine⟨comp_sub,fun h=> ?_⟩;cases l with
 |nil=>simp at h
 |cons y r=>
  unfold aN;rcases jj.1 h with rfl|h;simp;rcases compT_mem r y x h with rfl|c;simp;exact jl _ c
theorem comp_asc {α:Type} [DecidableEq α] {lt:α->α->Bool}:∀{l:List α},vu lt l->Pd lt l->(aN (fun a b=>decide (a=b)) l).Pairwise (fun a b=>lt a b=true):=by
 have i:∀(r:List α) (p:α),vu lt (p::r)->Pd lt (p::r)->(p::dY (fun a b=>decide (a=b)) p r).Pairwise (fun a b=>lt a b=true):=by
  intro r
  induction r with
  |nil=>intro p _ _;exact List.pairwise_singleton _ _
  |cons y r n=>
   intro p f j;have d:=zv.1 j;have k:vu lt (y::r):=f.sub (fun z c=>jl _ c);have hi:=n y k d.2;unfold dY;by_cases e:y=p;rw[jh (by simpa using e)];subst e;exact hi;rw[jc (by simpa using e)];refine zv.2 ⟨fun z c=> ?_,hi⟩;have g:lt p y=true:=by
    cases h:lt p y with
    |true=>rfl
    |false=>exact absurd (f.total p y (by simp) (by simp) h (d.1 y (by simp))).symm e
   rcases jj.1 c with rfl|c;exact g;have m:=compT_sub r y z c;exact f.trans p y z (by simp) (by simp) (by simp[m]) g ((zv.1 hi).1 z c)
 intro l f j;cases l with
 |nil=>exact List.Pairwise.nil
 |cons p r=>exact i r p f j
theorem asc_nodup {α:Type} {lt:α->α->Bool} {l:List α} (hi:∀x,lt x x=false) (h:l.Pairwise (fun a b=>lt a b=true)):l.Nodup:=
 h.imp (fun{a b} h e=>by subst e;rw[hi] at h;cases h)
theorem filter_take {α:Type} [Inhabited α] {p:α->Bool} {l:List α} {i:Nat} (h:i<l.length):(l.take (i+1)).filter p=(l.take i).filter p++(if p (nth l i)=true then[nth l i] else[]):=by
 rw[wG h,kQ];congr 1;by_cases e:p (nth l i)=true<;>simp[e]
theorem cH {p:Nat->Bool} {n:Nat}:(List.range (n+1)).filter p=(List.range n).filter p++(if p n=true then[n] else[]):=by
 rw[zq,kQ];congr 1;by_cases e:p n=true<;>simp[e]
end L
end Go.X
namespace Go.X
open U
abbrev tSp:Ty:= .st [.int,.int]
abbrev tPe:Ty:= .st [.slice .int,.int,.int,.slice .int,.bool,.int]
abbrev tLw:Ty:= .st [.int,.int,.bool]
abbrev tCr:Ty:= .st [.int,.slice tPe,.slice tLw]
abbrev tJb:Ty:= .st [.int,.int,.int,.int,.int,.int]
abbrev tBk:Ty:= .st [tJb,.int,.int,.int]
abbrev tSh:Ty:= .st [.int,.int,.int,.int,.int]
abbrev tDy:Ty:= .st [tCr,.slice (.slice tSp),.slice tBk,.int,.int,.slice tSh]
abbrev SpD:Type:=Int×Int×Unit
abbrev PeD:Type:=List Int×Int×Int×List Int×Bool×Int×Unit
abbrev LwD:Type:=Int×Int×Bool×Unit
abbrev CrD:Type:=Int×List PeD×List LwD×Unit
abbrev JbD:Type:=Int×Int×Int×Int×Int×Int×Unit
abbrev BkD:Type:=JbD×Int×Int×Int×Unit
abbrev ShD:Type:=Int×Int×Int×Int×Int×Unit
abbrev DyD:Type:=CrD×List (List SpD)×List BkD×Int×Int×List ShD×Unit
namespace U
def lo (s:SpD):Int:=s.1
def hi (s:SpD):Int:=s.2.1
def kV (n a b:Int):Bool:=decide (a<=n)&&decide (n<=b)
def lv (p:PeD):List Int:=p.1
def fd (p:PeD):Int:=p.2.1
def cl (p:PeD):Int:=p.2.2.1
def y8 (p:PeD):List Int:=p.2.2.2.1
def jaz (p:PeD):Bool:=p.2.2.2.2.1
def fe (p:PeD):Int:=p.2.2.2.2.2.1
def UH (l:LwD):Int:=l.1
def Zx (l:LwD):Int:=l.2.1
def jby (l:LwD):Bool:=l.2.2.1
def la (c:CrD):Int:=c.1
def we (c:CrD):List PeD:=c.2.1
def yk (c:CrD):List LwD:=c.2.2.1
def QR (j:JbD):Int:=j.1
def Kr (j:JbD):Int:=j.2.1
def WB (j:JbD):Int:=j.2.2.1
def WC (j:JbD):Int:=j.2.2.2.1
def fO (j:JbD):Int:=j.2.2.2.2.1
def Zy (j:JbD):Int:=j.2.2.2.2.2.1
def y9 (b:BkD):JbD:=b.1
def Zg (b:BkD):Int:=b.2.1
def qR (b:BkD):Int:=b.2.2.1
def mB (b:BkD):Int:=b.2.2.2.1
def gu (s:ShD):Int:=s.1
def Hu (s:ShD):Int:=s.2.1
def WD (s:ShD):Int:=s.2.2.1
def J5 (s:ShD):Int:=s.2.2.2.1
def nD (s:ShD):Int:=s.2.2.2.2.1
def wi (d:DyD):CrD:=d.1
def wO (d:DyD):List (List SpD):=d.2.1
def wg (d:DyD):List BkD:=d.2.2.1
def QE (d:DyD):Int:=d.2.2.2.1
def Zh (d:DyD):Int:=d.2.2.2.2.1
def qV (d:DyD):List ShD:=d.2.2.2.2.2.1
def fP (L:Int) (p:PeD):Bool:=decide (((lv p).length:Int)=L/\0<=fd p/\fd p<=255/\0<=cl p/\cl p<=255/\(y8 p).length<=10/\0<=fe p/\fe p<=1000)&&((lv p).all (fun n=>kV n 0 5)&&(y8 p).all (fun n=>kV n 0 99))
def dZ (l:LwD):Bool:=kV (UH l) 1 5&&kV (Zx l) 1 8
def wz (c:CrD):Bool:=decide (2<=la c/\la c<=5/\(we c).length<=8/\(yk c).length=4)&&((we c).all (fP (la c))&&(yk c).all dZ)
def qr (c:CrD) (j:JbD):Bool:=decide (0<=QR j/\QR j<=la c-1/\0<=Kr j/\Kr j<=la c-1/\QR j≠Kr j/\0<=WB j/\WB j<=99/\0<=WC j/\WC j<=7/\0<=fO j/\fO j<=3/\1<=Zy j/\Zy j<=8)
def qW (c:CrD) (j:JbD):Int:=if wz c=false then 30 else if qr c j=false then 31 else 0
def sj (s:SpD):Bool:=decide (0<=lo s/\lo s<=hi s/\hi s<=300)
def bQ (n:Nat) (r:List SpD):Bool:=decide (r.length=n)&&r.all sj
def lW (n:Nat) (b:BkD):Bool:=decide (0<=Zg b/\Zg b<=(n:Int)-1/\0<=qR b/\qR b<mB b/\mB b<=1440)
def lX (nb a:Nat) (s:ShD):Bool:=decide (0<=gu s/\gu s<=99/\0<=Hu s/\Hu s<=9999/\1<=WD s/\WD s<=2/\0<=J5 s/\J5 s<=(nb:Int)-1/\0<=nD s/\nD s<=(a:Int)-1)
def qc (d:DyD):Bool:=decide ((wg d).length<=4/\1<=(wO d).length/\(wO d).length<=5/\0<=QE d/\QE d<=300/\0<=Zh d/\Zh d<=1440/\(qV d).length<=30)&&
 ((wO d).all (bQ (wO d).length)&&((wg d).all (lW (wO d).length)&&(qV d).all (lX (wg d).length (we (wi d)).length)))
def Da (a b:ShD):Bool:=decide (gu a=gu b)&& !decide (a=b)
def Au (l:List ShD) (i:Nat):Bool:=(l.take i).any (Da (nth l i))
def gE (l:List ShD) (n:Nat):Bool:=(List.range n).any (Au l)
def aV (l:List ShD):Bool:=gE l l.length
def J6 (d:DyD):Bool:=(wg d).all (fun b=>qr (wi d) (y9 b))
def ez (d:DyD):Int:=if wz (wi d)=false then 30 else if J6 d=false then 31 else if qc d=false then 50 else if aV (qV d)=true then 51 else 0
def Hn (l:List ShD) (i:Nat):Bool:= !((l.take i).any (fun x=>decide (x=nth l i)))
def WE (l:List ShD) (n m:Nat):List ShD:=((List.range n).filter (fun i=>decide (gu (nth l i)=(m:Int))&&Hn l i)).map (nth l)
def Uo (l:List ShD) (n:Nat):List ShD:=(List.range n).flatMap (WE l l.length)
def Ei (l:List ShD):List ShD:=Uo l 100
def J7 (p:PeD) (a:Int):Bool:=(y8 p).any (fun t=>decide (t=a))
def gF (s n:Int):Bool:=decide (nI (s/2^n.toNat) 1=1)
def gG (c:CrD) (j:JbD) (p:Int):Bool:= !(J7 (nth (we c) p.toNat) (WB j))&&gF (fd (nth (we c) p.toNat)) (WC j)&&gF (cl (nth (we c) p.toNat)) (fO j)
def bk (d:DyD) (b:Int):BkD:=nth (wg d) b.toNat
def Zi (d:DyD) (a b:Int):Int:=hi (nth (nth (wO d) (Zg (bk d a)).toNat) (Zg (bk d b)).toNat)
def cD (d:DyD) (a b:Int):Bool:=decide (qR (bk d a)<qR (bk d b)\/(qR (bk d a)=qR (bk d b)/\a<b))
def bR (d:DyD) (a b:Int):Int:=qR (bk d b)-mB (bk d a)-QE d-Zi d a b
def lY (d:DyD) (a b:Int):Bool:=if cD d b a=true then decide (0<=bR d b a) else decide (0<=bR d a b)
def M3 (d:DyD) (l:List Int):Int:=(l.map (fun b=>mB (bk d b)-qR (bk d b))).foldl (·+·) 0
def jaA (d:DyD) (l:List Int):Bool:=(List.range l.length).all (fun i=>(l.take i).all (fun b=>lY d (nth l i) b))
def sk (d:DyD) (p:Int) (l:List Int):Bool:=l.all (fun b=>gG (wi d) (y9 (bk d b)) p)&&(jaA d l&&decide (M3 d l<=Zh d))
def gn (a b:ShD):Bool:=decide (Hu b<Hu a\/(Hu a=Hu b/\gu b<gu a))
def Av (l:List ShD) (s:ShD):Bool:=decide (WD s=1)&& !(l.any (fun t=>decide (J5 t=J5 s)&&decide (nD t=nD s)&&gn t s))
def Zj (a b:ShD):Bool:=gn b a
def jbz (t:List Int) (p:Int) (n:Nat):List Int:=((List.range n).filter (fun b=>gF (nth t b) p)).map (fun(b:Nat)=>(b:Int))
def on (t:List Int) (p:Int):List Int:=jbz t p t.length
def Fq (d:DyD) (x:List Int×List Int) (s:ShD):List Int×List Int:=
 if sk d (nD s) (on x.1 (nD s)++[J5 s])=true then(x.1.set (J5 s).toNat (nth x.1 (J5 s).toNat+2^(nD s).toNat),x.2) else(x.1,x.2++[gu s])
def jaB (c:CrD) (t:Int) (d a b:Int):Bool:=(List.range (we c).length).any (fun i=>gF t (i:Int)&&decide (d<=nth (lv (nth (we c) i)) a.toNat)&&decide (d<=nth (lv (nth (we c) i)) b.toNat))
def d4 (c:CrD) (j:JbD):LwD:=nth (yk c) (fO j).toNat
end U
inductive Rch (J:Nat->Nat->Bool) (n s:Nat):Nat->Prop where
 |base:Rch J n s s
 |step {a b:Nat}:Rch J n s a->b<n->J a b=true->Rch J n s b
theorem Rch.lt {J:Nat->Nat->Bool} {n s t:Nat} (a:s<n) (h:Rch J n s t):t<n:=by
 cases h with
 |base=>exact a
 |step _ h _=>exact h
theorem Rch.trans {J:Nat->Nat->Bool} {n s t u:Nat} (a:Rch J n s t) (b:Rch J n t u):Rch J n s u:=by
 induction b with
 |base=>exact a
 |step _ c d e=>exact .step e c d
theorem Rch.symm {J:Nat->Nat->Bool} {n s t:Nat} (c:∀a b,J a b=J b a) (f:s<n) (h:Rch J n s t):Rch J n t s:=by
 induction h with
 |base=>exact .base
 |step d i e g=>
  rename_i a b;have:Rch J n b a:= .step .base (d.lt f) (by rw[c];exact e);exact this.trans g
theorem Rch.closed {J:Nat->Nat->Bool} {n s t:Nat} {S:Nat->Prop} (i:s<n) (c:S s) (f:∀a b,a<n->S a->b<n->J a b=true->S b) (h:Rch J n s t):S t:=by
 induction h with
 |base=>exact c
 |step d e g j=>exact f _ _ (d.lt i) j e g
namespace U
def WG (J:Nat->Nat->Bool) (r a:Nat) (out:List Int) (b:Nat):List Int:=if nth out a=(r:Int)/\nth out b<0/\J a b=true then out.set b ((r:Int)+1) else out
def jbA (J:Nat->Nat->Bool) (r a:Nat) (out:List Int) (k:Nat):List Int:=(List.range k).foldl (WG J r a) out
def jbB (J:Nat->Nat->Bool) (n r:Nat) (out:List Int) (k:Nat):List Int:=(List.range k).foldl (fun o a=>jbA J r a o n) out
def yp (n s:Nat):List Int:=(List.replicate n (-1:Int)).set s 0
def xW (J:Nat->Nat->Bool) (n s k:Nat):List Int:=(List.range k).foldl (fun o r=>jbB J n r o n) (yp n s)
def sm (J:Nat->Nat->Bool) (q:Nat) (x:List Int×List Int) (b:Nat):List Int×List Int:=if nth x.1 b<0/\J q b=true then(x.1.set b (nth x.1 q+1),x.2++[(b:Int)]) else x
def sn (J:Nat->Nat->Bool) (q:Nat) (x:List Int×List Int) (k:Nat):List Int×List Int:=(List.range k).foldl (sm J q) x
def gH (J:Nat->Nat->Bool) (n:Nat) (x:List Int×List Int):List Int×List Int:=match x.2 with
 |[]=>x
 |q::_=>((sn J q.toNat x n).1,(sn J q.toNat x n).2.drop 1)
def gR (J:Nat->Nat->Bool) (n s:Nat):Nat->List Int×List Int
 |0=>(yp n s,[(s:Int)])
 |k+1=>gH J n (gR J n s k)
def jaC (J:Nat->Nat->Bool) (n s:Nat):List Int:=(gR J n s (n+1)).1
end U
theorem BL (n s:Nat):(yp n s).length=n:=by unfold yp;simp
theorem BM {n s x:Nat} (a:s<n) (b:x<n):nth (yp n s) x=if s=x then 0 else-1:=by
 unfold yp;rw[L.gL (by simpa using a),L.Ax b]
structure QP (J:Nat->Nat->Bool) (n s r a b:Nat) (out:List Int):Prop where
 len:out.length=n
 val:∀x,x<n->nth out x= -1\/(0<=nth out x/\nth out x<=(r:Int)+1)
 top:(a=0/\b=0)->∀x,x<n->nth out x<=(r:Int)
 zero:0<=nth out s
 rch:∀x,x<n->0<=nth out x->Rch J n s x
 lev:∀x,x<n->0<nth out x->∃y,y<n/\nth out y=nth out x-1
 cls:∀x y,x<n->y<n->0<=nth out x->(nth out x<(r:Int)\/(nth out x=(r:Int)/\(x<a\/(x=a/\y<b))))->J x y=true->0<=nth out y
theorem Sq {J:Nat->Nat->Bool} {n s r a b:Nat} {out:List Int} (_:s<n) (t:a<n) (u:b<n) (h:QP J n s r a b out):QP J n s r a (b+1) (WG J r a out b):=by
 unfold WG
 split
 rename_i q;obtain⟨c1,c2,v⟩:=q;have p:b<out.length:=(by rw[h.len];exact u);have c:∀j,nth (out.set b ((r:Int)+1)) j=if b=j then(r:Int)+1 else nth out j:=fun j=>L.gL p
 have o:b≠a:=fun e=>by subst e;omega
 refine⟨by simpa using h.len,fun x g=> ?_,fun e=>by omega,?_,fun x g f=> ?_,fun x g f=> ?_,fun x y g k f d l=> ?_⟩;rw[c];split;right;omega;exact h.val x g;rw[c];split;omega;exact h.zero;rw[c] at f
 split at f
 rename_i e;subst e;exact .step (h.rch a t (by omega)) u v;exact h.rch x g f;rw[c] at f⊢
 split at f
 rename_i e;subst e;rw[jh rfl];exact⟨a,t,by rw[c,jc o];omega⟩;rename_i e;rw[jc e];obtain⟨y,k,e2⟩:=h.lev x g f;refine⟨y,k,?_⟩;rw[c,jc (fun e=>by subst e;omega)];exact e2;rw[c] at f d⊢
 split
 omega;rename_i z
 split at f
 rename_i e;rw[jh e] at d;omega;rename_i e;rw[jc e] at d;refine h.cls x y g k f ?_ l;rcases d with d|⟨d,i|⟨i,w⟩⟩;exact .inl d;exact .inr ⟨d,.inl i⟩;exact .inr ⟨d,.inr ⟨i,by omega⟩⟩;rename_i q;refine⟨h.len,h.val,fun e=>by omega,h.zero,h.rch,h.lev,fun x y g k f d l=> ?_⟩;rcases d with d|⟨d,i|⟨i,w⟩⟩;exact h.cls x y g k f (.inl d) l;exact h.cls x y g k f (.inr ⟨d,.inl i⟩) l;by_cases e:y=b;subst e;subst i;rcases Int.lt_or_le (nth out y) 0 with m|m;exact absurd ⟨d,m,l⟩ q;exact m;exact h.cls x y g k f (.inr ⟨d,.inr ⟨i,by omega⟩⟩) l
theorem W5 {J:Nat->Nat->Bool} {n s r a:Nat} {out:List Int} (c:s<n) (b:a<n) (h:QP J n s r a 0 out):∀k,k<=n->QP J n s r a k (jbA J r a out k)
 |0,_=>h
 |k+1,hk=>by
  have:=Sq c b (show k<n by omega) (W5 c b h k (by omega))
  unfold jbA at this⊢
  rw[zq,jV];exact this
theorem Yl {J:Nat->Nat->Bool} {n s r a:Nat} {out:List Int} (_:0<n) (h:QP J n s r a n out):QP J n s r (a+1) 0 out:=by
 refine⟨h.len,h.val,fun e=>by omega,h.zero,h.rch,h.lev,fun x y i c d b g=>h.cls x y i c d ?_ g⟩;rcases b with b|⟨b,f|⟨f,j⟩⟩;exact .inl b;by_cases e:x=a;exact .inr ⟨b,.inr ⟨e,c⟩⟩;exact .inr ⟨b,.inl (by omega)⟩;omega
theorem W6 {J:Nat->Nat->Bool} {n s r:Nat} {out:List Int} (a:s<n) (h:QP J n s r 0 0 out):∀k,k<=n->QP J n s r k 0 (jbB J n r out k)
 |0,_=>h
 |k+1,hk=>by
  have:=Yl (by omega) (W5 a (show k<n by omega) (W6 a h k (by omega)) n (jk _))
  unfold jbB at this⊢
  rw[zq,jV];exact this
theorem Ym {J:Nat->Nat->Bool} {n s r:Nat} {out:List Int} (h:QP J n s r n 0 out):QP J n s (r+1) 0 0 out:=by
 refine⟨h.len,fun x a=> ?_,fun _ x a=> ?_,h.zero,h.rch,h.lev,fun x y a i d b g=>h.cls x y a i d ?_ g⟩;rcases h.val x a with e|⟨c,e2⟩;exact .inl e;exact .inr ⟨c,by omega⟩;rcases h.val x a with e|⟨c,e2⟩<;>omega
 rcases b with b|⟨b,f|⟨f,j⟩⟩;by_cases e:nth out x=(r:Int);exact .inr ⟨e,.inl a⟩;exact .inl (by omega);omega;omega
theorem W7 {J:Nat->Nat->Bool} {n s:Nat} (c:s<n):∀k,QP J n s k 0 0 (xW J n s k)
 |0=>by
  have hi:∀x,x<n->nth (xW J n s 0) x=if s=x then 0 else-1:=fun x a=>BM c a
  refine⟨BL n s,fun x a=> ?_,fun _ x a=> ?_,by rw[hi s c,jh rfl];omega,fun x a b=> ?_,fun x a b=> ?_,fun x y a g b f d=> ?_⟩
  rw[hi x a];split<;>simp
  rw[hi x a];split<;>simp
  rw[hi x a] at b
  split at b
  rename_i e;subst e;exact .base
  omega
  rw[hi x a] at b;split at b<;>omega
  omega
 |k+1=>by
  have:=Ym (W6 c (W7 (J:=J) c k) n (jk _))
  unfold xW at this⊢
  rw[zq,jV];exact this
theorem Sr {J:Nat->Nat->Bool} {n s r a b:Nat} {out:List Int} (h:QP J n s r a b out):∀(k:Nat) x,x<n->nth out x=(k:Int)->∀j,j<=k->∃y,y<n/\nth out y=(j:Int)
 |0,x,c,e,j,d=>⟨x,c,by rw[e];omega⟩
 |k+1,x,c,e,j,d=>by
  by_cases f:j=k+1
  exact⟨x,c,by rw[e];omega⟩
  obtain⟨y,g,e2⟩:=h.lev x c (by omega)
  exact Sr h k y g (by rw[e2];omega) j (by omega)
theorem Z4 {J:Nat->Nat->Bool} {n s x:Nat} (o:s<n) (u:x<n):nth (xW J n s n) x<0↔¬Rch J n s x:=by
 have h:=W7 (J:=J) o n;have i:∀y,y<n->nth (xW J n s n) y<(n:Int):=by
  intro y p;have c:=h.top ⟨rfl,rfl⟩ y p;rcases Int.lt_or_le (nth (xW J n s n) y) (n:Int) with l|l;exact l;exfalso;have e:nth (xW J n s n) y=(n:Int):=(by omega);have d:=Sr h n y p e;have:=L.nodup_len ((List.range (n+1)).map (fun(j:Nat)=>(j:Int))) (xW J n s n) (List.Pairwise.map _ (fun a b f=>by intro e2;exact f (by omega)) List.nodup_range) (fun z v=>by
   obtain⟨j,g,rfl⟩:=jT.1 v;obtain⟨w,t,q⟩:=d j (by have:=jC.1 g;omega);rw[<-q];exact L.wd (by rw[h.len];exact t))
  rw[h.len] at this;simp at this;omega
 constructor;intro A k;have:=k.closed (S:=fun y=>0<=nth (xW J n s n) y) o h.zero (fun a b m c r g=>h.cls a b m r c (.inl (i a m)) g);have this:0<=nth (xW J n s n) x:=this;omega;intro k;rcases Int.lt_or_le (nth (xW J n s n) x) 0 with c|c;exact c;exact absurd (h.rch x u c) k
def In (out:List Int):Nat:=out.countP (fun z=>decide (z<0))
theorem Gi:∀{out:List Int} {b:Nat} {v:Int},b<out.length->nth out b<0->0<=v->In (out.set b v)+1=In out
 |[],b,v,h,_,_=>by simp at h
 |z::r,0,v,_,a,h2=>by
  have a:z<0:=a
  unfold In
  rw[List.set_cons_zero,ke,ke,jc (by simpa using h2),jh (by simpa using a)]
 |z::r,b+1,v,h,a,h2=>by
  have:=Gi (out:=r) (b:=b) (v:=v) (by simpa using h) a h2
  unfold In at this⊢
  rw[List.set_cons_succ,ke,ke]
  omega
structure jbf (J:Nat->Nat->Bool) (n s:Nat) (ex:Nat->Nat->Prop) (x:List Int×List Int):Prop where
 len:x.1.length=n
 low:∀y,y<n->-1<=nth x.1 y/\nth x.1 y<=(n:Int)*2
 zero:0<=nth x.1 s
 rch:∀y,y<n->0<=nth x.1 y->Rch J n s y
 que:∀q,q∈x.2->0<=q/\q<(n:Int)/\0<=nth x.1 q.toNat
 cls:∀y z,y<n->z<n->0<=nth x.1 y->(y:Int)∉x.2\/ex y z->J y z=true->0<=nth x.1 z
def Lp (n:Nat) (x:List Int×List Int):Prop:=∀y,y<n->nth x.1 y+(In x.1:Int)<=(n:Int)-1
theorem E7 (J:Nat->Nat->Bool) (q:Nat) (x:List Int×List Int) (k:Nat):sn J q x (k+1)=sm J q (sn J q x k) k:=by
 unfold sn;rw[zq,jV];rfl
structure InI (J:Nat->Nat->Bool) (n s q k:Nat) (x0 x:List Int×List Int):Prop where
 i:jbf J n s (fun y z=>y=q/\z<k) x
 le:Lp n x
 mu:In x.1+x.2.length=In x0.1+x0.2.length
 pre:∃l,x.2=x0.2++l
 keep:∀y,y<n->0<=nth x0.1 y->nth x.1 y=nth x0.1 y
theorem Yn {J:Nat->Nat->Bool} {n s q k:Nat} {x0 x:List Int×List Int} (M:s<n) (p:q<n) (w:0<=nth x0.1 q) (hk:k<n) (h:InI J n s q k x0 x):InI J n s q (k+1) x0 (sm J q x k):=by
 have G:nth x.1 q=nth x0.1 q:=h.keep q p w;unfold sm
 split
 rename_i t;obtain⟨c1,c2⟩:=t;have m:k<x.1.length:=(by rw[h.i.len];exact hk);have b:∀j,nth (x.1.set k (nth x.1 q+1)) j=if k=j then nth x.1 q+1 else nth x.1 j:=fun j=>L.gL m
 have E:=Gi (v:=nth x.1 q+1) m c1 (by omega);have F:=h.le q p;have u:k≠q:=fun e=>by subst e;omega
 obtain⟨l,C⟩:=h.pre;refine⟨⟨by simpa using h.i.len,fun y d=> ?_,?_,fun y d c=> ?_,fun z f=> ?_,fun y z d f c a g=> ?_⟩,fun y d=> ?_,?_,⟨l++[(k:Int)],by simp only[C,jJ]⟩,fun y d c=> ?_⟩;simp only;rw[b];split;have:=h.i.low q p;omega;exact h.i.low y d;simp only;rw[b];split;omega;exact h.i.zero;simp only at c⊢;rw[b] at c
 split at c
 rename_i e;subst e;exact .step (h.i.rch q p (by omega)) hk c2;exact h.i.rch y d c;simp only at f⊢;rcases js.1 f with f|f;obtain⟨H,I,K⟩:=h.i.que z f;refine⟨H,I,?_⟩;rw[b];split;omega;exact K;simp at f;subst f;refine⟨by omega,by omega,?_⟩;rw[ju,b,jh rfl];omega;simp only at c a⊢;rw[b] at c⊢
 split
 omega;rename_i B;by_cases e:k=y;subst e;rcases a with a|⟨a,_⟩;exact absurd (jd _ (by simp)) a;exact absurd a u;rw[jc e] at c;refine h.i.cls y z d f c ?_ g;rcases a with a|⟨o,A⟩;exact .inl (fun D=>a (jg _ D));exact .inr ⟨o,by omega⟩;simp only;rw[b];split;omega;have:=h.le y d;omega;have:=h.mu;simp only[jL,jX,zp];omega;have:=h.keep y d c;simp only;rw[b,jc (fun e=>by subst e;omega)];exact this;rename_i t;refine⟨⟨h.i.len,h.i.low,h.i.zero,h.i.rch,h.i.que,fun y z d f c a g=> ?_⟩,h.le,h.mu,h.pre,h.keep⟩;rcases a with a|⟨o,A⟩;exact h.i.cls y z d f c (.inl a) g;by_cases e:z=k;subst e;subst o;rcases Int.lt_or_le (nth x.1 z) 0 with r|r;exact absurd ⟨r,g⟩ t;exact r;exact h.i.cls y z d f c (.inr ⟨o,by omega⟩) g
theorem Ss {J:Nat->Nat->Bool} {n s q:Nat} {x:List Int×List Int} (e:s<n) (d:q<n) (b:0<=nth x.1 q) (hi:jbf J n s (fun _ _=>False) x) (a:Lp n x):∀k,k<=n->InI J n s q k x (sn J q x k)
 |0,_=>⟨⟨hi.len,hi.low,hi.zero,hi.rch,hi.que,fun y z i j f c g=>hi.cls y z i j f (by rcases c with h|⟨_,h⟩;exact .inl h;omega) g⟩,a,rfl,⟨[],by simp[sn]⟩,fun _ _ _=>rfl⟩
 |k+1,hk=>by rw[E7];exact Yn e d b (by omega) (Ss e d b hi a k (by omega))
structure Zv (J:Nat->Nat->Bool) (n s:Nat) (x:List Int×List Int):Prop where
 i:jbf J n s (fun _ _=>False) x
 le:Lp n x
theorem Vt {J:Nat->Nat->Bool} {n s:Nat} {x:List Int×List Int} (k:s<n) (h:Zv J n s x):Zv J n s (gH J n x)/\(x.2≠[]->In (gH J n x).1+(gH J n x).2.length+1=In x.1+x.2.length):=by
 obtain⟨st,o⟩:=x;cases o with
 |nil=>exact⟨h,fun h=>absurd rfl h⟩
 |cons q r=>
  obtain⟨p,t,m⟩:=h.i.que q (by simp);have hi:=Ss k (q:=q.toNat) (by omega) m h.i h.le n (jk _);obtain⟨l,d⟩:=hi.pre;have e2:(gH J n (st,q::r))=((sn J q.toNat (st,q::r) n).1,r++l):=by
   show((sn J q.toNat (st,q::r) n).1,(sn J q.toNat (st,q::r) n).2.drop 1)=_;rw[d];rfl
  rw[e2];have b:=hi.mu;rw[d] at b;refine⟨⟨⟨hi.i.len,hi.i.low,hi.i.zero,hi.i.rch,fun z c=>hi.i.que z (by rw[d];simp only at c⊢;exact jl _ c),fun y z j c f a g=> ?_⟩,hi.le⟩,fun _=> ?_⟩;rcases a with a|a;by_cases e:y=q.toNat;exact hi.i.cls y z j c f (.inr ⟨e,c⟩) g;refine hi.i.cls y z j c f (.inl ?_) g;rw[d];intro b;rcases jj.1 b with e2|b;omega;exact a b;exact a.elim;simp only[jU,jX] at b⊢;omega
theorem N2 {J:Nat->Nat->Bool} {n s:Nat} (f:s<n):Zv J n s (gR J n s 0)/\In (gR J n s 0).1+(gR J n s 0).2.length=n:=by
 have hi:∀x,x<n->nth (yp n s) x=if s=x then 0 else-1:=fun x i=>BM f i
 have h:In (yp n s)+1=n:=by
  have:=Gi (out:=List.replicate n (-1:Int)) (b:=s) (v:=0) (by simpa using f) (by rw[L.Ax f];decide) (by decide);unfold yp;rw[this];unfold In;rw[List.countP_replicate];simp
 refine⟨⟨⟨BL n s,fun y d=> ?_,?_,fun y d c=> ?_,fun q g=> ?_,fun y z d k c a j=> ?_⟩,fun y d=> ?_⟩,?_⟩;show-1<=nth (yp n s) y/\_;rw[show nth (gR J n s 0).1 y=_ from hi y d,hi y d];split<;>omega
 show 0<=nth (yp n s) s;rw[hi s f,jh rfl];omega;have c:0<=nth (yp n s) y:=c;rw[hi y d] at c
 split at c
 rename_i e;subst e;exact .base;omega;have g:q∈[(s:Int)]:=g;simp at g;subst g;refine⟨by omega,by omega,?_⟩;show 0<=nth (yp n s) (s:Int).toNat;rw[ju,hi s f,jh rfl];omega;have c:0<=nth (yp n s) y:=c;rw[hi y d] at c
 split at c
 rename_i e;subst e;rcases a with a|a;exact absurd (show(s:Int)∈[(s:Int)] by simp) a;exact a.elim;omega;show nth (yp n s) y+(In (yp n s):Int)<=(n:Int)-1;rw[hi y d];split<;>omega
 show In (yp n s)+1=n;exact h
theorem BN {J:Nat->Nat->Bool} {n s:Nat} (b:s<n):∀k,Zv J n s (gR J n s k)/\((gR J n s k).2=[]\/In (gR J n s k).1+(gR J n s k).2.length+k=n)
 |0=>⟨(N2 b).1,.inr (N2 b).2⟩
 |k+1=>by
  obtain⟨d,a⟩:=BN b k
  obtain⟨f,g⟩:=Vt b d
  refine⟨f,?_⟩
  by_cases e:(gR J n s k).2=[]
  left
  show(gH J n (gR J n s k)).2=[]
  unfold gH
  split
  exact e
  rename_i c;rw[e] at c;cases c
  right
  have:=g e
  rcases a with a|a
  exact absurd a e
  show In (gH J n (gR J n s k)).1+(gH J n (gR J n s k)).2.length+(k+1)=n
  omega
theorem Yo {J:Nat->Nat->Bool} {n s:Nat} (a:s<n):(gR J n s (n+1)).2=[]:=by
 rcases(BN (J:=J) a (n+1)).2 with h|h;exact h;omega
theorem Vu {J:Nat->Nat->Bool} {n s k:Nat} (h:(gR J n s k).2=[]):∀m,k<=m->gR J n s m=gR J n s k:=by
 intro m c
 induction m with
 |zero=>have:k=0:=by omega
        subst this;rfl
 |succ m b=>
  by_cases e:k=m+1;rw[e];have e2:=b (by omega);show gH J n (gR J n s m)=_;rw[e2];unfold gH
  split
  rfl;rename_i a;rw[h] at a;cases a
theorem Z5 {J:Nat->Nat->Bool} {n s x:Nat} (e:s<n) (l:x<n):nth (jaC J n s) x<0↔¬Rch J n s x:=by
 have h:=(BN (J:=J) e (n+1)).1;have j:=Yo (J:=J) e;constructor;intro m d;have:=d.closed (S:=fun y=>0<=nth (jaC J n s) y) e h.i.zero (fun a b f c g k=>h.i.cls a b f g c (.inl (by rw[j];simp)) k);have this:0<=nth (jaC J n s) x:=this;omega;intro d;rcases Int.lt_or_le (nth (jaC J n s) x) 0 with c|c;exact c;exact absurd (h.i.rch x l c) d
theorem Yp {J:Nat->Nat->Bool} {n a b:Nat} (e:∀x y,J x y=J y x) (c:a<n) (d:b<n):nth (xW J n a n) b<0↔nth (jaC J n b) a<0:=by
 rw[Z4 c d,Z5 d c];exact not_congr ⟨fun h=>h.symm e c,fun h=>h.symm e d⟩
namespace U
def yE {α:Type} (p:α->Bool) (l:List α):Int:=match l.findIdx? p with|some i=>(i:Int)|none=> -1
def kX {α:Type} (F:α×Unit->Bool×Unit) (g:α):Bool:=(F (g,())).1
end U
def gfb (t:Ty) (σ:St) (s:Nat):(Ty.st [t]).Data->(Ty.st [.bool]).Data:=gfn [t] [.bool] σ s
theorem vl:∀(l:List Prop) {k:Prop},wl l->k->asks l k
 |[],_,_,hk=>hk
 |_::r,_,h,hk=>⟨h.1,vl r h.2 hk⟩
theorem yg {α:Type} [Inhabited α] {l:List α} {p:α->Bool} {i:Nat} (h:i<l.length) (a:∀b:Nat,b<i->p (nth l b)=false) (c:p (nth l i)=true):yE p l=i:=by
 have:l.findIdx? p=some i:=by
  rw[zU];refine⟨h,by rw[<-L.ql h];exact c,fun j d=> ?_⟩;have:=a j d;rw[L.ql (by omega)] at this;simp[this]
 unfold yE;rw[this]
theorem qX {α:Type} [Inhabited α] {l:List α} {p:α->Bool} {i:Nat} (h:l.length<=i) (a:∀b:Nat,b<i->p (nth l b)=false):yE p l= -1:=by
 have:l.findIdx? p=none:=by
  rw[kr];intro x c;obtain⟨k,hk,rfl⟩:=L.mem_iff.1 c;exact a k (by omega)
 unfold yE;rw[this]
theorem fo {α:Type} (p:α->Bool) (l:List α):decide (0<=yE p l)=l.any p:=by
 rw[jZ];unfold yE;simp only[jp]
 split
 rename_i i e;rw[zU] at e;obtain⟨h,a,_⟩:=e;exact⟨fun _=>j9.2 ⟨_,kL h,a⟩,fun _=>by omega⟩;rename_i e;rw[kr] at e;refine⟨fun h=>by omega,fun h=> ?_⟩;obtain⟨x,b,a⟩:=j9.1 h;have:=e x b;exact absurd (a.symm.trans this) (by simp)
theorem re {α:Type} (F:α×Unit->Bool×Unit) (l:List α):(!l.any (kX fun(x:α×Unit)=>(!kX F x.fst,())))=l.all (kX F):=by
 induction l with
 |nil=>rfl
 |cons a r b=>
  simp only[List.any_cons,List.all_cons,Bool.not_or,b];have:(!kX (fun(x:α×Unit)=>(!kX F x.fst,())) a)=kX F a:=by
   show(!(!kX F a))=_;rw[Bool.not_not]
  rw[this]
open Go.Proofs
namespace U
def so (s n:Int):Bool:=decide (yP (s/2^n.toNat) 1=1)
def Zz (b:Bool):Int:=if b=true then 1 else 0
def J8 (c:CrD) (f g:Int->Bool) (p:PeD):Bool:=((((((decide (((lv p).length:Int)=la c)&&(lv p).all f)&&kV (fd p) 0 255)&&kV (cl p) 0 255)&&decide (((y8 p).length:Int)<=10))&&(y8 p).all g)&&kV (fe p) 0 1000)
end U
def Lq:wL:=⟨[.val .int,.val .int,.val .int],[.bool],false,fun _=>[],fun d=>(kV d.1 d.2.1 d.2.2.1,())⟩
def Lr:Prop:=∀(d:Int×Int×Int×Unit),(decide (d.2.1<=d.1)&&decide (d.1<=d.2.2.1),())=(kV d.1 d.2.1 d.2.2.1,())
def lq:wL:=⟨[.val (.uint .u64),.val .int],[.bool],false,fun d=>[0<=d.2.1,d.2.1<=64],fun d=>(so d.1 d.2.1,())⟩
def Io:Prop:=∀(d:Int×Int×Unit),0<=d.2.1->d.2.1<=64->0<=d.2.1/\d.2.1<=64/\(decide (yP (d.1/(2:Int)^d.2.1.toNat) (1:Int)=1),())=(so d.1 d.2.1,())
def yM:wL:=⟨[.val (.uint .u64)],[.int],false,fun d=>[BT.vA d.1],fun d=>(BT.size d.1,())⟩
def Gj:Ann:=fun r=>match r with
 |1=>some fun σ=>{X:=Int×Int,sl:=fun x=>[(0,.dat (.uint .u64) x.1),(2,.dat .int x.2)],ob:=fun _=>[],inv:=fun x=>BT.vA x.1/\x.2+BT.size x.1=BT.size (gd (.uint .u64) σ 0),mu:=fun x=>x.1.toNat}
 |_=>none
def Gk:Prop:=∀(d:Int×Unit),BT.vA d.1->(∃(x:Int×Int),((d.1=x.1/\0=x.2/\True)/\True)/\BT.vA x.1/\x.2+BT.size x.1=BT.size d.1)/\∀(x:Int×Int),BT.vA x.1/\x.2+BT.size x.1=BT.size d.1->(decide (x.1≠0)=true->wq (x.2+1)/\0<=x.1-1/\x.1-1<=18446744073709551615/\∃(a:Int×Int),((yP x.1 (x.1-1)=a.1/\x.2+1=a.2/\True)/\True)/\(BT.vA a.1/\a.2+BT.size a.1=BT.size d.1)/\a.1.toNat<x.1.toNat)/\(decide (x.1≠0)=false->(x.2,())=(BT.size d.1,()))
def Pe:wL:=⟨[.val .bool],[.int],false,fun _=>[],fun d=>(Zz d.1,())⟩
def Pf:Prop:=∀(d:Bool×Unit),(d.1=true->((1:Int),())=(Zz d.1,()))/\(d.1=false->((0:Int),())=(Zz d.1,()))
def ow:wL:=⟨[.val (.slice .int),.fn [.int] [.bool]],[.int],false,fun d=>[∀g∈d.1,wl (d.2.1.pre (g,()))],fun d=>(yE (kX (α:=Int) d.2.1.F) d.1,())⟩
def ox:Ann:=fun r=>match r with
 |2=>some fun σ=>{X:=Nat,sl:=fun i=>[(8,.dat .int (i:Int))],ob:=fun _=>[],inv:=fun i=>i<=(gd (.slice .int) σ 0).length/\∀b:Nat,b<i->kX (gfb .int σ 1) (nth (gd (.slice .int) σ 0) b)=false,mu:=fun i=>(gd (.slice .int) σ 0).length-i}
 |_=>none
def oy:Prop:=∀(d:List Int×FnD [Ty.int] [Ty.bool]×Unit),(∀(g:Int),g∈d.1->wl (d.2.1.1 (g,())))->d.1.length<4611686018427387904->(∃(x:Nat),((0=(x:Int)/\True)/\True)/\x<=d.1.length/\∀(b:Nat),b<x->kX d.2.1.2 (nth d.1 b)=false)/\∀(x:Nat),(x<=d.1.length/\∀(b:Nat),b<x->kX d.2.1.2 (nth d.1 b)=false)->(decide ((x:Int)<d.1.length)=true->0<=(x:Int)/\(x:Int)<d.1.length/\asks (d.2.1.1 (nth d.1 (x:Int).toNat,())) (((d.2.1.2 (nth d.1 (x:Int).toNat,())).1=true->((x:Int),())=(yE (kX d.2.1.2) d.1,()))/\((d.2.1.2 (nth d.1 (x:Int).toNat,())).1=false->wq ((x:Int)+1)/\∃(a:Nat),(((x:Int)+1=(a:Int)/\True)/\True)/\(a<=d.1.length/\∀(b:Nat),b<a->kX d.2.1.2 (nth d.1 b)=false)/\d.1.length-a<d.1.length-x)))/\(decide ((x:Int)<d.1.length)=false->((-1:Int),())=(yE (kX d.2.1.2) d.1,()))
def io:wL:=⟨[.val (.slice .int),.fn [.int] [.bool]],[.bool],false,fun d=>[∀g∈d.1,wl (d.2.1.pre (g,()))],fun d=>(d.1.any (kX (α:=Int) d.2.1.F),())⟩
def iq:Prop:=∀(d:List Int×FnD [Ty.int] [Ty.bool]×Unit),(∀(g:Int),g∈d.1->wl (d.2.1.1 (g,())))->(∀(g:Int),g∈d.1->wl (d.2.1.1 (g,())))/\(decide (0<=yE (kX d.2.1.2) d.1),())=(d.1.any (kX d.2.1.2),())
def oz:wL:=⟨[.val (.slice tLw),.fn [tLw] [.bool]],[.int],false,fun d=>[∀g∈d.1,wl (d.2.1.pre (g,()))],fun d=>(yE (kX (α:=LwD) d.2.1.F) d.1,())⟩
def oA:Ann:=fun r=>match r with
 |2=>some fun σ=>{X:=Nat,sl:=fun i=>[(8,.dat .int (i:Int))],ob:=fun _=>[],inv:=fun i=>i<=(gd (.slice tLw) σ 0).length/\∀b:Nat,b<i->kX (gfb tLw σ 1) (nth (gd (.slice tLw) σ 0) b)=false,mu:=fun i=>(gd (.slice tLw) σ 0).length-i}
 |_=>none
def oB:Prop:=∀(d:List LwD×FnD [tLw] [Ty.bool]×Unit),(∀(g:LwD),g∈d.1->wl (d.2.1.1 (g,())))->d.1.length<4611686018427387904->(∃(x:Nat),((0=(x:Int)/\True)/\True)/\x<=d.1.length/\∀(b:Nat),b<x->kX d.2.1.2 (nth d.1 b)=false)/\∀(x:Nat),(x<=d.1.length/\∀(b:Nat),b<x->kX d.2.1.2 (nth d.1 b)=false)->(decide ((x:Int)<d.1.length)=true->0<=(x:Int)/\(x:Int)<d.1.length/\asks (d.2.1.1 (nth d.1 (x:Int).toNat,())) (((d.2.1.2 (nth d.1 (x:Int).toNat,())).1=true->((x:Int),())=(yE (kX d.2.1.2) d.1,()))/\((d.2.1.2 (nth d.1 (x:Int).toNat,())).1=false->wq ((x:Int)+1)/\∃(a:Nat),(((x:Int)+1=(a:Int)/\True)/\True)/\(a<=d.1.length/\∀(b:Nat),b<a->kX d.2.1.2 (nth d.1 b)=false)/\d.1.length-a<d.1.length-x)))/\(decide ((x:Int)<d.1.length)=false->((-1:Int),())=(yE (kX d.2.1.2) d.1,()))
def ir:wL:=⟨[.val (.slice tLw),.fn [tLw] [.bool]],[.bool],false,fun d=>[∀g∈d.1,wl (d.2.1.pre (g,()))],fun d=>(d.1.any (kX (α:=LwD) d.2.1.F),())⟩
def iu:Prop:=∀(d:List LwD×FnD [tLw] [Ty.bool]×Unit),(∀(g:LwD),g∈d.1->wl (d.2.1.1 (g,())))->(∀(g:LwD),g∈d.1->wl (d.2.1.1 (g,())))/\(decide (0<=yE (kX d.2.1.2) d.1),())=(d.1.any (kX d.2.1.2),())
def iv:wL:=⟨[.val (.slice tPe),.fn [tPe] [.bool]],[.int],false,fun d=>[∀g∈d.1,wl (d.2.1.pre (g,()))],fun d=>(yE (kX (α:=PeD) d.2.1.F) d.1,())⟩
def iw:Ann:=fun r=>match r with
 |2=>some fun σ=>{X:=Nat,sl:=fun i=>[(8,.dat .int (i:Int))],ob:=fun _=>[],inv:=fun i=>i<=(gd (.slice tPe) σ 0).length/\∀b:Nat,b<i->kX (gfb tPe σ 1) (nth (gd (.slice tPe) σ 0) b)=false,mu:=fun i=>(gd (.slice tPe) σ 0).length-i}
 |_=>none
def iy:Prop:=∀(d:List PeD×FnD [tPe] [Ty.bool]×Unit),(∀(g:PeD),g∈d.1->wl (d.2.1.1 (g,())))->d.1.length<4611686018427387904->(∃(x:Nat),((0=(x:Int)/\True)/\True)/\x<=d.1.length/\∀(b:Nat),b<x->kX d.2.1.2 (nth d.1 b)=false)/\∀(x:Nat),(x<=d.1.length/\∀(b:Nat),b<x->kX d.2.1.2 (nth d.1 b)=false)->(decide ((x:Int)<d.1.length)=true->0<=(x:Int)/\(x:Int)<d.1.length/\asks (d.2.1.1 (nth d.1 (x:Int).toNat,())) (((d.2.1.2 (nth d.1 (x:Int).toNat,())).1=true->((x:Int),())=(yE (kX d.2.1.2) d.1,()))/\((d.2.1.2 (nth d.1 (x:Int).toNat,())).1=false->wq ((x:Int)+1)/\∃(a:Nat),(((x:Int)+1=(a:Int)/\True)/\True)/\(a<=d.1.length/\∀(b:Nat),b<a->kX d.2.1.2 (nth d.1 b)=false)/\d.1.length-a<d.1.length-x)))/\(decide ((x:Int)<d.1.length)=false->((-1:Int),())=(yE (kX d.2.1.2) d.1,()))
def cM:wL:=⟨[.val (.slice tPe),.fn [tPe] [.bool]],[.bool],false,fun d=>[∀g∈d.1,wl (d.2.1.pre (g,()))],fun d=>(d.1.any (kX (α:=PeD) d.2.1.F),())⟩
def cN:Prop:=∀(d:List PeD×FnD [tPe] [Ty.bool]×Unit),(∀(g:PeD),g∈d.1->wl (d.2.1.1 (g,())))->(∀(g:PeD),g∈d.1->wl (d.2.1.1 (g,())))/\(decide (0<=yE (kX d.2.1.2) d.1),())=(d.1.any (kX d.2.1.2),())
def uO:wL:=⟨[.val .int,.rfn [.int] [.bool]],[.bool],false,fun d=>[wl (d.2.1.pre (d.1,()))],fun d=>(!(kX (α:=Int) d.2.1.F d.1),())⟩
def uP:Prop:=∀(d:Int×FnD [Ty.int] [Ty.bool]×Unit),wl (d.2.1.1 (d.1,()))->asks (d.2.1.1 (d.1,())) ((!(d.2.1.2 (d.1,())).1,())=(!kX d.2.1.2 d.1,()))
def Dy:wL:=⟨[.val (.slice .int),.fn [.int] [.bool]],[.bool],false,fun d=>[∀g∈d.1,wl (d.2.1.pre (g,()))],fun d=>(d.1.all (kX (α:=Int) d.2.1.F),())⟩
def Dz:Prop:=∀(d:List Int×FnD [Ty.int] [Ty.bool]×Unit),(∀(g:Int),g∈d.1->wl (d.2.1.1 (g,())))->(∀(g:Int),g∈d.1->wl [wl (d.2.1.1 (g,()))])/\(!d.1.any (kX fun(a:Int×Unit)=>(!kX d.2.1.2 a.1,())),())=(d.1.all (kX d.2.1.2),())
def uQ:wL:=⟨[.val tLw,.rfn [tLw] [.bool]],[.bool],false,fun d=>[wl (d.2.1.pre (d.1,()))],fun d=>(!(kX (α:=LwD) d.2.1.F d.1),())⟩
def uR:Prop:=∀(d:LwD×FnD [tLw] [Ty.bool]×Unit),wl (d.2.1.1 (d.1,()))->asks (d.2.1.1 (d.1,())) ((!(d.2.1.2 (d.1,())).1,())=(!kX d.2.1.2 d.1,()))
def DA:wL:=⟨[.val (.slice tLw),.fn [tLw] [.bool]],[.bool],false,fun d=>[∀g∈d.1,wl (d.2.1.pre (g,()))],fun d=>(d.1.all (kX (α:=LwD) d.2.1.F),())⟩
def DB:Prop:=∀(d:List LwD×FnD [tLw] [Ty.bool]×Unit),(∀(g:LwD),g∈d.1->wl (d.2.1.1 (g,())))->(∀(g:LwD),g∈d.1->wl [wl (d.2.1.1 (g,()))])/\(!d.1.any (kX fun(a:LwD×Unit)=>(!kX d.2.1.2 a.1,())),())=(d.1.all (kX d.2.1.2),())
def oC:wL:=⟨[.val tPe,.rfn [tPe] [.bool]],[.bool],false,fun d=>[wl (d.2.1.pre (d.1,()))],fun d=>(!(kX (α:=PeD) d.2.1.F d.1),())⟩
def oD:Prop:=∀(d:PeD×FnD [tPe] [Ty.bool]×Unit),wl (d.2.1.1 (d.1,()))->asks (d.2.1.1 (d.1,())) ((!(d.2.1.2 (d.1,())).1,())=(!kX d.2.1.2 d.1,()))
def sS:wL:=⟨[.val (.slice tPe),.fn [tPe] [.bool]],[.bool],false,fun d=>[∀g∈d.1,wl (d.2.1.pre (g,()))],fun d=>(d.1.all (kX (α:=PeD) d.2.1.F),())⟩
def sT:Prop:=∀(d:List PeD×FnD [tPe] [Ty.bool]×Unit),(∀(g:PeD),g∈d.1->wl (d.2.1.1 (g,())))->(∀(g:PeD),g∈d.1->wl [wl (d.2.1.1 (g,()))])/\(!d.1.any (kX fun(a:PeD×Unit)=>(!kX d.2.1.2 a.1,())),())=(d.1.all (kX d.2.1.2),())
def Ip:wL:=⟨[.val .int],[.bool],false,fun _=>[],fun d=>(kV d.1 0 5,())⟩
def Iq:Prop:=∀(d:Int×Unit),(kV d.1 (0:Int) (5:Int),())=(kV d.1 (0:Int) (5:Int),())
def Ir:wL:=⟨[.val .int],[.bool],false,fun _=>[],fun d=>(kV d.1 0 99,())⟩
def Is:Prop:=∀(d:Int×Unit),(kV d.1 (0:Int) (99:Int),())=(kV d.1 (0:Int) (99:Int),())
def It:wL:=⟨[.val tPe,.ref tCr,.rfn [.int] [.bool],.rfn [.int] [.bool]],[.bool],false,fun d=>[∀g∈U.lv d.1,wl (d.2.2.1.pre (g,())),∀g∈y8 d.1,wl (d.2.2.2.1.pre (g,()))],fun d=>(J8 d.2.1 (kX d.2.2.1.F) (kX d.2.2.2.1.F) d.1,())⟩
def Iu:Prop:=∀(d:PeD×CrD×FnD [Ty.int] [Ty.bool]×FnD [Ty.int] [Ty.bool]×Unit),(∀(g:Int),g∈U.lv d.1->wl (d.2.2.1.1 (g,())))->(∀(g:Int),g∈y8 d.1->wl (d.2.2.2.1.1 (g,())))->d.1.1.length<4611686018427387904->(decide ((d.1.1.length:Int)=d.2.1.1)=true->∀(g:Int),g∈d.1.1->wl (d.2.2.1.1 (g,())))/\(((decide ((d.1.1.length:Int)=d.2.1.1)&&d.1.1.all (kX d.2.2.1.2)&&kV d.1.2.1 (0:Int) (255:Int)&&kV d.1.2.2.1 (0:Int) (255:Int))=true->d.1.2.2.2.1.length<4611686018427387904)->((decide ((d.1.1.length:Int)=d.2.1.1)&&d.1.1.all (kX d.2.2.1.2)&&kV d.1.2.1 (0:Int) (255:Int)&&kV d.1.2.2.1 (0:Int) (255:Int)&&decide ((d.1.2.2.2.1.length:Int)<=10))=true->∀(g:Int),g∈d.1.2.2.2.1->wl (d.2.2.2.1.1 (g,())))/\(decide ((d.1.1.length:Int)=d.2.1.1)&&d.1.1.all (kX d.2.2.1.2)&&kV d.1.2.1 (0:Int) (255:Int)&&kV d.1.2.2.1 (0:Int) (255:Int)&&decide ((d.1.2.2.2.1.length:Int)<=10)&&d.1.2.2.2.1.all (kX d.2.2.2.1.2)&&kV d.1.q4.2.1 (0:Int) (1000:Int),())=(J8 d.2.1 (kX d.2.2.1.2) (kX d.2.2.2.1.2) d.1,()))
def Iv:wL:=⟨[.val tLw],[.bool],false,fun _=>[],fun d=>(dZ d.1,())⟩
def Iw:Prop:=∀(d:LwD×Unit),(kV d.1.1 (1:Int) (5:Int)&&kV d.1.2.1 (1:Int) (8:Int),())=(dZ d.1,())
def Ix:wL:=⟨[.val .int,.ref tCr],[.bool],false,fun d=>[wq (U.la d.2.1-1)],fun d=>(kV d.1 0 (U.la d.2.1-1),())⟩
def Iy:Prop:=∀(d:Int×CrD×Unit),wq (U.la d.2.1-1)->wq (d.2.1.1-1)/\(kV d.1 (0:Int) (d.2.1.1-1),())=(kV d.1 (0:Int) (U.la d.2.1-1),())
def Pg:wL:=⟨[.val tCr,.val tJb],[.int],false,fun _=>[],fun d=>(qW d.1 d.2.1,())⟩
abbrev jfC (d:CrD×JbD×Unit):=(!kV d.2.1.1 (0:Int) (U.la d.1-1)|| !kV d.2.1.2.1 (0:Int) (U.la d.1-1)||decide (d.2.1.1=d.2.1.2.1)|| !kV d.2.1.2.2.1 (0:Int) (99:Int)|| !kV d.2.1.2.2.2.1 (0:Int) (7:Int)|| !kV d.2.1.q4.1 (0:Int) (3:Int)|| !kV d.2.1.q4.2.1 (1:Int) (8:Int))
abbrev jd0 (d:CrD×JbD×Unit):=(8<(d.1.2.1.length:Int))
abbrev jfD:=(kX fun(a:LwD×Unit)=>(dZ a.1,()))
def Ph:Prop:=∀(d:CrD×JbD×Unit),((!!kV d.1.1 (2:Int) (5:Int))=true->d.1.2.1.length<4611686018427387904)->((!(!kV d.1.1 (2:Int) (5:Int)||decide (jd0 d)))=true->∀(g:PeD),g∈d.1.2.1->wl [∀(c:Int),c∈U.lv g->wl [],∀(c:Int),c∈y8 g->wl []])/\(((!(!kV d.1.1 (2:Int) (5:Int)||decide (jd0 d)|| !d.1.2.1.all (kX fun(b:PeD×Unit)=>(J8 d.1 (kX fun(b:Int×Unit)=>(kV b.1 (0:Int) (5:Int),())) (kX fun(b:Int×Unit)=>(kV b.1 (0:Int) (99:Int),())) b.1,()))))=true->d.1.2.2.1.length<4611686018427387904)->((!(!kV d.1.1 (2:Int) (5:Int)||decide (jd0 d)|| !d.1.2.1.all (kX fun(a:PeD×Unit)=>(J8 d.1 (kX fun(a:Int×Unit)=>(kV a.1 (0:Int) (5:Int),())) (kX fun(a:Int×Unit)=>(kV a.1 (0:Int) (99:Int),())) a.1,()))||decide ((d.1.2.2.1.length:Int)≠4)))=true->∀(g:LwD),g∈d.1.2.2.1->wl [])/\((!kV d.1.1 (2:Int) (5:Int)||decide (jd0 d)|| !d.1.2.1.all (kX fun(a:PeD×Unit)=>(J8 d.1 (kX fun(a:Int×Unit)=>(kV a.1 (0:Int) (5:Int),())) (kX fun(a:Int×Unit)=>(kV a.1 (0:Int) (99:Int),())) a.1,()))||decide ((d.1.2.2.1.length:Int)≠4)|| !d.1.2.2.1.all jfD)=true->((30:Int),())=(qW d.1 d.2.1,()))/\((!kV d.1.1 (2:Int) (5:Int)||decide (jd0 d)|| !d.1.2.1.all (kX fun(a:PeD×Unit)=>(J8 d.1 (kX fun(a:Int×Unit)=>(kV a.1 (0:Int) (5:Int),())) (kX fun(a:Int×Unit)=>(kV a.1 (0:Int) (99:Int),())) a.1,()))||decide ((d.1.2.2.1.length:Int)≠4)|| !d.1.2.2.1.all jfD)=false->wq (U.la d.1-1)/\((!!kV d.2.1.1 (0:Int) (U.la d.1-1))=true->wq (U.la d.1-1))/\((jfC d)=true->((31:Int),())=(qW d.1 d.2.1,()))/\((jfC d)=false->((0:Int),())=(qW d.1 d.2.1,()))))
theorem Pi:Lr:=by
 intro d;rfl
theorem y6:wU PR 152 Lq:=wF Pi Tryz.func152 kcN koN
theorem Ls:Io:=by
 intro d a b;exact⟨a,b,rfl⟩
theorem Iz:wU PR 235 lq:=wF Ls Tryz.func235 kcN koN
theorem IA:Gk:=by
 rintro⟨s,⟨⟩⟩ e;refine⟨⟨(s,0),⟨⟨rfl,rfl,tZ⟩,tZ⟩,e,by simp⟩,?_⟩;rintro⟨x,n⟩ ⟨a,b⟩;have a:BT.vA x:=a;have g:=BT.size_le s;have f:=BT.size_le x;refine⟨fun h=> ?_,fun h=> ?_⟩;have h:x≠0:=jb h;obtain⟨d,i,j⟩:=BT.pred a h;have c:=a;unfold BT.vA at c;simp only at b⊢;exact⟨iZ6,by omega,by omega,(yP x (x-1),n+1),⟨⟨rfl,rfl,tZ⟩,tZ⟩,⟨d,(by omega:n+1+BT.size (yP x (x-1))=BT.size s)⟩,(by unfold BT.vA at d;omega:(yP x (x-1)).toNat<x.toNat)⟩;have h:x=0:=(by simpa using h);subst h;simp only[BT.size_zero] at b;simp only at b⊢;rw[show n=BT.size s by omega]
theorem Gl:wU PR 214 yM:=yi Gj IA Tryz.func214 kcN koN
theorem Su:Pf:=by
 rintro⟨b,⟨⟩⟩;exact⟨fun h=>by simp only at h;subst h;rfl,fun h=>by simp only at h;subst h;rfl⟩
theorem Pj:wU PR 208 Pe:=wF Su Tryz.func208 kcN koN
theorem rg:oy:=by
 rintro⟨l,f,⟨⟩⟩ a g;refine⟨⟨0,⟨⟨rfl,tZ⟩,tZ⟩,jw _,fun b c=>by omega⟩,fun i hi=>⟨fun h=> ?_,fun h=> ?_⟩⟩;have h:i<l.length:=(by simpa using h);simp only[ju] at*;refine⟨by omega,by omega,vl _ (a _ (L.wd h)) ⟨fun c=> ?_,fun c=>⟨iZ6,i+1,⟨⟨by simp,tZ⟩,tZ⟩,⟨by omega,fun b d=> ?_⟩,by omega⟩⟩⟩;rw[yg (p:=kX (α:=Int) f.F) h hi.2 c];by_cases e:b=i;subst e;exact c;exact hi.2 b (by omega);have h:l.length<=i:=(by simpa using h);rw[qX (p:=kX (α:=Int) f.F) h hi.2]
theorem oE:wU PR 131 ow:=yi ox rg Tryz.func131 kcN koN
theorem lr:iq:=by
 rintro⟨l,f,⟨⟩⟩ a;refine⟨a,?_⟩;exact jS (·,()) (fo (kX (α:=Int) f.F) l)
theorem yj:wU PR 84 io:=wF lr Tryz.func84 (kcC oE kcN) koN
theorem rh:oB:=by
 rintro⟨l,f,⟨⟩⟩ a g;refine⟨⟨0,⟨⟨rfl,tZ⟩,tZ⟩,jw _,fun b c=>by omega⟩,fun i hi=>⟨fun h=> ?_,fun h=> ?_⟩⟩;have h:i<l.length:=(by simpa using h);simp only[ju] at*;refine⟨by omega,by omega,vl _ (a _ (L.wd h)) ⟨fun c=> ?_,fun c=>⟨iZ6,i+1,⟨⟨by simp,tZ⟩,tZ⟩,⟨by omega,fun b d=> ?_⟩,by omega⟩⟩⟩;rw[yg (p:=kX (α:=LwD) f.F) h hi.2 c];by_cases e:b=i;subst e;exact c;exact hi.2 b (by omega);have h:l.length<=i:=(by simpa using h);rw[qX (p:=kX (α:=LwD) f.F) h hi.2]
theorem oF:wU PR 217 oz:=yi oA rh Tryz.func217 kcN koN
theorem lu:iu:=by
 rintro⟨l,f,⟨⟩⟩ a;refine⟨a,?_⟩;exact jS (·,()) (fo (kX (α:=LwD) f.F) l)
theorem iz:wU PR 190 ir:=wF lu Tryz.func190 (kcC oF kcN) koN
theorem lw:iy:=by
 rintro⟨l,f,⟨⟩⟩ a g;refine⟨⟨0,⟨⟨rfl,tZ⟩,tZ⟩,jw _,fun b c=>by omega⟩,fun i hi=>⟨fun h=> ?_,fun h=> ?_⟩⟩;have h:i<l.length:=(by simpa using h);simp only[ju] at*;refine⟨by omega,by omega,vl _ (a _ (L.wd h)) ⟨fun c=> ?_,fun c=>⟨iZ6,i+1,⟨⟨by simp,tZ⟩,tZ⟩,⟨by omega,fun b d=> ?_⟩,by omega⟩⟩⟩;rw[yg (p:=kX (α:=PeD) f.F) h hi.2 c];by_cases e:b=i;subst e;exact c;exact hi.2 b (by omega);have h:l.length<=i:=(by simpa using h);rw[qX (p:=kX (α:=PeD) f.F) h hi.2]
theorem iA:wU PR 216 iv:=yi iw lw Tryz.func216 kcN koN
theorem dB:cN:=by
 rintro⟨l,f,⟨⟩⟩ a;refine⟨a,?_⟩;exact jS (·,()) (fo (kX (α:=PeD) f.F) l)
theorem cO:wU PR 188 cM:=wF dB Tryz.func188 (kcC iA kcN) koN
theorem BO:uP:=by
 intro d h;exact vl _ h rfl
theorem uS:wU PR 187 uO:=wF BO Tryz.func187 kcN koN
theorem Gm:Dz:=by
 intro d h;exact⟨fun g a=>⟨h g a,tZ⟩,jS (·,()) (re d.snd.fst.2 d.fst)⟩
theorem DC:wU PR 155 Dy:=wF Gm Tryz.func155 (kcC yj (kcC uS kcN)) koN
theorem BP:uR:=by
 intro d h;exact vl _ h rfl
theorem uT:wU PR 191 uQ:=wF BP Tryz.func191 kcN koN
theorem Gn:DB:=by
 intro d h;exact⟨fun g a=>⟨h g a,tZ⟩,jS (·,()) (re d.snd.fst.2 d.fst)⟩
theorem DD:wU PR 159 DA:=wF Gn Tryz.func159 (kcC iz (kcC uT kcN)) koN
theorem ri:oD:=by
 intro d h;exact vl _ h rfl
theorem oG:wU PR 189 oC:=wF ri Tryz.func189 kcN koN
theorem uU:sT:=by
 intro d h;exact⟨fun g a=>⟨h g a,tZ⟩,jS (·,()) (re d.snd.fst.2 d.fst)⟩
theorem sU:wU PR 158 sS:=wF uU Tryz.func158 (kcC cO (kcC oG kcN)) koN
theorem Lt:Iq:=fun _=>rfl
theorem IB:wU PR 151 Ip:=wF Lt Tryz.func151 (kcC y6 kcN) koN
theorem Lu:Is:=fun _=>rfl
theorem IC:wU PR 153 Ir:=wF Lu Tryz.func153 (kcC y6 kcN) koN
theorem Lw:Iu:=by
 unfold Iu Prod.q4;rintro⟨p,c,f,g,⟨⟩⟩ a b _;exact⟨fun _=>a,fun _=>⟨fun _=>b,rfl⟩⟩
theorem ID:wU PR 154 It:=wF Lw Tryz.func154 (kcC y6 (kcC DC kcN)) koN
theorem Lx:Iw:=fun _=>rfl
theorem IE:wU PR 156 Iv:=wF Lx Tryz.func156 (kcC y6 kcN) koN
theorem Ly:Iy:=fun _ h=>⟨h,rfl⟩
theorem IF:wU PR 157 Ix:=wF Ly Tryz.func157 (kcC y6 kcN) koN
theorem Yq (c:CrD) (p:PeD):J8 c (fun x=>kV x 0 5) (fun x=>kV x 0 99) p=fP (U.la c) p:=by
 rw[jZ];simp only[J8,fP,kV,ji,jp];constructor;rintro⟨⟨⟨⟨⟨⟨e,f⟩,a⟩,b⟩,k⟩,i⟩,d⟩;exact⟨⟨e,a.1,a.2,b.1,b.2,by omega,d.1,d.2⟩,f,i⟩;rintro⟨⟨e,a,g,b,h,k,d,j⟩,f,i⟩;exact⟨⟨⟨⟨⟨⟨e,f⟩,a,g⟩,b,h⟩,by omega⟩,i⟩,d,j⟩
theorem Yr (c:CrD):(((((!kV c.1 2 5||decide (8<((c.2.1.length:Nat):Int)))|| !c.2.1.all (fP (U.la c)))||decide (((c.2.2.1.length:Nat):Int)≠4))|| !c.2.2.1.all dZ))= !wz c:=by
 unfold wz;show _= !(decide (2<=c.1/\c.1<=5/\c.2.1.length<=8/\c.2.2.1.length=4)&&(c.2.1.all (fP (U.la c))&&c.2.2.1.all dZ));cases c.2.1.all (fP (U.la c))<;>cases c.2.2.1.all dZ<;>simp only[kV,Bool.not_true,Bool.not_false,Bool.or_true,Bool.or_false,Bool.and_true,ku,Bool.true_or]
 rw[jZ];simp only[zo,jO,kj,jp,jE];omega
theorem Z6 (c:CrD) (j:JbD):((((((!kV j.1 0 (U.la c-1)|| !kV j.2.1 0 (U.la c-1))||decide (j.1=j.2.1))|| !kV j.2.2.1 0 99)|| !kV j.2.2.2.1 0 7)|| !kV j.2.2.2.2.1 0 3)|| !kV j.2.2.2.2.2.1 1 8)= !qr c j:=by
 have key:(qr c j=false)↔¬(0<=j.1/\j.1<=U.la c-1/\0<=j.2.1/\j.2.1<=U.la c-1/\j.1≠j.2.1/\0<=j.2.2.1/\j.2.2.1<=99/\0<=j.2.2.2.1/\j.2.2.2.1<=7/\0<=j.2.2.2.2.1/\j.2.2.2.2.1<=3/\1<=j.2.2.2.2.2.1/\j.2.2.2.2.2.1<=8):=by
  unfold qr;exact jE
 rw[jZ,jO,key];simp only[kV,zo,jO,kj,jp,jE];omega
theorem Sv:Ph:=by
 unfold Ph jfD jd0 jfC Prod.q4;rintro⟨c,j,⟨⟩⟩;have f:∀p,kX (fun(x:PeD×Unit)=>(J8 c (kX fun(x:Int×Unit)=>(kV x.fst 0 5,())) (kX fun(x:Int×Unit)=>(kV x.fst 0 99,())) x.fst,())) p=fP (U.la c) p:=fun p=>Yq c p
 have e2:(kX fun(x:LwD×Unit)=>(dZ x.fst,()))=dZ:=rfl;have d:=Yr c;have e:=Z6 c j;intro _;refine⟨fun _ g _=>⟨fun _ _=>tZ,fun _ _=>tZ,tZ⟩,fun _=> ?_⟩;simp only at d e⊢;rw[funext f,e2,d,e];refine⟨fun _ _ _=>tZ,fun h=> ?_,fun h=> ?_⟩;have h:wz c=false:=(by simpa using h);unfold qW;rw[jh h];have h:wz c=true:=(by simpa using h);have i:2<=U.la c/\U.la c<=5:=by
  unfold wz at h;simp only[ji,jp] at h;exact⟨h.1.1,h.1.2.1⟩
 have b:wq (U.la c-1):=iZ6;refine⟨b,fun _=>b,fun a=> ?_,fun a=> ?_⟩;have a:qr c j=false:=(by simpa using a);unfold qW;rw[jc (by rw[h];simp),jh a];have a:qr c j=true:=(by simpa using a);unfold qW;rw[jc (by rw[h];simp),jc (by rw[a];simp)]
theorem E8:wU PR 115 Pg:=wF Sv Tryz.func115 (kcC y6 (kcC sU (kcC DD (kcC IB (kcC IC (kcC ID (kcC IE (kcC IF kcN)))))))) koN
abbrev tTk:Ty:= .st [tCr,tJb,tLw]
abbrev TkD:Type:=CrD×JbD×LwD×Unit
namespace U
def tk (o:Option TkD):TkD:=wy (Ty.dflt tTk) o
def tc (t:TkD):CrD:=t.1
def tj (t:TkD):JbD:=t.2.1
def tl (t:TkD):LwD:=t.2.2.1
def Fr (c:CrD) (j:JbD):Option TkD:=if qW c j=0 then some (c,j,d4 c j,()) else none
def bS (t:TkD):Prop:=wz (tc t)=true/\qr (tc t) (tj t)=true/\tl t=d4 (tc t) (tj t)
def QF (a b c:Bool):Int:=Zz a+2*Zz b+4*Zz c
def vL (t:TkD) (p:PeD):Int:=QF (J7 p (WB (tj t))) (!gF (fd p) (WC (tj t))) (!gF (cl p) (fO (tj t)))
def sq (t:TkD) (p:PeD):List (Int×Int):=[(0,Zz (!J7 p (WB (tj t)))),(1,nI (fd p/2^(WC (tj t)).toNat) 1),(2,nI (cl p/2^(fO (tj t)).toNat) 1)]
def aH (all left:List (Int×Int)) (out:Int):Prop:=BT.vA out/\left.Nodup/\(∀e∈left,e∈all)/\∀p:Nat,BT.has out p=true↔∃e∈all,e∉left/\e.2=0/\e.1.toNat=p
def yA (t:TkD) (s:Int) (n:Nat):List (Int×PeD×Unit):=((List.range n).filter (fun(i:Nat)=>so s (i:Int))).map (fun(i:Nat)=>((i:Int),nth (we (tc t)) i,()))
def uF (t:TkD) (s:Int):List (Int×PeD×Unit):=yA t s (we (tc t)).length
def jn (t:TkD) (a b:Int) (x:Int×PeD×Unit):Bool:=decide (UH (tl t)<=min (nth (lv x.2.1) a.toNat) (nth (lv x.2.1) b.toNat))
def lZ (t:TkD) (s a b:Int):Bool:=(uF t s).any (jn t a b)
def gI (t:TkD) (a b:Int) (q:List (Int×PeD×Unit)):Bool:=match q.getLast? with|some x=>jn t a b x|none=>false
end U
def BQ:wL:=⟨[.val (.slice .int),.val .int],[.int],false,fun _=>[],fun d=>(yE (fun x=>decide (x=d.2.1)) d.1,())⟩
def BR:Ann:=fun r=>match r with
 |2=>some fun σ=>{X:=Nat,sl:=fun i=>[(8,.dat .int (i:Int))],ob:=fun _=>[],inv:=fun i=>i<=(gd (.slice .int) σ 0).length/\∀b:Nat,b<i->decide (nth (gd (.slice .int) σ 0) b=gd .int σ 1)=false,mu:=fun i=>(gd (.slice .int) σ 0).length-i}
 |_=>none
def BS:Prop:=∀(d:List Int×Int×Unit),d.1.length<4611686018427387904->(∃(x:Nat),((0=(x:Int)/\True)/\True)/\x<=d.1.length/\∀(b:Nat),b<x->decide (nth d.1 b=d.2.1)=false)/\∀(x:Nat),(x<=d.1.length/\∀(b:Nat),b<x->decide (nth d.1 b=d.2.1)=false)->(decide ((x:Int)<d.1.length)=true->0<=(x:Int)/\(x:Int)<d.1.length/\(decide (d.2.1=nth d.1 (x:Int).toNat)=true->((x:Int),())=(yE (fun(c:Int)=>decide (c=d.2.1)) d.1,()))/\(decide (d.2.1=nth d.1 (x:Int).toNat)=false->wq ((x:Int)+1)/\∃(a:Nat),(((x:Int)+1=(a:Int)/\True)/\True)/\(a<=d.1.length/\∀(b:Nat),b<a->decide (nth d.1 b=d.2.1)=false)/\d.1.length-a<d.1.length-x))/\(decide ((x:Int)<d.1.length)=false->((-1:Int),())=(yE (fun(c:Int)=>decide (c=d.2.1)) d.1,()))
def rj:wL:=⟨[.val (.slice .int),.val .int],[.bool],false,fun _=>[],fun d=>(d.1.any (fun x=>decide (x=d.2.1)),())⟩
def rk:Prop:=∀(d:List Int×Int×Unit),(decide (0<=yE (fun(a:Int)=>decide (a=d.2.1)) d.1),())=(d.1.any fun(b:Int)=>decide (b=d.2.1),())
def Sw:wL:=⟨[.val tCr,.val tJb],[.ptr tTk,.int],false,fun _=>[],fun d=>(Fr d.1 d.2.1,qW d.1 d.2.1,())⟩
def Sx:Prop:=∀(d:CrD×JbD×Unit),(decide (qW d.1 d.2.1≠0)=true->(none,qW d.1 d.2.1,())=(Fr d.1 d.2.1,qW d.1 d.2.1,()))/\(decide (qW d.1 d.2.1≠0)=false->0<=d.2.1.q4.1/\d.2.1.q4.1<(d.1.2.2.1.length:Int)/\(some (d.1,d.2.1,nth d.1.2.2.1 d.2.1.q4.1.toNat,()),(0:Int),())=(Fr d.1 d.2.1,qW d.1 d.2.1,()))
def LM (d:PD [.ref (.ptr tTk),.ref (.uint .u64)]) (xs:List (Ty.st [.int,tPe]).Data):Prop:=xs=uF (U.tk d.1) d.2.1
def Pk (d:PD [.ref (.ptr tTk),.ref (.uint .u64)]):Ak (YS [.int,tPe]):=fun r=>match r with
 |1=>some fun _ _=>{X:=Nat,sl:=fun i=>[(12,.dat .int (i:Int))],ob:=fun _=>[],ys:=fun i=>(yA (U.tk d.1) d.2.1 i,true),inv:=fun i=>i<=(we (U.tc (U.tk d.1))).length,mu:=fun i=>(we (U.tc (U.tk d.1))).length-i}
 |_=>none
abbrev jd1 (d:Option (CrD×JbD×LwD×Unit)×Int×Unit):=(wy (((0:Int),[],[],()),((0:Int),(0:Int),(0:Int),(0:Int),(0:Int),(0:Int),()),((0:Int),(0:Int),false,()),()) d.1)
abbrev jcL (d:Option (CrD×JbD×LwD×Unit)×Int×Unit):=(we (U.tc (U.tk d.1)))
abbrev jd2 (x:Nat)(d:Option (CrD×JbD×LwD×Unit)×Int×Unit):=((x:Int),nth (jd1 d).1.2.1 (x:Int).toNat,())
abbrev je0 (x:Nat)(a:Nat):=(((x:Int)+1=(a:Int)/\True)/\True)
def bH:Prop:=∀(d:Option (CrD×JbD×LwD×Unit)×Int×Unit) (l:Nat),d.1.isSome=true->(jcL d).length<=60->d.1.isSome=true/\((jd1 d).1.2.1.length<4611686018427387904->(∃(x:Nat),((0=(x:Int)/\True)/\True)/\([],true)=(yA (U.tk d.1) d.2.1 x,true)/\x<=(jcL d).length)/\∀(x:Nat),x<=(jcL d).length->(decide ((x:Int)<(jd1 d).1.2.1.length)=true->0<=(x:Int)/\(x:Int)<(jd1 d).1.2.1.length/\0<=(x:Int)/\(x:Int)<=64/\(so d.2.1 (x:Int)=true->l=l/\(∃(rest:List (Int×PeD×Unit)),yA (U.tk d.1) d.2.1 x++[(jd2 x d)]++rest=uF (U.tk d.1) d.2.1)/\(((so d.2.1 (x:Int)&& !true)=true->true=true->yA (U.tk d.1) d.2.1 x++[(jd2 x d)]=uF (U.tk d.1) d.2.1)/\((so d.2.1 (x:Int)&& !true)=false->wq ((x:Int)+1)/\∃(a:Nat),(je0 x a)/\(yA (U.tk d.1) d.2.1 x++[(jd2 x d)],true)=(yA (U.tk d.1) d.2.1 a,true)/\a<=(jcL d).length/\(jcL d).length-a<(jcL d).length-x))/\((so d.2.1 (x:Int)&& !false)=true->false=true->yA (U.tk d.1) d.2.1 x++[(jd2 x d)]=uF (U.tk d.1) d.2.1)/\((so d.2.1 (x:Int)&& !false)=false->wq ((x:Int)+1)/\∃(a:Nat),(je0 x a)/\(yA (U.tk d.1) d.2.1 x++[(jd2 x d)],false)=(yA (U.tk d.1) d.2.1 a,true)/\a<=(jcL d).length/\(jcL d).length-a<(jcL d).length-x))/\(so d.2.1 (x:Int)=false->((so d.2.1 (x:Int)&& !false)=true->true=true->yA (U.tk d.1) d.2.1 x=uF (U.tk d.1) d.2.1)/\((so d.2.1 (x:Int)&& !false)=false->wq ((x:Int)+1)/\∃(a:Nat),(je0 x a)/\(yA (U.tk d.1) d.2.1 x,true)=(yA (U.tk d.1) d.2.1 a,true)/\a<=(jcL d).length/\(jcL d).length-a<(jcL d).length-x)))/\(decide ((x:Int)<(jd1 d).1.2.1.length)=false->true=true->yA (U.tk d.1) d.2.1 x=uF (U.tk d.1) d.2.1))
theorem iB:(Vk (ctx 28 [(235,lq)] []) (wS Tryz.f234) [.int,tPe] [.ref (.ptr tTk),.ref (.uint .u64)] LM (fun d=>[d.1.isSome=true,(we (U.tc (U.tk d.1))).length<=60]) (fun d _=>Pk d) (fun d l=>hkY [.int,tPe] l [24] (fun q=>∃rest,LM d (q++rest)) (fun _=>none)))=bH:=by kernel_rfl
def wI:ol:=⟨[.val (.ptr tTk),.val (.uint .u64)],fun _=>[],234,[.ptr tTk,.uint .u64],fun d=>(d.1,d.2.1,())⟩
def dC:Prop:=∀(d:Option (CrD×JbD×LwD×Unit)×Int×Unit),d=d
theorem mG:(Se (ctx 6 [] []) (fun _=>none) Tryz.f213 (wS Tryz.f213) wI)=dC:=by kernel_rfl
def N3 (sv:SV):Option (Prop×(List (Ty.st [.int,tPe]).Data->Prop)):=match sv with
 | .clo 234 [.ep b t,.ep c s]=>(match qi b (.ptr tTk) t,qi c (.uint .u64) s with
  |some a,some d=>some ((a.isSome=true/\(we (U.tc (U.tk a))).length<=60),fun xs=>xs=uF (U.tk a) d)
  |_,_=>none)
 |_=>none
def Sy:Ic [.int,tPe]:={ps:=[.ref (.ptr tTk),.ref .int,.ref .int,.own (.box 4 [.dat .bool]) true],slots:=[4,6,7,8],dst:=34,pre:=fun _=>[],G:=fun d q=>((d.2.2.2.1.1||gI (U.tk d.1) d.2.1 d.2.2.1 q,()),()),stop:=fun d q=>gI (U.tk d.1) d.2.1 d.2.2.1 q,seq:=N3}
def BU:Nat->Option ((ts:List Ty)×Ic ts):=fun r=>match r with
 |3=>some ⟨[.int,tPe],Sy⟩
 |_=>none
def fW:wL:=⟨[.val (.ptr tTk),.val (.uint .u64),.val .int,.val .int],[.bool],false,
 fun d=>[d.1.isSome=true,bS (U.tk d.1),0<=d.2.2.1,d.2.2.1<U.la (U.tc (U.tk d.1)),0<=d.2.2.2.1,d.2.2.2.1<U.la (U.tc (U.tk d.1))],fun d=>(lZ (U.tk d.1) d.2.1 d.2.2.1 d.2.2.2.1,())⟩
abbrev jfE (d:Option (CrD×JbD×LwD×Unit)×Int×Int×Int×Unit)(x:Int×PeD×Unit):=((wy (((0:Int),[],[],()),((0:Int),(0:Int),(0:Int),(0:Int),(0:Int),(0:Int),()),((0:Int),(0:Int),false,()),()) d.1).2.2.1.1<=min (nth x.2.1.1 d.2.2.1.toNat) (nth x.2.1.1 d.2.2.2.1.toNat))
abbrev je1 (d:Option (CrD×JbD×LwD×Unit)×Int×Int×Int×Unit):=(fun(a:List (Int×PeD×Unit))=>gI (U.tk d.1) d.2.2.1 d.2.2.2.1 a)
def fX:Prop:=∀(d:Option (CrD×JbD×LwD×Unit)×Int×Int×Int×Unit),d.1.isSome=true->bS (U.tk d.1)->0<=d.2.2.1->d.2.2.1<U.la (U.tc (U.tk d.1))->0<=d.2.2.2.1->d.2.2.2.1<U.la (U.tc (U.tk d.1))->(d.1.isSome=true/\(we (U.tc (U.tk d.1))).length<=60)/\True/\(d.1,d.2.2.1,d.2.2.2.1,(false||gI (U.tk d.1) d.2.2.1 d.2.2.2.1 [],()),())=(d.1,d.2.2.1,d.2.2.2.1,(false,()),())/\(∀(q:List (Int×PeD×Unit)) (x:Int×PeD×Unit) (rest:List (Int×PeD×Unit)),q++x::rest=uF (U.tk d.1) d.2.1->yh (je1 d) q->0<=d.2.2.1/\d.2.2.1<(x.2.1.1.length:Int)/\0<=d.2.2.2.1/\d.2.2.2.1<(x.2.1.1.length:Int)/\d.1.isSome=true/\(decide (jfE d x)=true->gI (U.tk d.1) d.2.2.1 d.2.2.2.1 (q++[x])=true/\((true,()),())=((false||gI (U.tk d.1) d.2.2.1 d.2.2.2.1 (q++[x]),()),()))/\(decide (jfE d x)=false->gI (U.tk d.1) d.2.2.1 d.2.2.2.1 (q++[x])=false/\((false||gI (U.tk d.1) d.2.2.1 d.2.2.2.1 q,()),())=((false||gI (U.tk d.1) d.2.2.1 d.2.2.2.1 (q++[x]),()),())))/\(∀(xs:List (Int×PeD×Unit)),xs=uF (U.tk d.1) d.2.1->yh (je1 d) xs->(false,())=(lZ (U.tk d.1) d.2.1 d.2.2.1 d.2.2.2.1,()))/\∀(q:List (Int×PeD×Unit)) (x:Int×PeD×Unit) (rest:List (Int×PeD×Unit)),q++x::rest=uF (U.tk d.1) d.2.1->yh (je1 d) q->gI (U.tk d.1) d.2.2.1 d.2.2.2.1 (q++[x])=true->(false||gI (U.tk d.1) d.2.2.1 d.2.2.2.1 (q++[x]),())=(lZ (U.tk d.1) d.2.1 d.2.2.1 d.2.2.2.1,())
theorem oH:(N0 (Kq 33 [] [] [(213,wI)] []) fW (fun _ _=>none) (hkC (Kq 33 [] [] [(213,wI)] []) (fun _=>none) BU [] []) Tryz.f237 (wS Tryz.f237))=fX:=by kernel_rfl
theorem DE:BS:=by
 rintro⟨l,x,⟨⟩⟩ d;refine⟨⟨0,⟨⟨rfl,tZ⟩,tZ⟩,jw _,fun b a=>by omega⟩,fun i hi=>⟨fun h=> ?_,fun h=> ?_⟩⟩;have h:i<l.length:=(by simpa using h);simp only[ju] at*;refine⟨by omega,by omega,fun a=> ?_,fun a=>⟨iZ6,i+1,⟨⟨by simp,tZ⟩,tZ⟩,⟨by omega,fun b c=> ?_⟩,by omega⟩⟩;rw[yg (p:=fun y=>decide (y=x)) h hi.2 (by have:=jb a;rw[<-this];exact jI rfl)];by_cases e:b=i;subst e;exact za (fun e=>je a e.symm);exact hi.2 b (by omega);have h:l.length<=i:=(by simpa using h);rw[qX (p:=fun y=>decide (y=x)) h hi.2]
theorem BV:wU PR 184 BQ:=yi BR DE Tryz.func184 kcN koN
theorem sV:rk:=by
 rintro⟨l,x,⟨⟩⟩;exact jS (·,()) (fo (fun y=>decide (y=x)) l)
theorem cx:wU PR 144 rj:=wF sV Tryz.func144 (kcC BV kcN) koN
theorem oI {c:CrD} {j:JbD} (h:qW c j=0):wz c=true/\qr c j=true:=by
 unfold qW at h
 split at h
 omega
 split at h
 omega;rename_i a b;exact⟨by simpa using a,by simpa using b⟩
theorem qx {c:CrD} (h:wz c=true):2<=U.la c/\U.la c<=5/\(we c).length<=8/\(yk c).length=4/\(∀p∈we c,fP (U.la c) p=true)/\∀l∈yk c,dZ l=true:=by
 unfold wz at h;simp only[ji,jp,j6] at h;exact⟨h.1.1,h.1.2.1,h.1.2.2.1,h.1.2.2.2,h.2.1,h.2.2⟩
theorem lx {c:CrD} {j:JbD} (h:qr c j=true):(0<=QR j/\QR j<U.la c)/\(0<=Kr j/\Kr j<U.la c)/\QR j≠Kr j/\(0<=WC j/\WC j<=7)/\(0<=fO j/\fO j<=3)/\(1<=Zy j/\Zy j<=8):=by
 unfold qr at h;have h:=jb h;obtain⟨d,m,e,n,f,_,_,g,i,k,l,a,b⟩:=h;exact⟨⟨d,by omega⟩,⟨e,by omega⟩,f,⟨g,i⟩,⟨k,l⟩,a,b⟩
theorem Sz {c:CrD} {j:JbD} (h:qW c j=0):Fr c j=some (c,j,d4 c j,())/\bS (c,j,d4 c j,()):=by
 obtain⟨a,b⟩:=oI h;exact⟨by unfold Fr;rw[jh h],a,b,rfl⟩
theorem Vv:Sx:=by
 unfold Sx Prod.q4;rintro⟨c,j,⟨⟩⟩;refine⟨fun h=> ?_,fun h=> ?_⟩;have h:qW c j≠0:=jb h;simp only;unfold Fr;rw[jc h];have h:qW c j=0:=(by simpa using h);obtain⟨b,d⟩:=oI h;obtain⟨_,_,_,a,_⟩:=qx b;obtain⟨_,_,_,_,hk,_⟩:=lx d;have hk:0<=j.2.2.2.2.1/\j.2.2.2.2.1<=3:=hk;have a:c.2.2.1.length=4:=a;refine⟨hk.1,by simp only;omega,?_⟩;simp only;rw[(Sz h).1,h];rfl
theorem IG:wU PR 179 Sw:=wF Vv Tryz.func179 (kcC E8 kcN) koN
theorem sW (t:TkD) (s:Int) (n:Nat):yA t s (n+1)=yA t s n++(if so s (n:Int)=true then[((n:Int),nth (we (U.tc t)) n,())] else[]):=by
 unfold yA;rw[L.cH,zC]
 split<;>simp
theorem SA (t:TkD) (s:Int) {n m:Nat} (h:n<=m):∃rest,yA t s n++rest=yA t s m:=by
 induction m with
 |zero=>
  have:n=0:=(by omega);subst this;exact⟨[],by simp⟩
 |succ m b=>
  by_cases e:n=m+1;subst e;exact⟨[],by simp⟩;obtain⟨r,a⟩:=b (by omega);rw[sW,<-a];exact⟨r++_,by rw[jJ]⟩
theorem rm:bH:=by
 unfold bH je0 jd2 jcL jd1;rintro⟨(_|t),s,⟨⟩⟩ l i e;cases i;have e:(we (U.tc t)).length<=60:=e;refine⟨rfl,fun _=>⟨⟨0,⟨⟨rfl,tZ⟩,tZ⟩,rfl,jw _⟩,fun x g=> ?_⟩⟩;have g:x<=(we (U.tc t)).length:=g;have c:U.tk (some t)=t:=rfl;refine⟨fun h=> ?_,fun h=> ?_⟩;have h:x<(we (U.tc t)).length:=by
  have:=jb h;have this:(x:Int)<(we (U.tc t)).length:=this;omega
 have j:(x:Int)<(we (U.tc t)).length:=(by omega);refine⟨by omega,j,by omega,by omega,fun b=> ?_,fun b=> ?_⟩;have d:yA t s (x+1)=yA t s x++[((x:Int),nth (we (U.tc t)) x,())]:=(by rw[sW,jh b]);obtain⟨r,f⟩:=SA t s (show x+1<=(we (U.tc t)).length by omega);refine⟨rfl,⟨r,by rw[d] at f;exact f⟩,⟨fun a=>absurd a (by rw[Bool.not_true,ku];simp),fun _=>⟨iZ6,x+1,⟨⟨by omega,tZ⟩,tZ⟩,?_,(show x+1<=(we (U.tc t)).length by omega),(show(we (U.tc t)).length-(x+1)<(we (U.tc t)).length-x by omega)⟩⟩,
  fun _ a=>(by cases a),fun a=> ?_⟩
 rw[c,d];rfl;rw[Bool.not_false,Bool.and_true] at a;exact absurd b (by simp only at a⊢;rw[a];simp);have d:yA t s (x+1)=yA t s x:=by
  rw[sW,jc (by simp only at b⊢;rw[b];simp),j7]
 refine⟨fun a=> ?_,fun _=>⟨iZ6,x+1,⟨⟨by omega,tZ⟩,tZ⟩,?_,(show x+1<=(we (U.tc t)).length by omega),(show(we (U.tc t)).length-(x+1)<(we (U.tc t)).length-x by omega)⟩⟩;rw[Bool.not_false,Bool.and_true] at a;exact absurd a (by simp only at b⊢;rw[b];simp);rw[c,d];have h:(we (U.tc t)).length<=x:=by
  have:=je h;have this:¬(x:Int)<(we (U.tc t)).length:=this;omega
 intro _;rw[show x=(we (U.tc t)).length by omega];rfl
theorem Lz {H:Imm} {lb:Array Value} {d:PD [.ref (.ptr tTk),.ref (.uint .u64)]} (g:pvs PR H [.ref (.ptr tTk),.ref (.uint .u64)] lb.toList d) (a:d.1.isSome=true) (b:(we (U.tc (U.tk d.1))).length<=60):Vi PR H [.int,tPe] (LM d) (.func (.func 234) #[] lb):=
 W4 (C:=ctx 28 [(235,lq)] []) (ny ⟨fun _=>Iz,tZ⟩ trivial) mixed Tryz.func234 (by kernel_rfl) (by kernel_rfl) (by kernel_rfl) (by kernel_rfl) (by decide) (iB.mpr rm) (fun d l B0 R h c e f=>Z0 c f) g ⟨a,b,tZ⟩
theorem uV:dC:=by intro d;rfl
theorem dD:Ih PR 213 wI:=Z3 (mG.mpr uV) Tryz.func213 (by kernel_rfl) (by kernel_rfl) (by kernel_rfl) (by kernel_rfl) trivial trivial
theorem Ys:∀(f:Nat) (p:Nat×oq),wA ([]:List (Nat×Nat×oq)) f=some p->ROK PR f p.2:=fun _ _ h=>by cases h
theorem IH {sv:SV} {pr:Prop} {L:List (Ty.st [.int,tPe]).Data->Prop} {v:Value} {ρ:Env} (a:N3 sv=some (pr,L)) (b:pr) (g:SV.den PR ρ sv v):Vi PR ρ.H [.int,tPe] L v:=by
 unfold N3 at a
 split at a
 case h_2=>cases a
 rename_i m t n s
 split at a
 case h_2=>cases a
 rename_i q p l f;simp only[jy,Prod.mk.injEq] at a;obtain⟨rfl,rfl⟩:=a;obtain⟨e,rfl⟩:=wc l;subst e;obtain⟨e2,rfl⟩:=wc f;subst e2;simp only[SV.den,SV.denL] at g;obtain⟨lb,rfl,x,r,k,h,y,o,c,i,j⟩:=g;exact Lz (d:=(t,s,())) (by rw[k,c,j];exact⟨h,i,rfl⟩) b.1 b.2
theorem ru (t:TkD) (a b:Int) (q:List (Int×PeD×Unit)) (x:Int×PeD×Unit):gI t a b (q++[x])=U.jn t a b x:=by
 unfold gI;rw[List.getLast?_append];simp
theorem LA {t:TkD} {a b:Int} {q:List (Int×PeD×Unit)} (h:yh (fun q=>gI t a b q) q):q.any (U.jn t a b)=false:=by
 rw[zj];intro x c;obtain⟨u,v,rfl⟩:=List.append_of_mem c;have:=h u x v rfl;simp only[ru] at this;rw[this];simp
theorem Pl {t:TkD} {s:Int} {x:Int×PeD×Unit} (h:x∈uF t s):x.2.1∈we (U.tc t):=by
 unfold uF yA at h;obtain⟨i,hi,rfl⟩:=jT.1 h;have:=jC.1 (jP.1 hi).1;exact L.wd this
theorem Yt {n:Int} {p:PeD} (h:fP n p=true):((U.lv p).length:Int)=n:=by
 unfold fP at h;simp only[ji,jp] at h;exact h.1.1
theorem BW:fX:=by
 unfold fX je1 jfE;rintro⟨(_|t),s,a,b,⟨⟩⟩ r l v f w g;cases r;obtain⟨c1,c2,A⟩:=l;have c1:wz (U.tc t)=true:=c1;obtain⟨B,C,D,E,p,F⟩:=qx c1;have k:(we (U.tc t)).length<=60:=(by omega);have c:U.tk (some t)=t:=rfl;refine⟨⟨rfl,k⟩,tZ,rfl,fun q x rest i e=> ?_,fun xs j e=> ?_,fun q x rest i e d=> ?_⟩;have z:x∈uF t s:=(by rw[c] at i;rw[<-i];simp);have o:=Yt (p _ (Pl z));have o:((x.2.1.1.length:Nat):Int)=U.la (U.tc t):=o;have f:a<U.la (U.tc t):=f;have g:b<U.la (U.tc t):=g;have m:gI t a b q=false:=by
  cases n:q.getLast? with
  |none=>unfold gI;rw[n]
  |some y=>
   obtain⟨u,rfl⟩:=List.getLast?_eq_some_iff.1 n;have:=e u y [] rfl;exact this
 refine⟨v,by simp only;omega,w,by simp only;omega,rfl,fun h=> ?_,fun h=> ?_⟩;have h:U.jn t a b x=true:=h;have:gI t a b (q++[x])=true:=(by rw[ru];exact h);rw[c];simp only;exact⟨this,by rw[this];rfl⟩;have h:U.jn t a b x=false:=h;have:gI t a b (q++[x])=false:=(by rw[ru];exact h);rw[c];simp only;exact⟨this,by rw[this,m]⟩;rw[c] at j e;subst j;have:=LA e;simp only;rw[c];unfold lZ;rw[this];rw[c] at i d⊢;simp only at d⊢;rw[d];unfold lZ;rw[<-i];rw[ru] at d;simp[d]
theorem II:(Kq 33 [] [] [(213,wI)] []).ok PR:=Lo trivial trivial ⟨dD,tZ⟩ trivial
theorem uW:wU PR 237 fW:=
 Sk (body:=wS Tryz.f237) (C:=Kq 33 [] [] [(213,wI)] []) (hk:=hkC (Kq 33 [] [] [(213,wI)] []) (fun _=>none) BU [] []) II mixed Tryz.func237 (by kernel_rfl) (by kernel_rfl) (by kernel_rfl) (by decide)
  (fun B=>E5 II mixed (fun k ts rs sv pr L v ρ hk c a b=>by
   unfold BU at hk
   split at hk
   case h_2=>cases hk
   simp only[jy] at hk
   cases hk
   exact IH c a b) Ys B) (oH.mpr BW)
namespace U
def gP (x:Int) (N n:Nat):List Int:=List.replicate n x++List.replicate (N-n) 0
def Ks (t:TkD) (c:Int) (a b:Nat):Bool:=lZ t c (a:Int) (b:Int)
def fQ (t:TkD) (a:Int):List Int:=jaC (Ks t a) (la (tc t)).toNat (Kr (tj t)).toNat
def wT (t:TkD) (a:Int) (k:Nat):List Int×List Int:=gR (Ks t a) (la (tc t)).toNat (Kr (tj t)).toNat k
def yY (t:TkD) (a:Int) (x:List Int×List Int) (i:Nat):List Int×List Int:=sn (Ks t a) (nth x.2 0).toNat x i
def ZA (t:TkD) (a:Int) (x:List Int×List Int) (lo:Nat):Prop:=Zv (Ks t a) (la (tc t)).toNat (Kr (tj t)).toNat x/\x.2≠[]/\x.2.length<=10/\lo<=10
end U
def glo (σ:St) (s:Nat):Nat:=match σ.get s with
 | .osl _ _ lo _=>lo
 |_=>0
def Gp:wL:=⟨[.val (.uint .u64),.val (.uint .u64)],[.uint .u64,.uint .u64],false,fun d=>[0<=d.1,d.1<=1000,0<=d.2.1,d.2.1<=1000],fun d=>((0:Int),d.1*d.2.1,())⟩
abbrev jdh (d:Int×Int×Unit):=(d.1/(2:Int)^Int.toNat 32*yP d.2.1 (4294967295:Int)+yP d.1 (4294967295:Int)*yP d.2.1 (4294967295:Int)/(2:Int)^Int.toNat 32)
abbrev jcM (d:Int×Int×Unit):=(d.2.1/(2:Int)^Int.toNat 32)
abbrev je2 (d:Int×Int×Unit):=(yP (jdh d) (4294967295:Int)+yP d.1 (4294967295:Int)*(jcM d))
def Gq:Prop:=∀(d:Int×Int×Unit),0<=d.1->d.1<=1000->0<=d.2.1->d.2.1<=1000->(0:Int)<=32/\(32:Int)<=64/\(0:Int)<=32/\(32:Int)<=64/\0<=yP d.1 (4294967295:Int)*yP d.2.1 (4294967295:Int)/\yP d.1 (4294967295:Int)*yP d.2.1 (4294967295:Int)<=18446744073709551615/\0<=d.1/(2:Int)^Int.toNat 32*yP d.2.1 (4294967295:Int)/\d.1/(2:Int)^Int.toNat 32*yP d.2.1 (4294967295:Int)<=18446744073709551615/\(0:Int)<=32/\(32:Int)<=64/\0<=d.1/(2:Int)^Int.toNat 32*yP d.2.1 (4294967295:Int)+yP d.1 (4294967295:Int)*yP d.2.1 (4294967295:Int)/(2:Int)^Int.toNat 32/\d.1/(2:Int)^Int.toNat 32*yP d.2.1 (4294967295:Int)+yP d.1 (4294967295:Int)*yP d.2.1 (4294967295:Int)/(2:Int)^Int.toNat 32<=18446744073709551615/\(0:Int)<=32/\(32:Int)<=64/\0<=yP d.1 (4294967295:Int)*(jcM d)/\yP d.1 (4294967295:Int)*(jcM d)<=18446744073709551615/\0<=yP (jdh d) (4294967295:Int)+yP d.1 (4294967295:Int)*(jcM d)/\yP (jdh d) (4294967295:Int)+yP d.1 (4294967295:Int)*(jcM d)<=18446744073709551615/\0<=d.1/(2:Int)^Int.toNat 32*(jcM d)/\d.1/(2:Int)^Int.toNat 32*(jcM d)<=18446744073709551615/\0<=d.1/(2:Int)^Int.toNat 32*(jcM d)+(jdh d)/(2:Int)^Int.toNat 32/\d.1/(2:Int)^Int.toNat 32*(jcM d)+(jdh d)/(2:Int)^Int.toNat 32<=18446744073709551615/\(0:Int)<=32/\(32:Int)<=64/\0<=d.1/(2:Int)^Int.toNat 32*(jcM d)+(jdh d)/(2:Int)^Int.toNat 32+(je2 d)/(2:Int)^Int.toNat 32/\d.1/(2:Int)^Int.toNat 32*(jcM d)+(jdh d)/(2:Int)^Int.toNat 32+(je2 d)/(2:Int)^Int.toNat 32<=18446744073709551615/\0<=d.1*d.2.1/\d.1*d.2.1<=18446744073709551615/\(d.1/(2:Int)^Int.toNat 32*(jcM d)+(jdh d)/(2:Int)^Int.toNat 32+(je2 d)/(2:Int)^Int.toNat 32,d.1*d.2.1,())=((0:Int),d.1*d.2.1,())
def LB:wL:=⟨[.val (.uint .u64),.val (.uint .u64)],[.uint .u64,.uint .u64],false,fun d=>[0<=d.1,d.1<=1000,0<=d.2.1,d.2.1<=1000],fun d=>((0:Int),d.1*d.2.1,())⟩
def LC:Prop:=∀(d:Int×Int×Unit),0<=d.1->d.1<=1000->0<=d.2.1->d.2.1<=1000->(false=true->False)/\(qF->0<=d.1/\d.1<=1000/\0<=d.2.1/\d.2.1<=1000/\((0:Int),d.1*d.2.1,())=((0:Int),d.1*d.2.1,()))
def uX:qB:=⟨[.val (.slice .int),.val .int],[.cl (.row 3 .int .no)],fun d=>[d.1.length=1,0<=d.2.1,d.2.1<=1000],fun d=>((List.replicate d.2.1.toNat (nth d.1 0),()),())⟩
def uY:Ann:=fun r=>match r with
 |8=>some fun σ=>{X:=Nat,sl:=fun n=>[(8,.dat .int (n:Int))],ob:=fun n=>[(7,some (.row 3 .int false .no (gP (nth (gd (.slice .int) σ 0) 0) (gd .int σ 1).toNat n)))],inv:=fun n=>n<=(gd .int σ 1).toNat/\(1<=n\/(gd .int σ 1).toNat=0),mu:=fun n=>(gd .int σ 1).toNat-n}
 |_=>none
abbrev jcS (d:List Int×Int×Unit):=(d.1.length:Int)
abbrev jd3 (d:List Int×Int×Unit):=(List.replicate ((jcS d)*d.2.1).toNat (0:Int))
abbrev jd4 (d:List Int×Int×Unit)(x:Nat):=(gP (nth d.1 0) d.2.1.toNat x)
abbrev jdu (d:List Int×Int×Unit)(x:Nat):=(↑(jd4 d x).length:Int)
abbrev je3 (x:Nat)(d:List Int×Int×Unit):=(List.take ((x:Int).toNat-Int.toNat 0) (List.drop (Int.toNat 0) (jd4 d x)))
abbrev jez (d:List Int×Int×Unit)(x:Nat):=((jdu d x).toNat-(x:Int).toNat)
abbrev jfF (d:List Int×Int×Unit):=(decide ((0:Int)<0)||decide (9223372036854775807<(jcS d)*d.2.1))
def uZ:Prop:=∀(d:List Int×Int×Unit),d.1.length=1->0<=d.2.1->d.2.1<=1000->(decide (d.2.1<0)=true->False)/\(decide (d.2.1<0)=false->d.1.length<4611686018427387904->0<=(jcS d)/\(jcS d)<=18446744073709551615/\0<=d.2.1/\d.2.1<=18446744073709551615/\0<=(jcS d)/\(jcS d)<=1000/\0<=d.2.1/\d.2.1<=1000/\((jfF d)=true->False)/\((jfF d)=false->wq ((jcS d)*d.2.1)/\0<=(jcS d)*d.2.1/\(jcS d)*d.2.1=(jcS d)*d.2.1/\((jcS d)*d.2.1).toNat*8<=140737488355328/\0+(jd3 d).length<=(jd3 d).length/\(∃(x:Nat),(((↑(List.take (jd3 d).length d.1).length:Int)=(x:Int)/\True)/\QN (jd3 d) 0 (jd3 d).length d.1=gP (nth d.1 0) d.2.1.toNat x/\True)/\x<=d.2.1.toNat/\(1<=x\/d.2.1.toNat=0))/\∀(x:Nat),x<=d.2.1.toNat/\(1<=x\/d.2.1.toNat=0)->(jd4 d x).length<4611686018427387904->(decide ((x:Int)<(jdu d x))=true->0<=(x:Int)/\(x:Int)<=(jdu d x)/\(jdu d x)<=(jdu d x)/\(0:Int)<=0/\0<=(x:Int)/\(x:Int)<=(jdu d x)/\(x:Int).toNat+(jez d x)<=(jd4 d x).length/\wq ((x:Int)+(List.take (jez d x) (je3 x d)).length)/\∃(a:Nat),(((x:Int)+(List.take (jez d x) (je3 x d)).length=(a:Int)/\True)/\QN (jd4 d x) (x:Int).toNat (jez d x) (je3 x d)=gP (nth d.1 0) d.2.1.toNat a/\True)/\(a<=d.2.1.toNat/\(1<=a\/d.2.1.toNat=0))/\d.2.1.toNat-a<d.2.1.toNat-x)/\(decide ((x:Int)<(jdu d x))=false->(gP (nth d.1 0) d.2.1.toNat x,())=(List.replicate d.2.1.toNat (nth d.1 0),())/\()=())))
def yN:wL:=⟨[.val (.ptr tTk),.val (.uint .u64)],[.slice .int],false,fun d=>[d.1.isSome=true,bS (U.tk d.1)],fun d=>(fQ (U.tk d.1) d.2.1,())⟩
def Gr:Ann:=fun r=>match r with
 |4=>some fun σ=>{X:=Nat×List Int,sl:=fun x=>[(6,.osl 6 .int x.2.length (wT (U.tk (gd (.ptr tTk) σ 0)) (gd (.uint .u64) σ 1) x.1).2.length)],ob:=fun x=>[(5,some (.row 3 .int false .no (wT (U.tk (gd (.ptr tTk) σ 0)) (gd (.uint .u64) σ 1) x.1).1)),(6,some (.row 3 .int false .no (x.2++(wT (U.tk (gd (.ptr tTk) σ 0)) (gd (.uint .u64) σ 1) x.1).2)))],inv:=fun x=>x.2.length<=x.1/\x.1<=(U.la (U.tc (U.tk (gd (.ptr tTk) σ 0)))).toNat,mu:=fun x=>(U.la (U.tc (U.tk (gd (.ptr tTk) σ 0)))).toNat+1-x.1}
 |7=>some fun σ=>{X:=Nat×List Int,sl:=fun x=>[(28,.any),(35,.dat .int (x.1:Int)),(6,.osl 6 .int x.2.length (yY (U.tk (gd (.ptr tTk) σ 0)) (gd (.uint .u64) σ 1) (gr .int σ 5,(gr .int σ 6).drop (glo σ 6)) x.1).2.length)],ob:=fun x=>[(5,some (.row 3 .int false .no (yY (U.tk (gd (.ptr tTk) σ 0)) (gd (.uint .u64) σ 1) (gr .int σ 5,(gr .int σ 6).drop (glo σ 6)) x.1).1)),(6,some (.row 3 .int false .no (x.2++(yY (U.tk (gd (.ptr tTk) σ 0)) (gd (.uint .u64) σ 1) (gr .int σ 5,(gr .int σ 6).drop (glo σ 6)) x.1).2)))],inv:=fun x=>x.1<=(gr .int σ 5).length/\x.2.length<=glo σ 6/\ZA (U.tk (gd (.ptr tTk) σ 0)) (gd (.uint .u64) σ 1) (gr .int σ 5,(gr .int σ 6).drop (glo σ 6)) (glo σ 6),mu:=fun x=>(gr .int σ 5).length-x.1}
 |2000011=>some fun _=>{X:=Unit,sl:=fun _=>[],ob:=fun _=>[],inv:=fun _=>True,mu:=fun _=>0}
 |_=>none
abbrev jda (d:Option (CrD×JbD×LwD×Unit)×Int×Unit):=(wy (((0:Int),[],[],()),((0:Int),(0:Int),(0:Int),(0:Int),(0:Int),(0:Int),()),((0:Int),(0:Int),false,()),()) d.1)
abbrev jcz (d:Option (CrD×JbD×LwD×Unit)×Int×Unit)(x:Nat×List Int):=(wT (U.tk d.1) d.2.1 x.1)
abbrev jdG (d:Option (CrD×JbD×LwD×Unit)×Int×Unit)(x:Nat×List Int):=((jcz d x).1,List.drop x.2.length (x.2++(jcz d x).2))
abbrev jcs (d:Option (CrD×JbD×LwD×Unit)×Int×Unit)(x:Nat×List Int)(a:Nat×List Int):=(yY (U.tk d.1) d.2.1 (jdG d x) a.1)
abbrev jcZ (d:Option (CrD×JbD×LwD×Unit)×Int×Unit)(x:Nat×List Int)(a:Nat×List Int):=(nth (jcs d x a).1 (a.1:Int).toNat<0)
abbrev jdi (a:Nat×List Int):=(a.2.length+Int.toNat 0)
abbrev jdH (d:Option (CrD×JbD×LwD×Unit)×Int×Unit)(x:Nat×List Int)(a:Nat×List Int):=(yY (U.tk d.1) d.2.1 (jdG d x) a.1)
def Gs:Prop:=∀(d:Option (CrD×JbD×LwD×Unit)×Int×Unit),d.1.isSome=true->bS (U.tk d.1)->d.1.isSome=true/\[(-1:Int)].length=1/\(0:Int)<=(jda d).1.1/\(jda d).1.1<=1000/\d.1.isSome=true/\(0:Int)<=(jda d).2.1.2.1/\(jda d).2.1.2.1<(↑(List.replicate (jda d).1.1.toNat (nth [(-1:Int)] 0)).length:Int)/\d.1.isSome=true/\(∃(x:Nat×List Int),(((x.2.length=0/\(jcz d x).2.length=[(jda d).2.1.2.1].length)/\True)/\(List.replicate (jda d).1.1.toNat (nth [(-1:Int)] 0)).set (jda d).2.1.2.1.toNat 0=(jcz d x).1/\[(jda d).2.1.2.1]=x.2++(jcz d x).2/\True)/\x.2.length<=x.1/\x.1<=(U.la (U.tc (U.tk d.1))).toNat)/\∀(x:Nat×List Int),x.2.length<=x.1/\x.1<=(U.la (U.tc (U.tk d.1))).toNat->(jcz d x).2.length<4611686018427387904->(decide ((0:Int)<(jcz d x).2.length)=true->(jcz d x).1.length<4611686018427387904->(∃(a:Nat×List Int),((0=(a.1:Int)/\(x.2.length=a.2.length/\(jcz d x).2.length=(jcs d x a).2.length)/\True)/\(jcz d x).1=(jcs d x a).1/\x.2++(jcz d x).2=a.2++(jcs d x a).2/\True)/\a.1<=(jcz d x).1.length/\a.2.length<=x.2.length/\ZA (U.tk d.1) d.2.1 (jdG d x) x.2.length)/\∀(a:Nat×List Int),a.1<=(jcz d x).1.length/\a.2.length<=x.2.length/\ZA (U.tk d.1) d.2.1 (jdG d x) x.2.length->(decide ((a.1:Int)<(jcz d x).1.length)=true->0<=(a.1:Int)/\(a.1:Int)<(jcs d x a).1.length/\(decide (jcZ d x a)=true->(0:Int)<=0)/\(decide (jcZ d x a)=true->(0:Int)<(jcs d x a).2.length)/\(decide (jcZ d x a)=true->d.1.isSome=true)/\(decide (jcZ d x a)=true->bS (U.tk d.1))/\(decide (jcZ d x a)=true->0<=nth (a.2++(jcs d x a).2) (jdi a))/\(decide (jcZ d x a)=true->nth (a.2++(jcs d x a).2) (jdi a)<U.la (U.tc (U.tk d.1)))/\(decide (jcZ d x a)=true->0<=(a.1:Int))/\(decide (jcZ d x a)=true->(a.1:Int)<U.la (U.tc (U.tk d.1)))/\((decide (jcZ d x a)&&lZ (U.tk d.1) d.2.1 (nth (a.2++(jcs d x a).2) (jdi a)) (a.1:Int))=true->(0:Int)<=0/\(0:Int)<(jcs d x a).2.length/\0<=nth (a.2++(jcs d x a).2) (jdi a)/\nth (a.2++(jcs d x a).2) (jdi a)<(↑(jcs d x a).1.length:Int)/\wq (nth (jcs d x a).1 (nth (a.2++(jcs d x a).2) (jdi a)).toNat+1)/\0<=(a.1:Int)/\(a.1:Int)<(jcs d x a).1.length/\a.2.length+(jcs d x a).2.length=(a.2++(jcs d x a).2).length/\0<(jcs d x a).2.length/\a.2.length+(jcs d x a).2.length+[(a.1:Int)].length<4611686018427387904/\((jcs d x a).2.length+[(a.1:Int)].length)*8<=140737488355328/\∀(pre:List Int),pre.length<=a.2.length->wq ((a.1:Int)+1)/\∃(b:Nat×List Int),(((a.1:Int)+1=(b.1:Int)/\(pre.length=b.2.length/\(jcs d x a).2.length+[(a.1:Int)].length=(jdH d x b).2.length)/\True)/\pre++List.drop a.2.length (a.2++(jcs d x a).2)++[(a.1:Int)]=b.2++(jdH d x b).2/\(jcs d x a).1.set (a.1:Int).toNat (nth (jcs d x a).1 (nth (a.2++(jcs d x a).2) (jdi a)).toNat+1)=(jdH d x b).1/\True)/\(b.1<=(jcz d x).1.length/\b.2.length<=x.2.length/\ZA (U.tk d.1) d.2.1 (jdG d x) x.2.length)/\(jcz d x).1.length-b.1<(jcz d x).1.length-a.1)/\((decide (jcZ d x a)&&lZ (U.tk d.1) d.2.1 (nth (a.2++(jcs d x a).2) (jdi a)) (a.1:Int))=false->wq ((a.1:Int)+1)/\∃(b:Nat×List Int),(((a.2.length=b.2.length/\(jcs d x a).2.length=(jdH d x b).2.length)/\(a.1:Int)+1=(b.1:Int)/\True)/\a.2++(jcs d x a).2=b.2++(jdH d x b).2/\(jcs d x a).1=(jdH d x b).1/\True)/\(b.1<=(jcz d x).1.length/\b.2.length<=x.2.length/\ZA (U.tk d.1) d.2.1 (jdG d x) x.2.length)/\(jcz d x).1.length-b.1<(jcz d x).1.length-a.1))/\(decide ((a.1:Int)<(jcz d x).1.length)=false->(0:Int)<=1/\(1:Int)<=(jcs d x a).2.length/\(↑(jcs d x a).2.length:Int)<=(jcs d x a).2.length/\∃(b:Nat×List Int),(((a.2.length+Int.toNat 1=b.2.length/\(↑(jcs d x a).2.length:Int).toNat-Int.toNat 1=(wT (U.tk d.1) d.2.1 b.1).2.length)/\True)/\(jcs d x a).1=(wT (U.tk d.1) d.2.1 b.1).1/\a.2++(jcs d x a).2=b.2++(wT (U.tk d.1) d.2.1 b.1).2/\True)/\(b.2.length<=b.1/\b.1<=(U.la (U.tc (U.tk d.1))).toNat)/\(U.la (U.tc (U.tk d.1))).toNat+1-b.1<(U.la (U.tc (U.tk d.1))).toNat+1-x.1))/\(decide ((0:Int)<(jcz d x).2.length)=false->((jcz d x).1,())=(fQ (U.tk d.1) d.2.1,()))
theorem Gt {x:Int} (a:0<=x) (b:x<=4294967295):yP x 4294967295=x:=by
 obtain⟨n,rfl⟩:∃n:Nat,x=(n:Int):=⟨x.toNat,by omega⟩;rw[show(4294967295:Int)=((4294967295:Nat):Int) from rfl,BT.uand_nat (by omega) (by omega),show(4294967295:Nat)=2^32-1 from rfl,Nat.and_two_pow_sub_one_eq_mod,kK (by omega)]
theorem IJ:Gq:=by
 unfold Gq je2 jcM jdh;rintro⟨x,y,⟨⟩⟩ b c a d;simp only at b c a d;have f:=Gt b (by omega);have g:=Gt a (by omega);have e:=Gt (x:=0) (by omega) (by omega);have h:x/2^Int.toNat 32=0:=kD b (by show x<2^32;omega);have i:y/2^Int.toNat 32=0:=kD a (by show y<2^32;omega);have k:0<=x*y:=Int.mul_nonneg b a;have l:x*y<=1000*1000:=Int.mul_le_mul c d a (by omega);have c1:x*y/2^Int.toNat 32=0:=kD k (by show x*y<2^32;omega);have j:(0:Int)/2^Int.toNat 32=0:=Int.zero_ediv _;simp only[f,g,h,i,Int.zero_mul,Int.mul_zero,Int.add_zero,c1,e,j]
 and_intros<;>first|omega|rfl|trivial
theorem Gu:wU PR 250 Gp:=wF IJ Tryz.func250 kcN koN
theorem Pn:LC:=by
 rintro⟨x,y,⟨⟩⟩ a b c d;exact⟨fun h=>(by cases h),fun _=>⟨a,b,c,d,rfl⟩⟩
theorem LD:wU PR 245 LB:=wF Pn Tryz.func245 (kcC Gu kcN) koN
theorem Gv {x:Int} {N n:Nat} (h:n<=N):(gP x N n).length=N:=by
 unfold gP;simp;omega
theorem IK {x:Int} {N n:Nat} (_:n<=N):(gP x N n).take n=List.replicate n x:=by
 unfold gP;rw[List.take_append_of_le_length (by simp),zz (by simp)]
theorem SB {x:Int} {N n:Nat} (h:n<=N):QN (gP x N n) n (N-n) (List.replicate n x)=gP x N (n+min (N-n) n):=by
 unfold QN;rw[IK h,List.take_replicate,zw];unfold gP;rw[List.drop_append,zw,List.drop_of_length_le (by simp),jW,List.drop_replicate,<-List.replicate_append_replicate];congr 2;omega
theorem BX:uZ:=by
 unfold uZ jfF jez je3 jdu jd4 jd3 jcS;rintro⟨l,n,⟨⟩⟩ b g e;simp only at b g e;obtain⟨N,rfl⟩:∃N:Nat,n=(N:Int):=⟨n.toNat,by omega⟩;obtain⟨y,rfl⟩:∃y,l=[y]:=by
  cases l with
  |nil=>simp at b
  |cons y r=>cases r with
   |nil=>exact⟨y,rfl⟩
   |cons z r=>simp at b
 have c:(([y].length:Nat):Int)*(N:Int)=(N:Int):=(by simp);have f:nth [y] 0=y:=rfl
 dsimp only
 refine⟨fun h=> ?_,fun _ _=>⟨by simp,by simp,by omega,by omega,by simp,by simp,by omega,e,fun h=> ?_,fun _=> ?_⟩⟩;have:=jb h;omega;rw[c] at h;have h:(9223372036854775807:Int)<(N:Int):=(by simpa using h);omega;rw[c,f];simp only[ju,zw];refine⟨iZ6,by omega,tZ,by omega,by omega,⟨min 1 N,⟨⟨?_,tZ⟩,?_,tZ⟩,by omega,by omega⟩,fun x a i=>⟨fun h=> ?_,fun h=> ?_⟩⟩;rw[j0];simp only[jX,zp];omega;rcases zK N with d|d;subst d;rfl;obtain⟨M,rfl⟩:∃M,N=M+1:=⟨N-1,by omega⟩;have:min 1 (M+1)=1:=(by omega);rw[this];simp[QN,gP,List.replicate_succ];have h:=jb h;rw[Gv a.1] at h;simp only[Gv a.1,Int.toNat_zero,List.drop_zero,kH,IK a.1,List.take_replicate,zw];refine⟨by omega,by omega,by omega,by omega,by omega,by omega,by omega,iZ6,x+min (N-x) x,⟨⟨by omega,tZ⟩,SB a.1,tZ⟩,⟨by omega,by omega⟩,by omega⟩;have h:=je h;rw[Gv a.1] at h;have h:x=N:=(by have:=a.1;omega);subst h;refine⟨?_,tZ⟩;unfold gP;rw[Nat.sub_self];simp
theorem u5:gq PR 236 uX:=uz uY BX Tryz.func236 (kcC LD kcN) koN
theorem Yu {a b:List Int}:nth (a++b) (a.length+Int.toNat 0)=nth b 0:=by
 unfold nth;simp only[j8,Int.toNat_zero,zG];rw[jv (jk _),Nat.sub_self]
theorem IL {t:TkD} {s:Int} (a:bS t):2<=U.la (U.tc t)/\U.la (U.tc t)<=5/\0<=Kr (U.tj t)/\Kr (U.tj t)<U.la (U.tc t):=by
 obtain⟨c1,c2,_⟩:=a;obtain⟨b,c,_⟩:=qx c1;obtain⟨_,⟨d,e⟩,_⟩:=lx c2;exact⟨b,c,d,e⟩
theorem IM:Gs:=by
 unfold Gs jdH jdi jcZ jcs jdG jcz jda;rintro⟨(_|t),s,⟨⟩⟩ h0 m;cases h0;have m:bS t:=m;obtain⟨l1,l2,j1,j2⟩:=IL (s:=s) m;have w:U.tk (some t)=t:=rfl;obtain⟨n,A⟩:∃n,n=(U.la (U.tc t)).toNat:=⟨_,rfl⟩;obtain⟨v,hv⟩:∃v,v=(Kr (U.tj t)).toNat:=⟨_,rfl⟩;have Z:v<n:=(by omega);have X:∀k,Zv (Ks t s) n v (wT t s k)/\((wT t s k).2=[]\/In (wT t s k).1+(wT t s k).2.length+k=n):=by
  intro k;rw[A,hv] at*;exact BN Z k
 refine⟨rfl,rfl,(by omega:0<=U.la (U.tc t)),(by omega:U.la (U.tc t)<=1000),rfl,j1,?_,rfl,⟨(0,[]),⟨⟨⟨rfl,rfl⟩,tZ⟩,rfl,?_,tZ⟩,jk _,jw _⟩,fun x hx S=>⟨fun j T=> ?_,fun h=> ?_⟩⟩;show Kr (U.tj t)<(((List.replicate (U.la (U.tc t)).toNat (nth [(-1:Int)] 0)).length:Nat):Int);rw[zw];omega;show[Kr (U.tj t)]=[]++[(((Kr (U.tj t)).toNat:Nat):Int)];rw[jW,Int.toNat_of_nonneg j1];obtain⟨k,pre⟩:=x;obtain⟨W,H⟩:=hx;simp only[w,List.drop_left] at W H j T S⊢;rw[<-A] at H⊢;obtain⟨B,o⟩:=X k;have j:0<(wT t s k).2.length:=(by have:=jb j;omega);have d:(wT t s k).2≠[]:=fun e=>by rw[e] at j;simp at j
 have F:=B.i.len;rcases o with o|o;exact absurd o d;have p:wT t s (k+1)=gH (Ks t s) n (wT t s k):=(by rw[A];rfl);generalize V:wT t s k=x0 at*;obtain⟨g,r0,a⟩:∃q r,x0.2=q::r:=by
  cases I:x0.2 with
  |nil=>exact absurd I d
  |cons q r=>exact⟨q,r,rfl⟩
 obtain⟨L,g2,g3⟩:=B.i.que g (by rw[a];simp);have y:nth x0.2 0=g:=(by rw[a];rfl);have hla:((n:Nat):Int)=U.la (U.tc t):=(by omega);have f:ZA t s (x0.1,x0.2) pre.length:=by
  unfold ZA;rw[<-A,<-hv];exact⟨B,d,by simp only;omega,by omega⟩
 refine⟨⟨(0,pre),⟨⟨rfl,⟨rfl,rfl⟩,tZ⟩,rfl,rfl,tZ⟩,jw _,jk _,f⟩,?_⟩;rintro⟨i,p5⟩ ⟨hi,Q,_⟩;simp only at hi Q;have C:InI (Ks t s) n v g.toNat i x0 (yY t s (x0.1,x0.2) i):=by
  have:=Ss (J:=Ks t s) Z (q:=g.toNat) (by omega) g3 B.i B.le i (by omega);unfold yY;simp only[y];exact this
 have c:yY t s (x0.1,x0.2) (i+1)=sm (Ks t s) g.toNat (yY t s (x0.1,x0.2) i) i:=by
  unfold yY;simp only[y];exact E7 _ _ _ _
 have D:i=n->wT t s (k+1)=((yY t s (x0.1,x0.2) i).1,(yY t s (x0.1,x0.2) i).2.drop 1):=by
  intro e;subst e;rw[p];have:gH (Ks t s) i x0=((sn (Ks t s) g.toNat x0 i).1,(sn (Ks t s) g.toNat x0 i).2.drop 1):=by
   clear p c C f F d B X V;obtain⟨st,qu⟩:=x0;simp only at a;subst a;rfl
  rw[this];unfold yY;simp only[y]
 generalize hFI:yY t s (x0.1,x0.2) i=u at*;obtain⟨l,P⟩:=C.pre;have hQ:nth u.2 0=g:=(by rw[P,a];rfl);have G:0<u.2.length:=(by rw[P,a];simp);have hmu:=C.mu;have hFl:=C.i.len;have E:∀i:Nat,Ks t s g.toNat i=lZ t s g (i:Int):=by
  intro i;unfold Ks;rw[Int.toNat_of_nonneg L]
 simp only[Yu,hQ];simp only[ju];refine⟨fun h=> ?_,fun h=> ?_⟩;have h:i<n:=(by have:=jb h;omega);refine⟨by omega,by omega,fun _=>by omega,fun _=>by omega,fun _=>rfl,fun _=>m,fun _=>L,fun _=>by omega,fun _=>by omega,fun _=>by omega,fun z=> ?_,fun z=> ?_⟩;rw[ji] at z;have h3:=jb z.1;have Y:=C.i.low g.toNat (by omega);have b:yY t s (x0.1,x0.2) (i+1)=(u.1.set i (nth u.1 g.toNat+1),u.2++[(i:Int)]):=by
  rw[c];unfold sm;rw[jh ⟨h3,by rw[E];exact z.2⟩]
 refine⟨by omega,by omega,L,by omega,iZ6,by omega,by omega,by simp,G,by simp only[jX,zp];omega,by simp only[jX,zp];omega,fun K R=>⟨iZ6,(i+1,K),⟨⟨by simp,⟨rfl,?_⟩,tZ⟩,?_,?_,tZ⟩,⟨by simp only;omega,by simp only;omega,f⟩,by simp only;omega⟩⟩;rw[b];simp;rw[b,jJ];rw[b];have b:yY t s (x0.1,x0.2) (i+1)=u:=by
  rw[c];unfold sm;rw[jc (fun N=>by
   rw[E] at N;rw[N.2,jI N.1] at z;cases z)]
 refine⟨iZ6,(i+1,p5),⟨⟨⟨rfl,?_⟩,by simp,tZ⟩,?_,?_,tZ⟩,⟨by simp only;omega,by simp only;omega,f⟩,by simp only;omega⟩;rw[b];rw[b];rw[b];have h:i=n:=(by have:=je h;omega);have O:=D h;have M:u.2=g::(r0++l):=(by rw[P,a];rfl);refine⟨by omega,by omega,by omega,(k+1,p5++[g]),⟨⟨⟨?_,?_⟩,tZ⟩,?_,?_,tZ⟩,⟨by simp only[jL,jX,zp];omega,by simp only;omega⟩,by simp only;omega⟩;simp only[jL,jX,zp];rfl;rw[O];simp only[zV];rfl;rw[O];rw[O,M];simp;simp only[w] at h⊢;have h:(wT t s x.1).2=[]:=by
  have:=je h;exact zf (by omega)
 have hk:x.1<=n:=(by have:=hx.2;rw[w,<-A] at this;exact this);have h1:gR (Ks t s) (U.la (U.tc t)).toNat (Kr (U.tj t)).toNat ((U.la (U.tc t)).toNat+1)=wT t s x.1:=Vu (k:=x.1) h _ (by rw[<-A];omega);show((wT t s x.1).1,())=((gR (Ks t s) (U.la (U.tc t)).toNat (Kr (U.tj t)).toNat ((U.la (U.tc t)).toNat+1)).1,());rw[h1]
theorem Gw:wU PR 215 yN:=yi Gr IM Tryz.func215 (kcC uW kcN) (koC u5 koN)
namespace U
def cf (t:TkD) (o:Int) (q:List (Int×PeD×Unit)):Int:=q.foldl (fun o x=>uor o (vL t x.2.1)) o
def d6 (q:List (Int×PeD×Unit)):Bool:=q.any (fun x=>jaz x.2.1)
def Ej (b:Bool) (o k:Int):Int:=if b=true then uor o k else o
def vf (t:TkD) (s:Int):Int:=Ej (decide (nth (fQ t s) (QR (tj t)).toNat<0)) (Ej (jby (tl t)&& !d6 (uF t s)) (Ej (decide (BT.size s≠max (Zy (tj t)) (Zx (tl t)))) (cf t 0 (uF t s)) 8) 16) 32
def Ho (c:CrD) (n:Int):Bool:=kV n 0 (2^(we c).length-1)
def aI (c:CrD) (j:JbD) (n:Int):Int:=if qW c j≠0 then qW c j else if Ho c n=true then 0 else 1
def ZB (c:CrD) (j:JbD) (n:Int):Int:=if aI c j n=0 then vf (c,j,d4 c j,()) n else 0
def bU (c:CrD) (j:JbD) (n:Nat):List Int:=((List.range n).filter (fun i=>decide (vL (c,j,d4 c j,()) (nth (we c) i)=0))).map (fun(i:Nat)=>(i:Int))
def cE (c:CrD) (j:JbD):List Int:=if qW c j=0 then bU c j (we c).length else[]
end U
def vJ:wL:=⟨[.val (.ptr tTk),.val tPe],[.uint .u64],false,fun d=>[d.1.isSome=true,bS (U.tk d.1)],fun d=>(vL (U.tk d.1) d.2.1,())⟩
def SC:Ic [.int,tPe]:={ps:=[.ref (.ptr tTk),.own (.box 195 [.dat (.uint .u64)]) true,.own (.box 4 [.dat .bool]) true],slots:=[2,4,5],dst:=65,pre:=fun d=>[d.1.isSome=true,bS (U.tk d.1)],G:=fun d q=>((cf (U.tk d.1) d.2.1.1 q,()),(d.2.2.1.1||d6 q,()),()),seq:=N3}
def BY:Nat->Option ((ts:List Ty)×Ic ts):=fun r=>match r with
 |4=>some ⟨[.int,tPe],SC⟩
 |_=>none
def fY:wL:=⟨[.val (.ptr tTk),.val (.uint .u64)],[.uint .u64],false,fun d=>[d.1.isSome=true,bS (U.tk d.1),BT.vA d.2.1],fun d=>(vf (U.tk d.1) d.2.1,())⟩
abbrev jcC (d:Option (CrD×JbD×LwD×Unit)×Int×Unit):=(wy (((0:Int),[],[],()),((0:Int),(0:Int),(0:Int),(0:Int),(0:Int),(0:Int),()),((0:Int),(0:Int),false,()),()) d.1)
abbrev jdj (d:Option (CrD×JbD×LwD×Unit)×Int×Unit):=(nth (fQ (U.tk d.1) d.2.1) (jcC d).2.1.1.toNat<0)
abbrev jdb (d:Option (CrD×JbD×LwD×Unit)×Int×Unit):=(vf (U.tk d.1) d.2.1,())
abbrev je4:=(fun(a:List (Int×PeD×Unit))=>false)
abbrev jeA (d:Option (CrD×JbD×LwD×Unit)×Int×Unit):=(↑(fQ (U.tk d.1) d.2.1).length:Int)
def fZ:Prop:=∀(d:Option (CrD×JbD×LwD×Unit)×Int×Unit),d.1.isSome=true->bS (U.tk d.1)->BT.vA d.2.1->(d.1.isSome=true/\(we (U.tc (U.tk d.1))).length<=60)/\(d.1.isSome=true/\bS (U.tk d.1)/\True)/\(d.1,(cf (U.tk d.1) (0:Int) [],()),(false||d6 [],()),())=(d.1,((0:Int),()),(false,()),())/\(∀(q:List (Int×PeD×Unit)) (x:Int×PeD×Unit) (rest:List (Int×PeD×Unit)),q++x::rest=uF (U.tk d.1) d.2.1->yh je4 q->d.1.isSome=true/\bS (U.tk d.1)/\qF/\((uor (cf (U.tk d.1) (0:Int) q) (vL (U.tk d.1) x.2.1),()),(false||d6 q||x.2.1.q4.1,()),())=((cf (U.tk d.1) (0:Int) (q++[x]),()),(false||d6 (q++[x]),()),()))/\(∀(xs:List (Int×PeD×Unit)),xs=uF (U.tk d.1) d.2.1->yh je4 xs->BT.vA d.2.1/\d.1.isSome=true/\d.1.isSome=true/\(decide (BT.size d.2.1≠max (jcC d).2.1.q4.2.1 (jcC d).2.2.1.2.1)=true->d.1.isSome=true/\(((jcC d).2.2.1.2.2.1&& !(false||d6 xs))=true->d.1.isSome=true/\bS (U.tk d.1)/\d.1.isSome=true/\(0:Int)<=(jcC d).2.1.1/\(jcC d).2.1.1<(jeA d)/\(decide (jdj d)=true->(uor (uor (uor (cf (U.tk d.1) (0:Int) xs) (8:Int)) (16:Int)) (32:Int),())=(jdb d))/\(decide (jdj d)=false->(uor (uor (cf (U.tk d.1) (0:Int) xs) (8:Int)) (16:Int),())=(jdb d)))/\(((jcC d).2.2.1.2.2.1&& !(false||d6 xs))=false->d.1.isSome=true/\bS (U.tk d.1)/\d.1.isSome=true/\(0:Int)<=(jcC d).2.1.1/\(jcC d).2.1.1<(jeA d)/\(decide (jdj d)=true->(uor (uor (cf (U.tk d.1) (0:Int) xs) (8:Int)) (32:Int),())=(jdb d))/\(decide (jdj d)=false->(uor (cf (U.tk d.1) (0:Int) xs) (8:Int),())=(jdb d))))/\(decide (BT.size d.2.1≠max (jcC d).2.1.q4.2.1 (jcC d).2.2.1.2.1)=false->d.1.isSome=true/\(((jcC d).2.2.1.2.2.1&& !(false||d6 xs))=true->d.1.isSome=true/\bS (U.tk d.1)/\d.1.isSome=true/\(0:Int)<=(jcC d).2.1.1/\(jcC d).2.1.1<(jeA d)/\(decide (jdj d)=true->(uor (uor (cf (U.tk d.1) (0:Int) xs) (16:Int)) (32:Int),())=(jdb d))/\(decide (jdj d)=false->(uor (cf (U.tk d.1) (0:Int) xs) (16:Int),())=(jdb d)))/\(((jcC d).2.2.1.2.2.1&& !(false||d6 xs))=false->d.1.isSome=true/\bS (U.tk d.1)/\d.1.isSome=true/\(0:Int)<=(jcC d).2.1.1/\(jcC d).2.1.1<(jeA d)/\(decide (jdj d)=true->(uor (cf (U.tk d.1) (0:Int) xs) (32:Int),())=(jdb d))/\(decide (jdj d)=false->(cf (U.tk d.1) (0:Int) xs,())=(jdb d)))))/\∀(q:List (Int×PeD×Unit)) (x:Int×PeD×Unit) (rest:List (Int×PeD×Unit)),q++x::rest=uF (U.tk d.1) d.2.1->yh je4 q->false=true->(cf (U.tk d.1) (0:Int) (q++[x]),())=(jdb d)
theorem oJ:(N0 (Kq 64 [(180,vJ),(214,yM),(215,yN)] [] [(213,wI)] []) fY (fun _ _=>none) (hkC (Kq 64 [(180,vJ),(214,yM),(215,yN)] [] [(213,wI)] []) (fun _=>none) BY [] []) Tryz.f186 (wS Tryz.f186))=fZ:=by kernel_rfl
def SD:wL:=⟨[.val tCr,.val tJb,.val .int],[.ptr tTk,.int],false,fun _=>[],fun d=>(Fr d.1 d.2.1,aI d.1 d.2.1 d.2.2.1,())⟩
abbrev jdI (d:CrD×JbD×Int×Unit):=(qW d.1 d.2.1=0)
abbrev jfG (d:CrD×JbD×Int×Unit):=(decide (jdI d)&& !kV d.2.2.1 (0:Int) ((1:Int)*2^(d.1.2.1.length:Int).toNat-1))
def SE:Prop:=∀(d:CrD×JbD×Int×Unit),(decide (jdI d)=true->d.1.2.1.length<4611686018427387904)->(decide (jdI d)=true->0<=(d.1.2.1.length:Int))/\(decide (jdI d)=true->(d.1.2.1.length:Int)<=64)/\(decide (jdI d)=true->wq ((1:Int)*2^(d.1.2.1.length:Int).toNat))/\(decide (jdI d)=true->wq ((1:Int)*2^(d.1.2.1.length:Int).toNat-1))/\((jfG d)=true->(Fr d.1 d.2.1,(1:Int),())=(Fr d.1 d.2.1,aI d.1 d.2.1 d.2.2.1,()))/\((jfG d)=false->(Fr d.1 d.2.1,qW d.1 d.2.1,())=(Fr d.1 d.2.1,aI d.1 d.2.1 d.2.2.1,()))
def LF:wL:=⟨[.val tCr,.val tJb,.val .int],[.int,.int],false,fun _=>[],fun d=>(ZB d.1 d.2.1 d.2.2.1,aI d.1 d.2.1 d.2.2.1,())⟩
def LG:Prop:=∀(d:CrD×JbD×Int×Unit),(decide (aI d.1 d.2.1 d.2.2.1≠0)=true->((0:Int),aI d.1 d.2.1 d.2.2.1,())=(ZB d.1 d.2.1 d.2.2.1,aI d.1 d.2.1 d.2.2.1,()))/\(decide (aI d.1 d.2.1 d.2.2.1≠0)=false->0<=d.2.2.1/\d.2.2.1<=18446744073709551615/\(Fr d.1 d.2.1).isSome=true/\bS (U.tk (Fr d.1 d.2.1))/\BT.vA d.2.2.1/\wq (vf (U.tk (Fr d.1 d.2.1)) d.2.2.1)/\(vf (U.tk (Fr d.1 d.2.1)) d.2.2.1,(0:Int),())=(ZB d.1 d.2.1 d.2.2.1,aI d.1 d.2.1 d.2.2.1,()))
def Vw:wL:=⟨[.val tCr,.val tJb],[.slice .int,.int],false,fun _=>[],fun d=>(cE d.1 d.2.1,qW d.1 d.2.1,())⟩
def Vx:Ann:=fun r=>match r with
 |6=>some fun σ=>{X:=Nat,sl:=fun i=>[(23,.dat .int (i:Int)),(8,.own 8 .int)],ob:=fun i=>[(8,some (.row 3 .int false .yes (bU (gd tCr σ 0) (gd tJb σ 1) i)))],inv:=fun i=>i<=(we (gd tCr σ 0)).length,mu:=fun i=>(we (gd tCr σ 0)).length-i}
 |_=>none
def Vy:Prop:=∀(d:CrD×JbD×Unit),(decide (qW d.1 d.2.1≠0)=true->([],qW d.1 d.2.1,())=(cE d.1 d.2.1,qW d.1 d.2.1,()))/\(decide (qW d.1 d.2.1≠0)=false->d.1.2.1.length<4611686018427387904->(∃(x:Nat),((0=(x:Int)/\True/\True)/\bU d.1 d.2.1 x=[]/\True)/\x<=(we d.1).length)/\∀(x:Nat),x<=(we d.1).length->(decide ((x:Int)<d.1.2.1.length)=true->0<=(x:Int)/\(x:Int)<d.1.2.1.length/\(Fr d.1 d.2.1).isSome=true/\bS (U.tk (Fr d.1 d.2.1))/\(decide (vL (U.tk (Fr d.1 d.2.1)) (nth d.1.2.1 (x:Int).toNat)=0)=true->((bU d.1 d.2.1 x).length+[(x:Int)].length)*8<=140737488355328/\wq ((x:Int)+1)/\∃(a:Nat),(((x:Int)+1=(a:Int)/\True/\True)/\bU d.1 d.2.1 x++[(x:Int)]=bU d.1 d.2.1 a/\True)/\a<=(we d.1).length/\(we d.1).length-a<(we d.1).length-x)/\(decide (vL (U.tk (Fr d.1 d.2.1)) (nth d.1.2.1 (x:Int).toNat)=0)=false->wq ((x:Int)+1)/\∃(a:Nat),((True/\(x:Int)+1=(a:Int)/\True)/\bU d.1 d.2.1 x=bU d.1 d.2.1 a/\True)/\a<=(we d.1).length/\(we d.1).length-a<(we d.1).length-x))/\(decide ((x:Int)<d.1.2.1.length)=false->(bU d.1 d.2.1 x,(0:Int),())=(cE d.1 d.2.1,qW d.1 d.2.1,())))
theorem SF (a b c:Bool):0<=QF a b c/\QF a b c<=7:=by
 unfold QF Zz;cases a<;>cases b<;>cases c<;>simp
theorem BZ (t:TkD) (p:PeD):0<=vL t p/\vL t p<=7:=SF _ _ _
theorem IN {s:Int} (h:0<=s/\s<=1000):BT.vA s:=by unfold BT.vA;omega
theorem SG {a b:Int} (c:0<=a/\a<64) (d:0<=b/\b<64):0<=uor a b/\uor a b<64:=by
 obtain⟨n,rfl⟩:∃n:Nat,a=(n:Int):=⟨a.toNat,by omega⟩;obtain⟨m,rfl⟩:∃m:Nat,b=(m:Int):=⟨b.toNat,by omega⟩;rw[BT.uor_nat (by omega) (by omega)];have:n|||m<2^6:=ko (by omega) (by omega);omega
theorem LH (t:TkD):∀(q:List (Int×PeD×Unit)) (o:Int),(0<=o/\o<64)->0<=cf t o q/\cf t o q<64
 |[],o,h=>h
 |x::q,o,h=>by
  have:=BZ t x.2.1
  exact LH t q _ (SG h ⟨by omega,by omega⟩)
theorem B4 {b:Bool} {o k:Int} (h:0<=o/\o<64) (hk:0<=k/\k<64):0<=Ej b o k/\Ej b o k<64:=by
 unfold Ej
 split
 exact SG h hk;exact h
theorem Po (t:TkD) (s:Int):0<=vf t s/\vf t s<64:=by
 unfold vf;exact B4 (B4 (B4 (LH t _ _ (by omega)) (by omega)) (by omega)) (by omega)
theorem SH (t:TkD) (o:Int) (q:List (Int×PeD×Unit)) (x:Int×PeD×Unit):cf t o (q++[x])=uor (cf t o q) (vL t x.2.1):=by
 unfold cf;rw[jV];rfl
theorem Vz {t:TkD} {s:Int} (a:bS t):((fQ t s).length:Int)=U.la (U.tc t):=by
 obtain⟨f,g,c,d⟩:=IL (s:=s) a;have b:(Kr (U.tj t)).toNat<(U.la (U.tc t)).toNat:=(by omega);have:=(BN (J:=Ks t s) b ((U.la (U.tc t)).toNat+1)).1.i.len;have e:(fQ t s).length=(U.la (U.tc t)).toNat:=this;omega
theorem B5:fZ:=by
 unfold fZ jeA je4 jdb jdj jcC Prod.q4;rintro⟨(_|t),s,⟨⟩⟩ n a c;cases n;have a:bS t:=a;have c:BT.vA s:=c;obtain⟨c1,c2,_⟩:=id a;obtain⟨_,_,p,_⟩:=qx c1;obtain⟨⟨m,r⟩,_⟩:=lx c2;have o:=Vz (s:=s) a;have f:U.tk (some t)=t:=rfl;have b:0<=QR (U.tj t)/\QR (U.tj t)<(((fQ t s).length:Nat):Int):=⟨m,by omega⟩;refine⟨⟨rfl,(by omega:(we (U.tc t)).length<=60)⟩,⟨rfl,a,tZ⟩,rfl,fun q x rest u _=>⟨rfl,a,rfl,?_⟩,fun xs g _=>⟨c,rfl,rfl,?_⟩,fun q x rest _ _ h=>by cases h⟩;simp only[f,SH];unfold d6;simp only[List.any_append,List.any_cons,List.any_nil,Bool.or_false,Bool.false_or];rfl;simp only[f] at g⊢;subst g;have key:∀(j k l:Bool),decide (BT.size s≠max (Zy (U.tj t)) (Zx (U.tl t)))=j->(jby (U.tl t)&& !d6 (uF t s))=k->decide (nth (fQ t s) (QR (U.tj t)).toNat<0)=l->
  Ej l (Ej k (Ej j (cf t 0 (uF t s)) 8) 16) 32=vf t s:=by
  intro j k l i e d;unfold vf;rw[i,e,d]
 refine⟨fun i=>⟨rfl,fun e=>⟨rfl,a,rfl,b.1,b.2,fun d=> ?_,fun d=> ?_⟩,fun e=>⟨rfl,a,rfl,b.1,b.2,fun d=> ?_,fun d=> ?_⟩⟩,fun i=>⟨rfl,fun e=>⟨rfl,a,rfl,b.1,b.2,fun d=> ?_,fun d=> ?_⟩,fun e=>⟨rfl,a,rfl,b.1,b.2,fun d=> ?_,fun d=> ?_⟩⟩⟩<;>
  (rw[Bool.false_or] at e;have:=key _ _ _ i e d;rw[<-this];rfl)
theorem Gx {c:CrD} (h:wz c=true):(0:Int)<2^(we c).length/\(2:Int)^(we c).length<=256:=by
 obtain⟨_,_,a,_⟩:=qx h;rw[BT.two_nat];have b:2^(we c).length<=2^8:=Nat.pow_le_pow_right (by decide) a;have d:0<2^(we c).length:=Nat.pow_pos (by decide);omega
theorem VA:SE:=by
 unfold SE jfG jdI;rintro⟨c,j,n,⟨⟩⟩ _;have e:∀l:Nat,(1:Int)*2^((l:Int)).toNat=2^l:=fun l=>by rw[Int.one_mul,ju]
 simp only[e];refine⟨fun _=>by omega,fun h=> ?_,fun h=> ?_,fun h=> ?_,fun h=> ?_,fun h=> ?_⟩;have:=(qx (oI (jb h)).1).2.2.1;have this:c.2.1.length<=8:=this;omega;have:=Gx (oI (jb h)).1;have this:(0:Int)<2^c.2.1.length/\(2:Int)^c.2.1.length<=256:=this;exact iZ6;have:=Gx (oI (jb h)).1;have this:(0:Int)<2^c.2.1.length/\(2:Int)^c.2.1.length<=256:=this;exact iZ6;rw[ji] at h;have a:=jb h.1;have b:Ho c n=false:=by
  have d:kV n 0 (2^c.2.1.length-1)=false:=(by simpa using h.2);exact d
 unfold aI;rw[jc (by omega),jc (by rw[b];simp)];unfold aI;by_cases a:qW c j=0;rw[jI a,Bool.true_and] at h;have b:Ho c n=true:=by
  have d:kV n 0 (2^c.2.1.length-1)=true:=(by simpa using h);exact d
 rw[jc (by omega),jh b,a];rw[jh a]
theorem SI:wU PR 185 SD:=wF VA Tryz.func185 (kcC IG (kcC y6 kcN)) koN
theorem Pp {c:CrD} {j:JbD} {n:Int} (h:aI c j n=0):qW c j=0/\0<=n/\n<2^(we c).length:=by
 unfold aI at h
 split at h
 rename_i b;omega;rename_i b
 split at h
 rename_i a;unfold Ho kV at a;simp only[ji,jp] at a;exact⟨by omega,a.1,by omega⟩;omega
theorem Pq:LG:=by
 rintro⟨c,j,n,⟨⟩⟩;refine⟨fun h=> ?_,fun h=> ?_⟩;have h:aI c j n≠0:=jb h;simp only;unfold ZB;rw[jc h];have h:aI c j n=0:=(by simpa using h);obtain⟨d,e,f⟩:=Pp h;obtain⟨b,e2⟩:=Sz d;have i:=Gx (oI d).1;have a:U.tk (Fr c j)=(c,j,d4 c j,()):=(by rw[b];rfl);have g:=Po (c,j,d4 c j,()) n;simp only[a];refine⟨e,by omega,by rw[b];rfl,e2,IN ⟨e,by omega⟩,iZ6,?_⟩;unfold ZB;rw[jh h,h]
theorem E9 (c:CrD) (j:JbD) (n:Nat):bU c j (n+1)=bU c j n++(if vL (c,j,d4 c j,()) (nth (we c) n)=0 then[(n:Int)] else[]):=by
 unfold bU;rw[L.cH,zC];by_cases h:vL (c,j,d4 c j,()) (nth (we c) n)=0;rw[jh (jI h),jh h];rfl;rw[jc (by simpa using h),jc h];rfl
theorem SJ (c:CrD) (j:JbD) (n:Nat):(bU c j n).length<=n:=by
 unfold bU;rw[zr];exact jD (zX _ _) (by simp)
theorem Yv:Vy:=by
 rintro⟨c,j,⟨⟩⟩;refine⟨fun h=> ?_,fun h _=>⟨⟨0,⟨⟨rfl,tZ,tZ⟩,rfl,tZ⟩,jw _⟩,fun x f=>⟨fun a=> ?_,fun a=> ?_⟩⟩⟩;have h:qW c j≠0:=jb h;simp only;unfold cE;rw[jc h];have h:qW c j=0:=(by simpa using h);obtain⟨e,e2⟩:=Sz h;have d:U.tk (Fr c j)=(c,j,d4 c j,()):=(by rw[e];rfl);have a:x<(we c).length:=by
  have a:=jb a;have a:(x:Int)<(we c).length:=a;omega
 have g:(x:Int)<(we c).length:=(by omega);have i:=(qx (oI h).1).2.2.1;have k:=SJ c j x;simp only[d,ju];refine⟨by omega,g,by rw[e];rfl,e2,fun b=>⟨by simp only[jX,zp];omega,iZ6,x+1,⟨⟨by simp,tZ,tZ⟩,?_,tZ⟩,a,by omega⟩,fun b=>⟨iZ6,x+1,⟨⟨tZ,by simp,tZ⟩,?_,tZ⟩,a,by omega⟩⟩;have b:vL (c,j,d4 c j,()) (nth (we c) x)=0:=jb b;rw[E9,jh b];have b:¬vL (c,j,d4 c j,()) (nth (we c) x)=0:=je b;rw[E9,jc b,j7];have h:qW c j=0:=(by simpa using h);have a:(we c).length<=x:=by
  have a:=je a;have a:¬(x:Int)<(we c).length:=a;omega
 have f:x<=(we c).length:=f;simp only;unfold cE;rw[jh h,h,show x=(we c).length by omega]
def B6:Ann:=fun r=>match r with
 |2=>some fun σ=>{X:=List (Int×Int)×Int,sl:=fun x=>[(4,.dat (.uint .u64) x.2)],ob:=fun x=>[(37,some (.iter .int .int x.1 none))],inv:=fun x=>aH (sq (U.tk (gd (.ptr tTk) σ 0)) (gd tPe σ 1)) x.1 x.2,mu:=fun x=>x.1.length}
 |_=>none
abbrev jdv (d:Option (CrD×JbD×LwD×Unit)×PeD×Unit):=(wy (((0:Int),[],[],()),((0:Int),(0:Int),(0:Int),(0:Int),(0:Int),(0:Int),()),((0:Int),(0:Int),false,()),()) d.1)
def B7:Prop:=∀(d:Option (CrD×JbD×LwD×Unit)×PeD×Unit),d.1.isSome=true->bS (U.tk d.1)->d.1.isSome=true/\d.1.isSome=true/\(0:Int)<=(jdv d).2.1.2.2.2.1/\(jdv d).2.1.2.2.2.1<=64/\d.1.isSome=true/\(0:Int)<=(jdv d).2.1.q4.1/\(jdv d).2.1.q4.1<=64/\[(0:Int),(1:Int),(2:Int)].Nodup/\∀(l:List (Int×Int)),l.Perm [((0:Int),Zz !d.2.1.2.2.2.1.any fun(e:Int)=>decide (e=(jdv d).2.1.2.2.1)),((1:Int),nI (d.2.1.2.1/(2:Int)^(jdv d).2.1.2.2.2.1.toNat) (1:Int)),((2:Int),nI (d.2.1.2.2.1/(2:Int)^(jdv d).2.1.q4.1.toNat) (1:Int))]->(((∃(x:List (Int×Int)×Int),((0=x.2/\True)/\l=x.1/\True)/\aH (sq (U.tk d.1) d.2.1) x.1 x.2)/\∀(x:List (Int×Int)×Int),aH (sq (U.tk d.1) d.2.1) x.1 x.2->(x.1=[]->(false=true->False)/\(qF->(x.2,())=(vL (U.tk d.1) d.2.1,())))/\∀(pre:List (Int×Int)) (a:Int×Int) (b:List (Int×Int)),x.1=pre++a::b->(true=true->(decide (a.2=0)=true->0<=a.1/\a.1<=64/\(0:Int)<=1*2^a.1.toNat/\(1:Int)*2^a.1.toNat<=18446744073709551615/\∃(c:List (Int×Int)×Int),((uor x.2 ((1:Int)*2^a.1.toNat)=c.2/\True)/\pre++b=c.1/\True)/\aH (sq (U.tk d.1) d.2.1) c.1 c.2/\c.1.length<x.1.length)/\(decide (a.2=0)=false->∃(c:List (Int×Int)×Int),((x.2=c.2/\True)/\pre++b=c.1/\True)/\aH (sq (U.tk d.1) d.2.1) c.1 c.2/\c.1.length<x.1.length))/\(true=false->(x.2,())=(vL (U.tk d.1) d.2.1,())))/\True)/\True
theorem VB (z:Int):nI z 1=0\/nI z 1=1:=by
 unfold nI;rw[BitVec.toNat_and];have a:(BitVec.ofInt 64 1).toNat=1:=rfl;rw[a,kS];rcases Nat.mod_two_eq_zero_or_one (BitVec.ofInt 64 z).toNat with h|h;rw[h];exact .inl rfl;rw[h];exact .inr rfl
theorem N4 (s n:Int):(nI (s/2^n.toNat) 1=0)↔(!gF s n)=true:=by
 unfold gF;rcases VB (s/2^n.toNat) with h|h<;>rw[h]<;>simp
theorem VC (a b c:Bool) (p:Nat):BT.has (QF a b c) p=true↔(a=true/\p=0)\/(b=true/\p=1)\/(c=true/\p=2):=by
 match p with
 |0=>cases a<;>cases b<;>cases c<;>decide
 |1=>cases a<;>cases b<;>cases c<;>decide
 |2=>cases a<;>cases b<;>cases c<;>decide
 |p+3=>
  have h:=SF a b c;have:BT.has (QF a b c) (p+3)=false:=by
   cases d:BT.has (QF a b c) (p+3) with
   |false=>rfl
   |true=>have:=BT.has_lt (k:=3) h.1 (by omega) d;omega
  rw[this];simp
theorem VD (t:TkD) (p:PeD) (k:Nat):(∃e∈sq t p,e.2=0/\e.1.toNat=k)↔BT.has (vL t p) k=true:=by
 unfold vL;rw[VC];have c:Zz (!J7 p (WB (U.tj t)))=0↔J7 p (WB (U.tj t))=true:=by
  unfold Zz;cases J7 p (WB (U.tj t))<;>simp
 have e2:=N4 (U.fd p) (WC (U.tj t));have d:=N4 (U.cl p) (fO (U.tj t));unfold sq;simp only[jj,List.not_mem_nil,or_false];rw[<-c,<-e2,<-d];constructor;rintro⟨e,(rfl|rfl|rfl),a,b⟩;exact .inl ⟨a,b.symm⟩;exact .inr (.inl ⟨a,b.symm⟩);exact .inr (.inr ⟨a,b.symm⟩);rintro(⟨a,b⟩|⟨a,b⟩|⟨a,b⟩);exact⟨_,.inl rfl,a,b.symm⟩;exact⟨_,.inr (.inl rfl),a,b.symm⟩;exact⟨_,.inr (.inr rfl),a,b.symm⟩
theorem VE {t:TkD} {p:PeD} {e:Int×Int} (h:e∈sq t p):0<=e.1/\e.1<=2:=by
 unfold sq at h;simp only[jj,List.not_mem_nil,or_false] at h;rcases h with rfl|rfl|rfl<;>simp
theorem Pr (t:TkD) (p:PeD):(sq t p).Nodup:=by
 unfold sq;simp
theorem LI {t:TkD} {p:PeD} {l:List (Int×Int)} (h:l.Perm (sq t p)):aH (sq t p) l 0:=by
 refine⟨BT.Dg,h.symm.nodup (Pr t p),fun e c=>h.mem_iff.1 c,fun k=> ?_⟩;rw[BT.sy];constructor;intro h;cases h;rintro⟨e,a,b,_⟩;exact absurd (h.mem_iff.2 a) b
theorem Ps {t:TkD} {p:PeD} {s:Int} (h:aH (sq t p) [] s):s=vL t p:=by
 obtain⟨a,_,_,c⟩:=h;refine BT.ext a (IN (by have:=BZ t p;omega)) (fun k=> ?_);rw[jZ,c,<-VD];constructor;rintro⟨e,a,_,b⟩;exact⟨e,a,b⟩;rintro⟨e,a,b⟩;exact⟨e,a,by simp,b⟩
theorem Fa {all pre a:List (Int×Int)} {e:Int×Int} {s j:Int} (h:aH all (pre++e::a) s) (p:BT.vA j) (hk:∀k,BT.has j k=true↔BT.has s k=true\/(e.2=0/\e.1.toNat=k)):aH all (pre++a) j:=by
 obtain⟨q,m,l,n⟩:=h;have i:(e::(pre++a)).Nodup:=List.perm_middle.nodup m;have b:∀x,x∈pre++e::a↔x=e\/x∈pre++a:=fun x=>by rw[List.perm_middle.mem_iff,jj]
 rw[zn] at i;refine⟨p,i.2,fun x c=>l x ((b x).2 (.inr c)),fun k=> ?_⟩;rw[hk,n];constructor;rintro(⟨x,d,f,g⟩|⟨d,f⟩);exact⟨x,d,fun c=>f ((b x).2 (.inr c)),g⟩;exact⟨e,l e ((b e).2 (.inl rfl)),i.1,d,f⟩;rintro⟨x,d,f,g⟩;by_cases c:x=e;subst c;exact .inr g;exact .inl ⟨x,d,fun o=>by rcases(b x).1 o with h|h;exact c h;exact f h,g⟩
theorem DF:B7:=by
 unfold B7 jdv Prod.q4;rintro⟨(_|t),p,⟨⟩⟩ s d;cases s;have d:bS t:=d;have r:U.tk (some t)=t:=rfl;obtain⟨c1,c2,_⟩:=id d;obtain⟨_,_,_,⟨m,o⟩,⟨n,q⟩,_⟩:=lx c2;have m:0<=t.2.1.2.2.2.1:=m;have o:t.2.1.2.2.2.1<=7:=o;have n:0<=t.2.1.2.2.2.2.1:=n;have q:t.2.1.2.2.2.2.1<=3:=q;refine⟨rfl,rfl,m,by simp only[wy];omega,rfl,n,by simp only[wy];omega,by decide,fun l w=>⟨⟨⟨⟨(l,0),⟨⟨rfl,tZ⟩,rfl,tZ⟩,LI w⟩,fun x b=>⟨fun h=>⟨fun h=>(by cases h),fun _=> ?_⟩,fun pre e a h=>⟨fun _=> ?_,fun h=>(by cases h)⟩⟩⟩,tZ⟩,tZ⟩⟩;rw[h] at b;rw[Ps b];rw[h] at b;have u:e∈sq t p:=b.2.2.1 e (by simp);have hk:=VE u;obtain⟨k,g,v⟩:∃k:Nat,e.1=(k:Int)/\k<=2:=⟨e.1.toNat,by omega,by omega⟩;have y:(1:Int)*2^k=2^k:=Int.one_mul _;have c:(pre++a).length<x.1.length:=(by rw[h];simp);have i:BT.vA ((2:Int)^k):=BT.mD (by omega);refine⟨fun f=> ?_,fun f=> ?_⟩;have f:e.2=0:=jb f;rw[g,ju,y];refine⟨by omega,by omega,by unfold BT.vA at i;omega,by unfold BT.vA at i;omega,(pre++a,uor x.2 (2^k)),⟨⟨rfl,tZ⟩,rfl,tZ⟩,Fa b (BT.uor_set b.1 i) (fun j=> ?_),c⟩;rw[BT.has_uor b.1 i,BT.Aw,zo,jp,g,ju];simp[f];have f:¬e.2=0:=je f;exact⟨(pre++a,x.2),⟨⟨rfl,tZ⟩,rfl,tZ⟩,Fa b b.1 (fun j=>by simp[f]),c⟩
theorem ly:wU PR 180 vJ:=yi B6 DF Tryz.func180 (kcC cx (kcC Pj kcN)) koN
theorem IP:(Kq 64 [(180,vJ),(214,yM),(215,yN)] [] [(213,wI)] []).ok PR:=Lo ⟨fun _=>ly,fun _=>Gl,fun _=>Gw,tZ⟩ trivial ⟨dD,tZ⟩ trivial
theorem u6:wU PR 186 fY:=
 Sk (body:=wS Tryz.f186) (C:=Kq 64 [(180,vJ),(214,yM),(215,yN)] [] [(213,wI)] []) (hk:=hkC (Kq 64 [(180,vJ),(214,yM),(215,yN)] [] [(213,wI)] []) (fun _=>none) BY [] []) IP mixed Tryz.func186 (by kernel_rfl) (by kernel_rfl) (by kernel_rfl) (by decide)
  (fun B=>E5 IP mixed (fun k ts rs sv pr L v ρ hk c a b=>by
   unfold BY at hk
   split at hk
   case h_2=>cases hk
   simp only[jy] at hk
   cases hk
   exact IH c a b) Ys B) (oJ.mpr B5)
theorem LJ:wU PR 145 LF:=wF Pq Tryz.func145 (kcC SI (kcC u6 kcN)) koN
theorem VF:wU PR 142 Vw:=yi Vx Yv Tryz.func142 (kcC IG (kcC ly kcN)) koN
namespace U
def bZ (a b:Int):Int:=if a<b then-1 else if b<a then 1 else 0
def yq (l:List Int):Int:=match l.find? (fun n=>decide (n≠0)) with|some n=>n|none=>0
end U
structure fq {α:Type} (c:α->α->Int):Prop where
 anti:∀a b,c b a= -(c a b)
 trans:∀a b d,c a b<=0->c b d<=0->c a d<=0
section
variable {α:Type} {c c1 c2:α->α->Int}
theorem fq.refl (h:fq c) (a:α):c a a=0:=by have:=h.anti a a;omega
theorem fq.lt_le (h:fq c) {a b d:α} (g:c a b<0) (f:c b d<=0):c a d<0:=by
 have i:=h.trans a b d (by omega) f;have j:=h.anti a d;have k:=h.anti a b;by_cases e:c a d=0;have:=h.trans b d a f (by omega);omega;omega
theorem fq.le_lt (h:fq c) {a b d:α} (f:c a b<=0) (g:c b d<0):c a d<0:=by
 have i:=h.trans a b d f (by omega);have j:=h.anti a d;have k:=h.anti b d;by_cases e:c a d=0;have:=h.trans d a b (by omega) f;omega;omega
theorem fq.eq_eq (h:fq c) {a b d:α} (e:c a b=0) (f:c b d=0):c a d=0:=by
 have g:=h.trans a b d (by omega) (by omega);have i:=h.anti a d;have j:=h.anti a b;have k:=h.anti b d;have:=h.trans d b a (by omega) (by omega);omega
def QQ (c1 c2:α->α->Int) (a b:α):Int:=if c1 a b≠0 then c1 a b else c2 a b
theorem oK (c:fq c1) (g:fq c2):fq (QQ c1 c2) where
 anti a b:=by
  have i:=c.anti a b;have h:=g.anti a b;unfold QQ;by_cases e:c1 a b=0;rw[jc (by omega),jc (by omega)];exact h;rw[jh (by omega),jh e];exact i
 trans a b d:=by
  unfold QQ;by_cases e:c1 a b=0;rw[jc (by omega)];by_cases f:c1 b d=0;rw[jc (by omega),jc (by have:=c.eq_eq e f;omega)];exact g.trans a b d;rw[jh f];intro _ k;have:=c.le_lt (a:=a) (b:=b) (d:=d) (by omega) (by omega);rw[jh (by omega)];omega;rw[jh e];intro k;by_cases f:c1 b d=0;rw[jc (by omega)];intro _;have:=c.lt_le (a:=a) (b:=b) (d:=d) (by omega) (by omega);rw[jh (by omega)];omega;rw[jh f];intro h;have:=c.lt_le (a:=a) (b:=b) (d:=d) (by omega) (by omega);rw[jh (by omega)];omega
theorem nz {β:Type} (h:fq c) (f:β->α):fq (fun a b=>c (f a) (f b)):=⟨fun a b=>h.anti (f a) (f b),fun a b d=>h.trans (f a) (f b) (f d)⟩
end
theorem lz:fq bZ:=by
 constructor;intro a b;unfold bZ;split<;>split<;>(try split)<;>(try split)<;>omega
 intro a b d;unfold bZ;split<;>split<;>(try split)<;>(try split)<;>(try split)<;>(try split)<;>omega
theorem SK {a b:Int}:bZ a b<0↔a<b:=by
 unfold bZ
 split
 simp;omega
 split<;>simp<;>omega
theorem am {a b:Int}:bZ a b=0↔a=b:=by
 unfold bZ
 split
 simp;omega
 split
 simp;omega;simp;omega
theorem wY (x:Int) (l:List Int):yq (x::l)=if x≠0 then x else yq l:=by
 unfold yq;by_cases e:x=0;simp[List.find?,e];simp[List.find?,e]
theorem q9 (x:Int):yq [x]=x:=by
 rw[wY]
 split
 rfl;rename_i h;have:x=0:=(by omega);rw[this];rfl
theorem Am {t:Ty} {c:t.Data->t.Data->Int} (d:fq c) {l:List t.Data} (h:∀x y,x∈l->y∈l->c x y=0->x=y):vu (k8 t fun x=>(c x.1 x.2.1,())) l where
 irrefl x _:=by
  unfold k8;have:=d.refl x;simp only[this];rfl
 trans x y z _ _ _ b a:=by
  unfold k8 at*;have b:=jb b;have a:=jb a;exact jI (d.lt_le b (by have a:c y z<0:=a;show c y z<=0;omega))
 total x y hx hy b a:=by
  unfold k8 at*;have b:¬c x y<0:=je b;have a:¬c y x<0:=je a;have:=d.anti x y;exact h x y hx hy (by omega)
end Go.X
namespace Go.X
open U
namespace M
theorem mput_cons {kt:Ty} {β:Type} (k:kt.Data) (v:β) (e:kt.Data×β) (r:List (kt.Data×β)):eB kt k v (e::r)=if @decide (k=e.1) (kt.decEq k e.1)=true then(k,v)::r else e::eB kt k v r:=rfl
theorem mfind_cons {kt:Ty} {β:Type} (k:kt.Data) (e:kt.Data×β) (r:List (kt.Data×β)):wo kt k (e::r)=if @decide (k=e.1) (kt.decEq k e.1)=true then some e.2 else wo kt k r:=rfl
theorem dec_self {kt:Ty} (k:kt.Data): @decide (k=k) (kt.decEq k k)=true:= @jI _ (kt.decEq k k) rfl
theorem mput_fst {kt:Ty} {β:Type} (k:kt.Data) (v:β):∀m:List (kt.Data×β),(eB kt k v m).map (·.1)=m.map (·.1)\/(k∉m.map (·.1)/\(eB kt k v m).map (·.1)=m.map (·.1)++[k])
 |[]=> .inr ⟨by simp,rfl⟩
 |e::r=>by
  rw[mput_cons]
  by_cases h: @decide (k=e.1) (kt.decEq k e.1)=true
  rw[jh h]
  have h:k=e.1:= @jb _ (kt.decEq k e.1) h
  left
  simp[h]
  rw[jc h]
  have h:¬k=e.1:=fun a=>h (@jI _ (kt.decEq k e.1) a)
  rcases mput_fst k v r with d|⟨b,c⟩
  left;simp only[zu,d]
  right
  refine⟨?_,by simp only[zu,c,jU]⟩
  rw[zu,jj]
  rintro(a|a)
  exact h a
  exact b a
theorem pf {kt:Ty} {β:Type} (k:kt.Data) (v:β):∀l:List (kt.Data×β),wo kt k (eB kt k v l)=some v
 |[]=>by
  rw[show eB kt k v []=[(k,v)] from rfl,mfind_cons,jh (dec_self k)]
 |e::r=>by
  rw[mput_cons]
  by_cases h: @decide (k=e.1) (kt.decEq k e.1)=true
  rw[jh h,mfind_cons,jh (dec_self k)]
  rw[jc h,mfind_cons,jc h]
  exact pf k v r
theorem cW {kt:Ty} {β:Type} {k k':kt.Data} (a:k'≠k) (v:β):∀l:List (kt.Data×β),wo kt k' (eB kt k v l)=wo kt k' l
 |[]=>by
  rw[show eB kt k v []=[(k,v)] from rfl,mfind_cons,jc (fun e=>a (@jb _ (kt.decEq k' k) e))]
 |e::r=>by
  rw[mput_cons]
  by_cases h: @decide (k=e.1) (kt.decEq k e.1)=true
  rw[jh h]
  have h:k=e.1:= @jb _ (kt.decEq k e.1) h
  have c:¬@decide (k'=e.1) (kt.decEq k' e.1)=true:=fun b=>a ((@jb _ (kt.decEq k' e.1) b).trans h.symm)
  rw[mfind_cons,mfind_cons,jc c,jc (fun e=>a (@jb _ (kt.decEq k' k) e))]
  rw[jc h,mfind_cons,mfind_cons,cW a v r]
theorem t8 {kt:Ty} {β:Type} {k:kt.Data} {v:β}:∀{l:List (kt.Data×β)},(l.map (·.1)).Nodup->(wo kt k l=some v↔(k,v)∈l)
 |[],_=>by simp[wo]
 |e::r,h=>by
  simp only[zu,zn] at h
  rw[mfind_cons]
  by_cases hk: @decide (k=e.1) (kt.decEq k e.1)=true
  rw[jh hk]
  have hk:k=e.1:= @jb _ (kt.decEq k e.1) hk
  subst hk
  rw[jj]
  constructor
  intro a;simp at a;exact .inl (by rw[<-a])
  rintro(a|a)
  rw[<-a]
  exact absurd (jT.2 ⟨_,a,rfl⟩) h.1
  rw[jc hk]
  have hk:¬k=e.1:=fun b=>hk (@jI _ (kt.decEq k e.1) b)
  rw[t8 h.2,jj]
  constructor
  exact .inr
  rintro(a|a)
  exact absurd (by rw[<-a]) hk
  exact a
end M
end Go.X
namespace Go.Proofs
open Go.Shelf
theorem xlay {t:Type} {a:Option t} {b c:t} (h:a=some b) (e:b=c:=by kernel_rfl):a=some c:=h.trans (congrArg some e)
def Tryz.sortSh_ren:Go.Shelf.Ren:=⟨fun|6=>128|15=>140|14=>168|28=>177|29=>178|20=>195|21=>196|22=>197|23=>198|24=>199|25=>200|26=>201|27=>202|46=>218|47=>204|48=>205|49=>219|50=>220|57=>238|n=>n,fun|22=>28|24=>134|25=>159|3=>3|39=>92|0=>0|53=>189|55=>191|4=>4|46=>183|45=>182|50=>50|5=>5|9=>9|66=>213|70=>217|76=>231|77=>232|n=>n,fun|n=>n⟩
theorem Tryz.sortSh:Go.Proofs.SlLaysF0.n6 Tryz.prog Tryz.sortSh_ren:={
 mixed:=by kernel_rfl
 f6:=⟨Tryz.f128.name,by decide,xlay Tryz.func128⟩
 f14:=⟨Tryz.f168.name,by decide,xlay Tryz.func168⟩
 f15:=xlay Tryz.func140
 f20:=⟨Tryz.f195.name,by decide,xlay Tryz.func195⟩
 f21:=⟨Tryz.f196.name,by decide,xlay Tryz.func196⟩
 f22:=⟨Tryz.f197.name,by decide,xlay Tryz.func197⟩
 f23:=⟨Tryz.f198.name,by decide,xlay Tryz.func198⟩
 f24:=⟨Tryz.f199.name,by decide,xlay Tryz.func199⟩
 f25:=⟨Tryz.f200.name,by decide,xlay Tryz.func200⟩
 f26:=⟨Tryz.f201.name,by decide,xlay Tryz.func201⟩
 f27:=⟨Tryz.f202.name,by decide,xlay Tryz.func202⟩
 f28:=xlay Tryz.func177
 f29:=xlay Tryz.func178
 f46:=⟨Tryz.f218.name,by decide,xlay Tryz.func218⟩
 f47:=xlay Tryz.func204
 f48:=xlay Tryz.func205
 f49:=⟨Tryz.f219.name,by decide,xlay Tryz.func219⟩
 f50:=⟨Tryz.f220.name,by decide,xlay Tryz.func220⟩
 f57:=⟨Tryz.f238.name,by decide,xlay Tryz.func238⟩
 t0:=Tryz.underlying0
 a0:=Tryz.isAgg0
 z0:=Tryz.sizeOf0
 v0:=Tryz.zeroValue0
 t3:=Tryz.underlying3
 a3:=Tryz.isAgg3
 z3:=Tryz.sizeOf3
 v3:=Tryz.zeroValue3
 t4:=Tryz.underlying4
 a4:=Tryz.isAgg4
 z4:=Tryz.sizeOf4
 v4:=Tryz.zeroValue4
 t5:=Tryz.underlying5
 a5:=Tryz.isAgg5
 z5:=Tryz.sizeOf5
 v5:=Tryz.zeroValue5
 t9:=Tryz.underlying9
 a9:=Tryz.isAgg9
 z9:=Tryz.sizeOf9
 v9:=Tryz.zeroValue9
 t22:=Tryz.underlying28
 a22:=Tryz.isAgg28
 z22:=Tryz.sizeOf28
 v22:=Tryz.zeroValue28
 t25:=Tryz.underlying159
 a25:=Tryz.isAgg159
 z25:=Tryz.sizeOf159
 v25:=Tryz.zeroValue159
 t39:=Tryz.underlying92
 a39:=Tryz.isAgg92
 z39:=Tryz.sizeOf92
 v39:=Tryz.zeroValue92
 t45:=Tryz.underlying182
 a45:=Tryz.isAgg182
 z45:=Tryz.sizeOf182
 v45:=Tryz.zeroValue182
 t46:=Tryz.underlying183
 a46:=Tryz.isAgg183
 z46:=Tryz.sizeOf183
 v46:=Tryz.zeroValue183
 t50:=Tryz.underlying50
 a50:=Tryz.isAgg50
 z50:=Tryz.sizeOf50
 v50:=Tryz.zeroValue50
 t53:=Tryz.underlying189
 a53:=Tryz.isAgg189
 z53:=Tryz.sizeOf189
 v53:=Tryz.zeroValue189
 t55:=Tryz.underlying191
 a55:=Tryz.isAgg191
 z55:=Tryz.sizeOf191
 v55:=Tryz.zeroValue191
 t66:=Tryz.underlying213
 a66:=Tryz.isAgg213
 z66:=Tryz.sizeOf213
 v66:=Tryz.zeroValue213
 t70:=Tryz.underlying217
 a70:=Tryz.isAgg217
 z70:=Tryz.sizeOf217
 v70:=Tryz.zeroValue217
 t76:=Tryz.underlying231
 a76:=Tryz.isAgg231
 z76:=Tryz.sizeOf231
 v76:=Tryz.zeroValue231
 t77:=Tryz.underlying232
 a77:=Tryz.isAgg232
 z77:=Tryz.sizeOf232
 v77:=Tryz.zeroValue232}
def Tryz.sortI_ren:Go.Shelf.Ren:=⟨fun|189=>183|125=>140|257=>212|128=>177|129=>178|294=>225|295=>226|296=>227|297=>228|298=>229|299=>230|216=>231|300=>232|301=>233|328=>242|329=>204|330=>205|331=>243|332=>244|215=>141|343=>248|n=>n,fun|28=>31|3=>3|46=>92|0=>0|51=>189|53=>191|4=>4|183=>183|182=>182|131=>50|5=>5|9=>9|218=>213|222=>217|228=>231|229=>232|n=>n,fun|n=>n⟩
theorem Tryz.sortI:Go.Proofs.Lays.n189 Tryz.prog Tryz.sortI_ren:={
 mixed:=by kernel_rfl
 f125:=xlay Tryz.func140
 f128:=xlay Tryz.func177
 f129:=xlay Tryz.func178
 f189:=xlay Tryz.func183
 f215:=xlay Tryz.func141
 f216:=xlay Tryz.func231
 f257:=xlay Tryz.func212
 f294:=xlay Tryz.func225
 f295:=xlay Tryz.func226
 f296:=xlay Tryz.func227
 f297:=xlay Tryz.func228
 f298:=xlay Tryz.func229
 f299:=xlay Tryz.func230
 f300:=xlay Tryz.func232
 f301:=xlay Tryz.func233
 f328:=xlay Tryz.func242
 f329:=xlay Tryz.func204
 f330:=xlay Tryz.func205
 f331:=xlay Tryz.func243
 f332:=xlay Tryz.func244
 f343:=xlay Tryz.func248
 t0:=Tryz.underlying0
 a0:=Tryz.isAgg0
 z0:=Tryz.sizeOf0
 v0:=Tryz.zeroValue0
 t3:=Tryz.underlying3
 a3:=Tryz.isAgg3
 z3:=Tryz.sizeOf3
 v3:=Tryz.zeroValue3
 t4:=Tryz.underlying4
 a4:=Tryz.isAgg4
 z4:=Tryz.sizeOf4
 v4:=Tryz.zeroValue4
 t5:=Tryz.underlying5
 a5:=Tryz.isAgg5
 z5:=Tryz.sizeOf5
 v5:=Tryz.zeroValue5
 t9:=Tryz.underlying9
 a9:=Tryz.isAgg9
 z9:=Tryz.sizeOf9
 v9:=Tryz.zeroValue9
 t28:=Tryz.underlying31
 a28:=Tryz.isAgg31
 z28:=Tryz.sizeOf31
 v28:=Tryz.zeroValue31
 t46:=Tryz.underlying92
 a46:=Tryz.isAgg92
 z46:=Tryz.sizeOf92
 v46:=Tryz.zeroValue92
 t51:=Tryz.underlying189
 a51:=Tryz.isAgg189
 z51:=Tryz.sizeOf189
 v51:=Tryz.zeroValue189
 t53:=Tryz.underlying191
 a53:=Tryz.isAgg191
 z53:=Tryz.sizeOf191
 v53:=Tryz.zeroValue191
 t131:=Tryz.underlying50
 a131:=Tryz.isAgg50
 z131:=Tryz.sizeOf50
 v131:=Tryz.zeroValue50
 t182:=Tryz.underlying182
 a182:=Tryz.isAgg182
 z182:=Tryz.sizeOf182
 v182:=Tryz.zeroValue182
 t183:=Tryz.underlying183
 a183:=Tryz.isAgg183
 z183:=Tryz.sizeOf183
 v183:=Tryz.zeroValue183
 t218:=Tryz.underlying213
 a218:=Tryz.isAgg213
 z218:=Tryz.sizeOf213
 v218:=Tryz.zeroValue213
 t222:=Tryz.underlying217
 a222:=Tryz.isAgg217
 z222:=Tryz.sizeOf217
 v222:=Tryz.zeroValue217
 t228:=Tryz.underlying231
 a228:=Tryz.isAgg231
 z228:=Tryz.sizeOf231
 v228:=Tryz.zeroValue231
 t229:=Tryz.underlying232
 a229:=Tryz.isAgg232
 z229:=Tryz.sizeOf232
 v229:=Tryz.zeroValue232}
end Go.Proofs
namespace Go.X
open U
open Go.Proofs
abbrev rwS:Sh:= .cl (.row 134 tSh .unk)
namespace U
def uG (s:SpD):Bool:=(decide (0<=lo s)&&decide (lo s<=hi s))&&decide (hi s<=300)
def Db (n:Nat) (b:BkD):Bool:=((kV (Zg b) 0 ((n:Int)-1)&&decide (0<=qR b))&&decide (qR b<mB b))&&decide (mB b<=1440)
def J9 (nb a:Nat) (s:ShD):Bool:=(((kV (gu s) 0 99&&kV (Hu s) 0 9999)&&kV (WD s) 1 2)&&kV (J5 s) 0 ((nb:Int)-1))&&kV (nD s) 0 ((a:Int)-1)
def cF (a b:ShD):Int:=yq [bZ (gu a) (gu b),bZ (Hu a) (Hu b),bZ (WD a) (WD b),bZ (J5 a) (J5 b),bZ (nD a) (nD b)]
def wn (a b:ShD):Int:=yq [bZ (Hu a) (Hu b),bZ (gu a) (gu b)]
def yB (a b:ShD):Bool:=decide (a=b)
def w4 (l:List ShD):List ShD:=aN yB (kZ (k8 tSh fun x=>(cF x.1 x.2.1,())) l)
def mC (m:List (Int×Int)) (s:ShD):List (Int×Int):=eB .int (gu s) (wD 0 (wo .int (gu s) m)+1) m
def yd (m:List (Int×Int)) (l:List ShD) (n:Nat):List (Int×Int):=(l.take n).foldl mC m
def Ou (m:List (Int×Int)) (s:ShD):Bool:=decide (1<wD 0 (wo .int (gu s) (mC m s)))
def sr (m:List (Int×Int)) (l:List ShD) (i:Nat):Bool:=Ou (yd m l i) (nth l i)
def l3 (m:List (Int×Int)) (l:List ShD):Int:=yE (sr m l) (List.range l.length)
def Up (m:List (Int×Int)) (l:List ShD):Nat:=match(List.range l.length).findIdx? (sr m l) with|some i=>i+1|none=>l.length
def o8 (m:List (Int×Int)) (l:List ShD):List (Int×Int):=yd m l (Up m l)
def jaD (m:List (Int×Int)):Prop:=m=[]
def Uq (m:List (Int×Int)):Prop:=∀k,0<=wD 0 (wo .int k m)/\wD 0 (wo .int k m)<=200000
def QS (l:List ShD):Bool:=decide (0<=l3 [] l)
def t6 (d:DyD):Int:=if wz (wi d)=false then 30 else if J6 d=false then 31 else 0
def wR (d:DyD):Int:=if t6 d≠0 then t6 d else if qc d=false then 50 else if QS (w4 (qV d))=true then 51 else 0
end U
def LK:wL:=⟨[.val .int,.val .int,.val .int],[.bool],false,fun _=>[],fun d=>(kV d.1 d.2.1 d.2.2.1,())⟩
def LL:Prop:=∀(d:Int×Int×Int×Unit),(decide (d.2.1<=d.1)&&decide (d.1<=d.2.2.1),())=(kV d.1 d.2.1 d.2.2.1,())
def mH:wL:=⟨[.val (.slice tSp),.fn [tSp] [.bool]],[.int],false,fun d=>[∀g∈d.1,wl (d.2.1.pre (g,()))],fun d=>(yE (kX (α:=SpD) d.2.1.F) d.1,())⟩
def mI:Ann:=fun r=>match r with
 |2=>some fun σ=>{X:=Nat,sl:=fun i=>[(8,.dat .int (i:Int))],ob:=fun _=>[],inv:=fun i=>i<=(gd (.slice tSp) σ 0).length/\∀b:Nat,b<i->kX (gfb tSp σ 1) (nth (gd (.slice tSp) σ 0) b)=false,mu:=fun i=>(gd (.slice tSp) σ 0).length-i}
 |_=>none
def mJ:Prop:=∀(d:List (Int×Int×Unit)×FnD [tSp] [Ty.bool]×Unit),(∀(g:Int×Int×Unit),g∈d.1->wl (d.2.1.1 (g,())))->d.1.length<4611686018427387904->(∃(x:Nat),((0=(x:Int)/\True)/\True)/\x<=d.1.length/\∀(b:Nat),b<x->kX d.2.1.2 (nth d.1 b)=false)/\∀(x:Nat),(x<=d.1.length/\∀(b:Nat),b<x->kX d.2.1.2 (nth d.1 b)=false)->(decide ((x:Int)<d.1.length)=true->0<=(x:Int)/\(x:Int)<d.1.length/\asks (d.2.1.1 (nth d.1 (x:Int).toNat,())) (((d.2.1.2 (nth d.1 (x:Int).toNat,())).1=true->((x:Int),())=(yE (kX d.2.1.2) d.1,()))/\((d.2.1.2 (nth d.1 (x:Int).toNat,())).1=false->wq ((x:Int)+1)/\∃(a:Nat),(((x:Int)+1=(a:Int)/\True)/\True)/\(a<=d.1.length/\∀(b:Nat),b<a->kX d.2.1.2 (nth d.1 b)=false)/\d.1.length-a<d.1.length-x)))/\(decide ((x:Int)<d.1.length)=false->((-1:Int),())=(yE (kX d.2.1.2) d.1,()))
def fu:wL:=⟨[.val (.slice tSp),.fn [tSp] [.bool]],[.bool],false,fun d=>[∀g∈d.1,wl (d.2.1.pre (g,()))],fun d=>(d.1.any (kX (α:=SpD) d.2.1.F),())⟩
def fw:Prop:=∀(d:List (Int×Int×Unit)×FnD [tSp] [Ty.bool]×Unit),(∀(g:Int×Int×Unit),g∈d.1->wl (d.2.1.1 (g,())))->(∀(g:Int×Int×Unit),g∈d.1->wl (d.2.1.1 (g,())))/\(decide (0<=yE (kX d.2.1.2) d.1),())=(d.1.any (kX d.2.1.2),())
def lA:wL:=⟨[.val (.slice (.slice tSp)),.fn [(.slice tSp)] [.bool]],[.int],false,fun d=>[∀g∈d.1,wl (d.2.1.pre (g,()))],fun d=>(yE (kX (α:=(List SpD)) d.2.1.F) d.1,())⟩
def lB:Ann:=fun r=>match r with
 |2=>some fun σ=>{X:=Nat,sl:=fun i=>[(8,.dat .int (i:Int))],ob:=fun _=>[],inv:=fun i=>i<=(gd (.slice (.slice tSp)) σ 0).length/\∀b:Nat,b<i->kX (gfb (.slice tSp) σ 1) (nth (gd (.slice (.slice tSp)) σ 0) b)=false,mu:=fun i=>(gd (.slice (.slice tSp)) σ 0).length-i}
 |_=>none
def lC:Prop:=∀(d:List (List (Int×Int×Unit))×FnD [tSp.slice] [Ty.bool]×Unit),(∀(g:List (Int×Int×Unit)),g∈d.1->wl (d.2.1.1 (g,())))->d.1.length<4611686018427387904->(∃(x:Nat),((0=(x:Int)/\True)/\True)/\x<=d.1.length/\∀(b:Nat),b<x->kX d.2.1.2 (nth d.1 b)=false)/\∀(x:Nat),(x<=d.1.length/\∀(b:Nat),b<x->kX d.2.1.2 (nth d.1 b)=false)->(decide ((x:Int)<d.1.length)=true->0<=(x:Int)/\(x:Int)<d.1.length/\asks (d.2.1.1 (nth d.1 (x:Int).toNat,())) (((d.2.1.2 (nth d.1 (x:Int).toNat,())).1=true->((x:Int),())=(yE (kX d.2.1.2) d.1,()))/\((d.2.1.2 (nth d.1 (x:Int).toNat,())).1=false->wq ((x:Int)+1)/\∃(a:Nat),(((x:Int)+1=(a:Int)/\True)/\True)/\(a<=d.1.length/\∀(b:Nat),b<a->kX d.2.1.2 (nth d.1 b)=false)/\d.1.length-a<d.1.length-x)))/\(decide ((x:Int)<d.1.length)=false->((-1:Int),())=(yE (kX d.2.1.2) d.1,()))
def dE:wL:=⟨[.val (.slice (.slice tSp)),.fn [(.slice tSp)] [.bool]],[.bool],false,fun d=>[∀g∈d.1,wl (d.2.1.pre (g,()))],fun d=>(d.1.any (kX (α:=(List SpD)) d.2.1.F),())⟩
def dF:Prop:=∀(d:List (List (Int×Int×Unit))×FnD [tSp.slice] [Ty.bool]×Unit),(∀(g:List (Int×Int×Unit)),g∈d.1->wl (d.2.1.1 (g,())))->(∀(g:List (Int×Int×Unit)),g∈d.1->wl (d.2.1.1 (g,())))/\(decide (0<=yE (kX d.2.1.2) d.1),())=(d.1.any (kX d.2.1.2),())
def fx:wL:=⟨[.val (.slice tBk),.fn [tBk] [.bool]],[.int],false,fun d=>[∀g∈d.1,wl (d.2.1.pre (g,()))],fun d=>(yE (kX (α:=BkD) d.2.1.F) d.1,())⟩
def fy:Ann:=fun r=>match r with
 |2=>some fun σ=>{X:=Nat,sl:=fun i=>[(8,.dat .int (i:Int))],ob:=fun _=>[],inv:=fun i=>i<=(gd (.slice tBk) σ 0).length/\∀b:Nat,b<i->kX (gfb tBk σ 1) (nth (gd (.slice tBk) σ 0) b)=false,mu:=fun i=>(gd (.slice tBk) σ 0).length-i}
 |_=>none
def fA:Prop:=∀(d:List BkD×FnD [tBk] [Ty.bool]×Unit),(∀(g:BkD),g∈d.1->wl (d.2.1.1 (g,())))->d.1.length<4611686018427387904->(∃(x:Nat),((0=(x:Int)/\True)/\True)/\x<=d.1.length/\∀(b:Nat),b<x->kX d.2.1.2 (nth d.1 b)=false)/\∀(x:Nat),(x<=d.1.length/\∀(b:Nat),b<x->kX d.2.1.2 (nth d.1 b)=false)->(decide ((x:Int)<d.1.length)=true->0<=(x:Int)/\(x:Int)<d.1.length/\asks (d.2.1.1 (nth d.1 (x:Int).toNat,())) (((d.2.1.2 (nth d.1 (x:Int).toNat,())).1=true->((x:Int),())=(yE (kX d.2.1.2) d.1,()))/\((d.2.1.2 (nth d.1 (x:Int).toNat,())).1=false->wq ((x:Int)+1)/\∃(a:Nat),(((x:Int)+1=(a:Int)/\True)/\True)/\(a<=d.1.length/\∀(b:Nat),b<a->kX d.2.1.2 (nth d.1 b)=false)/\d.1.length-a<d.1.length-x)))/\(decide ((x:Int)<d.1.length)=false->((-1:Int),())=(yE (kX d.2.1.2) d.1,()))
def b9:wL:=⟨[.val (.slice tBk),.fn [tBk] [.bool]],[.bool],false,fun d=>[∀g∈d.1,wl (d.2.1.pre (g,()))],fun d=>(d.1.any (kX (α:=BkD) d.2.1.F),())⟩
def ca:Prop:=∀(d:List BkD×FnD [tBk] [Ty.bool]×Unit),(∀(g:BkD),g∈d.1->wl (d.2.1.1 (g,())))->(∀(g:BkD),g∈d.1->wl (d.2.1.1 (g,())))/\(decide (0<=yE (kX d.2.1.2) d.1),())=(d.1.any (kX d.2.1.2),())
def lD:wL:=⟨[.val (.slice tSh),.fn [tSh] [.bool]],[.int],false,fun d=>[∀g∈d.1,wl (d.2.1.pre (g,()))],fun d=>(yE (kX (α:=ShD) d.2.1.F) d.1,())⟩
def lE:Ann:=fun r=>match r with
 |2=>some fun σ=>{X:=Nat,sl:=fun i=>[(8,.dat .int (i:Int))],ob:=fun _=>[],inv:=fun i=>i<=(gd (.slice tSh) σ 0).length/\∀b:Nat,b<i->kX (gfb tSh σ 1) (nth (gd (.slice tSh) σ 0) b)=false,mu:=fun i=>(gd (.slice tSh) σ 0).length-i}
 |_=>none
def lF:Prop:=∀(d:List ShD×FnD [tSh] [Ty.bool]×Unit),(∀(g:ShD),g∈d.1->wl (d.2.1.1 (g,())))->d.1.length<4611686018427387904->(∃(x:Nat),((0=(x:Int)/\True)/\True)/\x<=d.1.length/\∀(b:Nat),b<x->kX d.2.1.2 (nth d.1 b)=false)/\∀(x:Nat),(x<=d.1.length/\∀(b:Nat),b<x->kX d.2.1.2 (nth d.1 b)=false)->(decide ((x:Int)<d.1.length)=true->0<=(x:Int)/\(x:Int)<d.1.length/\asks (d.2.1.1 (nth d.1 (x:Int).toNat,())) (((d.2.1.2 (nth d.1 (x:Int).toNat,())).1=true->((x:Int),())=(yE (kX d.2.1.2) d.1,()))/\((d.2.1.2 (nth d.1 (x:Int).toNat,())).1=false->wq ((x:Int)+1)/\∃(a:Nat),(((x:Int)+1=(a:Int)/\True)/\True)/\(a<=d.1.length/\∀(b:Nat),b<a->kX d.2.1.2 (nth d.1 b)=false)/\d.1.length-a<d.1.length-x)))/\(decide ((x:Int)<d.1.length)=false->((-1:Int),())=(yE (kX d.2.1.2) d.1,()))
def dG:wL:=⟨[.val (.slice tSh),.fn [tSh] [.bool]],[.bool],false,fun d=>[∀g∈d.1,wl (d.2.1.pre (g,()))],fun d=>(d.1.any (kX (α:=ShD) d.2.1.F),())⟩
def dH:Prop:=∀(d:List ShD×FnD [tSh] [Ty.bool]×Unit),(∀(g:ShD),g∈d.1->wl (d.2.1.1 (g,())))->(∀(g:ShD),g∈d.1->wl (d.2.1.1 (g,())))/\(decide (0<=yE (kX d.2.1.2) d.1),())=(d.1.any (kX d.2.1.2),())
def sX:wL:=⟨[.val tSp,.rfn [tSp] [.bool]],[.bool],false,fun d=>[wl (d.2.1.pre (d.1,()))],fun d=>(!(kX (α:=SpD) d.2.1.F d.1),())⟩
def sY:Prop:=∀(d:(Int×Int×Unit)×FnD [tSp] [Ty.bool]×Unit),wl (d.2.1.1 (d.1,()))->asks (d.2.1.1 (d.1,())) ((!(d.2.1.2 (d.1,())).1,())=(!kX d.2.1.2 d.1,()))
def B8:wL:=⟨[.val (.slice tSp),.fn [tSp] [.bool]],[.bool],false,fun d=>[∀g∈d.1,wl (d.2.1.pre (g,()))],fun d=>(d.1.all (kX (α:=SpD) d.2.1.F),())⟩
def B9:Prop:=∀(d:List (Int×Int×Unit)×FnD [tSp] [Ty.bool]×Unit),(∀(g:Int×Int×Unit),g∈d.1->wl (d.2.1.1 (g,())))->(∀(g:Int×Int×Unit),g∈d.1->wl [wl (d.2.1.1 (g,()))])/\(!d.1.any (kX fun(a:(Int×Int×Unit)×Unit)=>(!kX d.2.1.2 a.1,())),())=(d.1.all (kX d.2.1.2),())
def rz:wL:=⟨[.val (.slice tSp),.rfn [(.slice tSp)] [.bool]],[.bool],false,fun d=>[wl (d.2.1.pre (d.1,()))],fun d=>(!(kX (α:=(List SpD)) d.2.1.F d.1),())⟩
def rA:Prop:=∀(d:List (Int×Int×Unit)×FnD [tSp.slice] [Ty.bool]×Unit),wl (d.2.1.1 (d.1,()))->asks (d.2.1.1 (d.1,())) ((!(d.2.1.2 (d.1,())).1,())=(!kX d.2.1.2 d.1,()))
def u7:wL:=⟨[.val (.slice (.slice tSp)),.fn [(.slice tSp)] [.bool]],[.bool],false,fun d=>[∀g∈d.1,wl (d.2.1.pre (g,()))],fun d=>(d.1.all (kX (α:=(List SpD)) d.2.1.F),())⟩
def u9:Prop:=∀(d:List (List (Int×Int×Unit))×FnD [tSp.slice] [Ty.bool]×Unit),(∀(g:List (Int×Int×Unit)),g∈d.1->wl (d.2.1.1 (g,())))->(∀(g:List (Int×Int×Unit)),g∈d.1->wl [wl (d.2.1.1 (g,()))])/\(!d.1.any (kX fun(a:List (Int×Int×Unit)×Unit)=>(!kX d.2.1.2 a.1,())),())=(d.1.all (kX d.2.1.2),())
def mK:wL:=⟨[.val tBk,.rfn [tBk] [.bool]],[.bool],false,fun d=>[wl (d.2.1.pre (d.1,()))],fun d=>(!(kX (α:=BkD) d.2.1.F d.1),())⟩
def mL:Prop:=∀(d:BkD×FnD [tBk] [Ty.bool]×Unit),wl (d.2.1.1 (d.1,()))->asks (d.2.1.1 (d.1,())) ((!(d.2.1.2 (d.1,())).1,())=(!kX d.2.1.2 d.1,()))
def rB:wL:=⟨[.val (.slice tBk),.fn [tBk] [.bool]],[.bool],false,fun d=>[∀g∈d.1,wl (d.2.1.pre (g,()))],fun d=>(d.1.all (kX (α:=BkD) d.2.1.F),())⟩
def rC:Prop:=∀(d:List BkD×FnD [tBk] [Ty.bool]×Unit),(∀(g:BkD),g∈d.1->wl (d.2.1.1 (g,())))->(∀(g:BkD),g∈d.1->wl [wl (d.2.1.1 (g,()))])/\(!d.1.any (kX fun(a:BkD×Unit)=>(!kX d.2.1.2 a.1,())),())=(d.1.all (kX d.2.1.2),())
def rD:wL:=⟨[.val tSh,.rfn [tSh] [.bool]],[.bool],false,fun d=>[wl (d.2.1.pre (d.1,()))],fun d=>(!(kX (α:=ShD) d.2.1.F d.1),())⟩
def rE:Prop:=∀(d:ShD×FnD [tSh] [Ty.bool]×Unit),wl (d.2.1.1 (d.1,()))->asks (d.2.1.1 (d.1,())) ((!(d.2.1.2 (d.1,())).1,())=(!kX d.2.1.2 d.1,()))
def xa:wL:=⟨[.val (.slice tSh),.fn [tSh] [.bool]],[.bool],false,fun d=>[∀g∈d.1,wl (d.2.1.pre (g,()))],fun d=>(d.1.all (kX (α:=ShD) d.2.1.F),())⟩
def xb:Prop:=∀(d:List ShD×FnD [tSh] [Ty.bool]×Unit),(∀(g:ShD),g∈d.1->wl (d.2.1.1 (g,())))->(∀(g:ShD),g∈d.1->wl [wl (d.2.1.1 (g,()))])/\(!d.1.any (kX fun(a:ShD×Unit)=>(!kX d.2.1.2 a.1,())),())=(d.1.all (kX d.2.1.2),())
def IQ:wL:=⟨[.val tSp],[.bool],false,fun _=>[],fun d=>(uG d.1,())⟩
def IR:Prop:=∀(d:(Int×Int×Unit)×Unit),(decide (0<=d.1.1)&&decide (d.1.1<=d.1.2.1)&&decide (d.1.2.1<=300),())=(uG d.1,())
def IT:wL:=⟨[.val (.slice tSp),.ref tDy,.rfn [tSp] [.bool]],[.bool],false,fun d=>[∀g∈d.1,wl (d.2.2.1.pre (g,()))],fun d=>(decide ((d.1.length:Int)=(wO d.2.1).length)&&d.1.all (kX (α:=SpD) d.2.2.1.F),())⟩
def IU:Prop:=∀(d:List (Int×Int×Unit)×DyD×FnD [tSp] [Ty.bool]×Unit),(∀(g:Int×Int×Unit),g∈d.1->wl (d.2.2.1.1 (g,())))->d.1.length<4611686018427387904->d.2.1.2.1.length<4611686018427387904->(decide ((d.1.length:Int)=d.2.1.2.1.length)=true->∀(g:Int×Int×Unit),g∈d.1->wl (d.2.2.1.1 (g,())))/\(decide ((d.1.length:Int)=d.2.1.2.1.length)&&d.1.all (kX d.2.2.1.2),())=(decide ((d.1.length:Int)=(wO d.2.1).length)&&d.1.all (kX d.2.2.1.2),())
def IV:wL:=⟨[.val tBk,.ref tDy],[.bool],false,fun _=>[],fun d=>(Db (wO d.2.1).length d.1,())⟩
def IW:Prop:=∀(d:BkD×DyD×Unit),d.2.1.2.1.length<4611686018427387904->wq ((d.2.1.2.1.length:Int)-1)/\(kV d.1.2.1 (0:Int) ((d.2.1.2.1.length:Int)-1)&&decide (0<=d.1.2.2.1)&&decide (d.1.2.2.1<d.1.2.2.2.1)&&decide (d.1.2.2.2.1<=1440),())=(Db (wO d.2.1).length d.1,())
def IX:wL:=⟨[.val tSh,.ref tDy],[.bool],false,fun _=>[],fun d=>(J9 (wg d.2.1).length (we (wi d.2.1)).length d.1,())⟩
abbrev jfH (d:ShD×DyD×Unit):=(kV d.1.1 (0:Int) (99:Int)&&kV d.1.2.1 (0:Int) (9999:Int)&&kV d.1.2.2.1 (1:Int) (2:Int)&&kV d.1.2.2.2.1 (0:Int) ((d.2.1.2.2.1.length:Int)-1))
abbrev jfI (d:ShD×DyD×Unit):=(kV d.1.1 (0:Int) (99:Int)&&kV d.1.2.1 (0:Int) (9999:Int)&&kV d.1.2.2.1 (1:Int) (2:Int))
def IY:Prop:=∀(d:ShD×DyD×Unit),((jfI d)=true->d.2.1.2.2.1.length<4611686018427387904)->((jfI d)=true->wq ((d.2.1.2.2.1.length:Int)-1))/\(((jfH d)=true->d.2.1.1.2.1.length<4611686018427387904)->((jfH d)=true->wq ((d.2.1.1.2.1.length:Int)-1))/\(kV d.1.1 (0:Int) (99:Int)&&kV d.1.2.1 (0:Int) (9999:Int)&&kV d.1.2.2.1 (1:Int) (2:Int)&&kV d.1.2.2.2.1 (0:Int) ((d.2.1.2.2.1.length:Int)-1)&&kV d.1.q4.1 (0:Int) ((d.2.1.1.2.1.length:Int)-1),())=(J9 (wg d.2.1).length (we (wi d.2.1)).length d.1,()))
def Pt:wL:=⟨[.val tDy],[.bool],false,fun _=>[],fun d=>(qc d.1,())⟩
abbrev je5 (d:DyD×Unit):=(kX fun(a:BkD×Unit)=>(Db (wO d.1).length a.1,()))
abbrev jdJ (d:DyD×Unit):=((d.1.2.2.1.length:Int)<=4)
abbrev jeB (d:DyD×Unit):=(↑(wO d.1).length:Int)
abbrev jd5 (d:DyD×Unit):=(d.1.2.1.length:Int)
def Pu:Prop:=∀(d:DyD×Unit),d.1.2.2.1.length<4611686018427387904->(decide (jdJ d)=true->d.1.2.1.length<4611686018427387904)->((decide (jdJ d)&&kV (jd5 d) (1:Int) (5:Int))=true->∀(g:List (Int×Int×Unit)),g∈d.1.2.1->wl [∀(b:Int×Int×Unit),b∈g->wl []])/\((decide (jdJ d)&&kV (jd5 d) (1:Int) (5:Int)&&d.1.2.1.all (kX fun(a:List (Int×Int×Unit)×Unit)=>(decide ((a.1.length:Int)=(jeB d))&&a.1.all (kX fun(c:(Int×Int×Unit)×Unit)=>(uG c.1,())),())))=true->∀(e:BkD),e∈d.1.2.2.1->wl [])/\(((decide (jdJ d)&&kV (jd5 d) (1:Int) (5:Int)&&d.1.2.1.all (kX fun(a:List (Int×Int×Unit)×Unit)=>(decide ((a.1.length:Int)=(jeB d))&&a.1.all (kX fun(f:(Int×Int×Unit)×Unit)=>(uG f.1,())),()))&&d.1.2.2.1.all (je5 d)&&kV d.1.2.2.2.1 (0:Int) (300:Int)&&kV d.1.q4.1 (0:Int) (1440:Int))=true->d.1.q4.2.1.length<4611686018427387904)->((decide (jdJ d)&&kV (jd5 d) (1:Int) (5:Int)&&d.1.2.1.all (kX fun(a:List (Int×Int×Unit)×Unit)=>(decide ((a.1.length:Int)=(jeB d))&&a.1.all (kX fun(h:(Int×Int×Unit)×Unit)=>(uG h.1,())),()))&&d.1.2.2.1.all (je5 d)&&kV d.1.2.2.2.1 (0:Int) (300:Int)&&kV d.1.q4.1 (0:Int) (1440:Int)&&decide ((d.1.q4.2.1.length:Int)<=30))=true->∀(i:ShD),i∈d.1.q4.2.1->wl [])/\(decide (jdJ d)&&kV (jd5 d) (1:Int) (5:Int)&&d.1.2.1.all (kX fun(a:List (Int×Int×Unit)×Unit)=>(decide ((a.1.length:Int)=(jeB d))&&a.1.all (kX fun(u5:(Int×Int×Unit)×Unit)=>(uG u5.1,())),()))&&d.1.2.2.1.all (je5 d)&&kV d.1.2.2.2.1 (0:Int) (300:Int)&&kV d.1.q4.1 (0:Int) (1440:Int)&&decide ((d.1.q4.2.1.length:Int)<=30)&&d.1.q4.2.1.all (kX fun(j:ShD×Unit)=>(J9 (wg d.1).length (we (wi d.1)).length j.1,())),())=(qc d.1,()))
def xc:wL:=⟨[.val .int],[.bool],false,fun _=>[],fun _=>(false,())⟩
def xd:Prop:=∀(d:Int×Unit),(decide (d.1≠d.1),())=(false,())
def rF:wL:=⟨[.val .int,.val .int],[.int],false,fun _=>[],fun d=>(bZ d.1 d.2.1,())⟩
abbrev jdK (d:Int×Int×Unit):=(bZ d.1 d.2.1,())
def rG:Prop:=∀(d:Int×Int×Unit),(false=true->(false=true->((0:Int),())=(jdK d))/\(qF->((-1:Int),())=(jdK d)))/\(qF->(false=true->((1:Int),())=(jdK d))/\(qF->(decide (d.1<d.2.1)=true->((-1:Int),())=(jdK d))/\(decide (d.1<d.2.1)=false->(decide (d.2.1<d.1)=true->((1:Int),())=(jdK d))/\(decide (d.2.1<d.1)=false->((0:Int),())=(jdK d)))))
def Gy:wL:=⟨[.val (.slice .int)],[.int],false,fun _=>[],fun d=>(yq d.1,())⟩
def Gz:Ann:=fun r=>match r with
 |3=>some fun σ=>{X:=Nat,sl:=fun i=>[(8,.dat .int (i:Int))],ob:=fun _=>[],inv:=fun i=>i<=(gd (.slice .int) σ 0).length/\∀b:Nat,b<i->nth (gd (.slice .int) σ 0) b=0,mu:=fun i=>(gd (.slice .int) σ 0).length-i}
 |_=>none
def GA:Prop:=∀(d:List Int×Unit),d.1.length<4611686018427387904->(∃(x:Nat),((0=(x:Int)/\True)/\True)/\x<=d.1.length/\∀(b:Nat),b<x->nth d.1 b=0)/\∀(x:Nat),(x<=d.1.length/\∀(b:Nat),b<x->nth d.1 b=0)->(decide ((x:Int)<d.1.length)=true->0<=(x:Int)/\(x:Int)<d.1.length/\(decide (nth d.1 (x:Int).toNat≠0)=true->(nth d.1 (x:Int).toNat,())=(yq d.1,()))/\(decide (nth d.1 (x:Int).toNat≠0)=false->wq ((x:Int)+1)/\∃(a:Nat),(((x:Int)+1=(a:Int)/\True)/\True)/\(a<=d.1.length/\∀(b:Nat),b<a->nth d.1 b=0)/\d.1.length-a<d.1.length-x))/\(decide ((x:Int)<d.1.length)=false->((0:Int),())=(yq d.1,()))
def Ca:wL:=⟨[.val tSh,.val tSh],[.int],false,fun _=>[],fun d=>(cF d.1 d.2.1,())⟩
def Cb:Prop:=∀(d:ShD×ShD×Unit),(yq [bZ d.1.1 d.2.1.1,bZ d.1.2.1 d.2.1.2.1,bZ d.1.2.2.1 d.2.1.2.2.1,bZ d.1.2.2.2.1 d.2.1.2.2.2.1,bZ d.1.q4.1 d.2.1.q4.1],())=(cF d.1 d.2.1,())
def LN:wL:=⟨[.val tSh,.val tSh],[.int],false,fun _=>[],fun d=>(wn d.1 d.2.1,())⟩
def LO:Prop:=∀(d:ShD×ShD×Unit),(yq [bZ d.1.2.1 d.2.1.2.1,bZ d.1.1 d.2.1.1],())=(wn d.1 d.2.1,())
def sZ:qB:=⟨[.val (.slice tSh)],[rwS],fun d=>[d.1.length<=100000],fun d=>((d.1,()),())⟩
def s0:Prop:=∀(d:List ShD×Unit),d.1.length<=100000->∀(β:Bool),(β=true->d.1=[])->(β=true->([],())=d/\()=())/\(β=false->(0+d.1.length)*40<=140737488355328/\([]++d.1,())=d/\()=())
def oL:qB:=⟨[.own rwS false],[rwS],fun d=>[d.1.length<=100000],fun d=>((aN yB d.1,()),())⟩
def oM:Ann:=fun r=>match r with
 |4=>some fun σ=>{X:=Nat,sl:=fun i=>[(3,.dat .int (i:Int))],ob:=fun _=>[],inv:=fun i=>Zf yB (gr tSh σ 1000000) i,mu:=fun i=>(gr tSh σ 1000000).length-i}
 |9=>some fun σ=>{X:=Nat×List ShD,sl:=fun x=>[(5,.dat .int (x.1:Int)),(3,.dat .int (nC yB (gr tSh σ 1000000) ((gd .int σ 3).toNat+x.1)))],ob:=fun x=>[(1000000,some (.row 134 tSh false .unk x.2))],inv:=fun x=>M2 yB (gr tSh σ 1000000) (gd .int σ 3).toNat x.1 x.2,mu:=fun x=>(gr tSh σ 1000000).length-x.1}
 |_=>none
abbrev jcF (x:Nat)(a:Nat×List ShD):=((x:Int).toNat+a.1)
abbrev jfJ (d:List ShD×Unit)(x:Nat)(a:Nat×List ShD):=(List.take (nC yB d.1 (jcF x a)).toNat a.2++List.replicate ((a.2.length:Int).toNat-(nC yB d.1 (jcF x a)).toNat) ((0:Int),(0:Int),(0:Int),(0:Int),(0:Int),()))
abbrev jfK (a:Nat×List ShD)(x:Nat):=(!decide (nth a.2 ((x:Int).toNat+(a.1:Int).toNat)=nth a.2 ((x:Int).toNat+((a.1:Int)-1).toNat)))
abbrev jcT (d:List ShD×Unit):=(d.1.length:Int)
abbrev jd6 (d:List ShD×Unit)(x:Nat):=(↑((jcT d).toNat-(x:Int).toNat):Int)
def oN:Prop:=∀(d:List ShD×Unit),d.1.length<=100000->d.1.length<4611686018427387904->(decide ((jcT d)<2)=true->d=(aN yB d.1,())/\()=())/\(decide ((jcT d)<2)=false->(∃(x:Nat),((1=(x:Int)/\True)/\True)/\Zf yB d.1 x)/\∀(x:Nat),Zf yB d.1 x->d.1.length<4611686018427387904->(decide ((x:Int)<(jcT d))=true->0<=(x:Int)/\(x:Int)<(jcT d)/\wq ((x:Int)-1)/\0<=(x:Int)-1/\(x:Int)-1<(jcT d)/\(decide (nth d.1 (x:Int).toNat=nth d.1 ((x:Int)-1).toNat)=true->0<=(x:Int)/\(x:Int)<=(jcT d)/\(jcT d)<=(jcT d)/\(∃(a:Nat×List ShD),((1=(a.1:Int)/\(x:Int)=nC yB d.1 (jcF x a)/\True)/\d.1=a.2/\True)/\M2 yB d.1 (x:Int).toNat a.1 a.2)/\∀(a:Nat×List ShD),M2 yB d.1 (x:Int).toNat a.1 a.2->(jcT d).toNat-(x:Int).toNat<4611686018427387904->(decide ((a.1:Int)<(jd6 d x))=true->0<=(a.1:Int)/\(a.1:Int)<(jd6 d x)/\wq ((a.1:Int)-1)/\0<=(a.1:Int)-1/\(a.1:Int)-1<(jd6 d x)/\((jfK a x)=true->0<=(a.1:Int)/\(a.1:Int)<(jd6 d x)/\0<=nC yB d.1 (jcF x a)/\nC yB d.1 (jcF x a)<(a.2.length:Int)/\wq (nC yB d.1 (jcF x a)+1)/\wq ((a.1:Int)+1)/\∃(b:Nat×List ShD),(((a.1:Int)+1=(b.1:Int)/\nC yB d.1 (jcF x a)+1=nC yB d.1 ((x:Int).toNat+b.1)/\True)/\a.2.set (nC yB d.1 (jcF x a)).toNat (nth a.2 ((x:Int).toNat+(a.1:Int).toNat))=b.2/\True)/\M2 yB d.1 (x:Int).toNat b.1 b.2/\d.1.length-b.1<d.1.length-a.1)/\((jfK a x)=false->wq ((a.1:Int)+1)/\∃(b:Nat×List ShD),((nC yB d.1 (jcF x a)=nC yB d.1 ((x:Int).toNat+b.1)/\(a.1:Int)+1=(b.1:Int)/\True)/\a.2=b.2/\True)/\M2 yB d.1 (x:Int).toNat b.1 b.2/\d.1.length-b.1<d.1.length-a.1))/\(decide ((a.1:Int)<(jd6 d x))=false->0<=nC yB d.1 (jcF x a)/\nC yB d.1 (jcF x a)<=(a.2.length:Int)/\(a.2.length:Int)<=a.2.length/\(nC yB d.1 (jcF x a)).toNat+((a.2.length:Int).toNat-(nC yB d.1 (jcF x a)).toNat)=a.2.length/\(0:Int)<=0/\0<=nC yB d.1 (jcF x a)/\nC yB d.1 (jcF x a)<=(↑(jfJ d x a).length:Int)/\(List.take ((nC yB d.1 (jcF x a)).toNat-Int.toNat 0) (jfJ d x a),())=(aN yB d.1,())/\()=()))/\(decide (nth d.1 (x:Int).toNat=nth d.1 ((x:Int)-1).toNat)=false->wq ((x:Int)+1)/\∃(c:Nat),(((x:Int)+1=(c:Int)/\True)/\True)/\Zf yB d.1 c/\d.1.length-c<d.1.length-x))/\(decide ((x:Int)<(jcT d))=false->d=(aN yB d.1,())/\()=()))
abbrev mM:qB:=Sj tSh 134
def GB:qB:=⟨[.val (.slice tSh)],[rwS],fun d=>[d.1.length<=100000],fun d=>((w4 d.1,()),())⟩
abbrev je6:=(k8 (Ty.int.pair (Ty.int.pair (Ty.int.pair (Ty.int.pair (Ty.int.pair Ty.unit))))) fun(a:ShD×ShD×Unit)=>(cF a.1 a.2.1,()))
def GC:Prop:=∀(d:List ShD×Unit),d.1.length<=100000->d.1.length<=100000/\(∀(x:ShD),x∈d.1->∀(y:ShD),y∈d.1->wl [])/\vu je6 d.1/\(kZ je6 d.1).length<=100000/\(aN yB (kZ je6 d.1),())=(w4 d.1,())/\()=()
def IZ:qB:=⟨[.val tSh,.own (.box 157 [.map .int .int]) true],[.cl (.dat .bool)],fun d=>[Uq d.2.1.1],fun d=>((Ou d.2.1.1 d.1,()),((mC d.2.1.1 d.1,()),()))⟩
abbrev je7 (d:ShD×(List (Int×Int)×Unit)×Unit):=(wD (0:Int) (wo Ty.int d.1.1 d.2.1.1)+1)
def I0:Prop:=∀(d:ShD×(List (Int×Int)×Unit)×Unit),Uq d.2.1.1->wq (je7 d)/\(decide (1<wD (0:Int) (wo Ty.int d.1.1 (eB Ty.int d.1.1 (je7 d) d.2.1.1))),())=(Ou d.2.1.1 d.1,())/\((eB Ty.int d.1.1 (je7 d) d.2.1.1,()),())=((mC d.2.1.1 d.1,()),())
abbrev clV:Sh:= .fbox 126 157 [.map .int .int]
def dI:qB:=⟨[.val (.slice tSh),.own clV true],[.cl (.dat .int)],fun d=>[d.1.length<=100000,jaD d.2.1.1],fun d=>((l3 d.2.1.1 d.1,()),((o8 d.2.1.1 d.1,()),()))⟩
def dJ:Ann:=fun r=>match r with
 |2=>some fun σ=>{X:=Nat,sl:=fun i=>[(8,.dat .int (i:Int))],ob:=fun i=>[(400020,some (.map false .int .int (yd [] (gd (.slice tSh) σ 0) i)))],inv:=fun i=>i<=(gd (.slice tSh) σ 0).length/\∀b:Nat,b<i->sr [] (gd (.slice tSh) σ 0) b=false,mu:=fun i=>(gd (.slice tSh) σ 0).length-i}
 |_=>none
def dK:Prop:=∀(d:List ShD×(List (Int×Int)×Unit)×Unit),d.1.length<=100000->jaD d.2.1.1->d.1.length<4611686018427387904->(∃(x:Nat),((0=(x:Int)/\True)/\d.2.1.1=yd [] d.1 x/\True)/\x<=d.1.length/\∀(b:Nat),b<x->sr [] d.1 b=false)/\∀(x:Nat),(x<=d.1.length/\∀(b:Nat),b<x->sr [] d.1 b=false)->(decide ((x:Int)<d.1.length)=true->0<=(x:Int)/\(x:Int)<d.1.length/\Uq (yd [] d.1 x)/\(Ou (yd [] d.1 x) (nth d.1 (x:Int).toNat)=true->((x:Int),())=(l3 d.2.1.1 d.1,())/\((mC (yd [] d.1 x) (nth d.1 (x:Int).toNat),()),())=((o8 d.2.1.1 d.1,()),()))/\(Ou (yd [] d.1 x) (nth d.1 (x:Int).toNat)=false->wq ((x:Int)+1)/\∃(a:Nat),(((x:Int)+1=(a:Int)/\True)/\(True/\True)/\mC (yd [] d.1 x) (nth d.1 (x:Int).toNat)=yd [] d.1 a/\True)/\(a<=d.1.length/\∀(b:Nat),b<a->sr [] d.1 b=false)/\d.1.length-a<d.1.length-x))/\(decide ((x:Int)<d.1.length)=false->((-1:Int),())=(l3 d.2.1.1 d.1,())/\((yd [] d.1 x,()),())=((o8 d.2.1.1 d.1,()),()))
def bI:qB:=⟨[.val (.slice tSh),.own clV true],[.cl (.dat .bool)],fun d=>[d.1.length<=100000,jaD d.2.1.1],fun d=>((decide (0<=l3 d.2.1.1 d.1),()),((o8 d.2.1.1 d.1,()),()))⟩
def bJ:Prop:=∀(d:List ShD×(List (Int×Int)×Unit)×Unit),d.1.length<=100000->jaD d.2.1.1->d.1.length<=100000/\jaD d.2.1.1/\(decide (0<=l3 d.2.1.1 d.1),())=(decide (0<=l3 d.2.1.1 d.1),())/\((o8 d.2.1.1 d.1,()),())=((o8 d.2.1.1 d.1,()),())
def Pv:wL:=⟨[.val (.slice tSh)],[.bool],false,fun d=>[d.1.length<=100000],fun d=>(QS d.1,())⟩
def Pw:Prop:=∀(d:List ShD×Unit),d.1.length<=100000->d.1.length<=100000/\jaD []/\(decide (0<=l3 [] d.1),())=(QS d.1,())
def DG:wL:=⟨[.val tDy],[.int],false,fun _=>[],fun d=>(t6 d.1,())⟩
def DH:Ann:=fun r=>match r with
 |5=>some fun σ=>{X:=Nat,sl:=fun i=>[(17,.dat .int (i:Int))],ob:=fun _=>[],inv:=fun i=>i<=(gd (.slice tBk) σ 15).length/\∀b:Nat,b<i->qr (wi (gd tDy σ 0)) (y9 (nth (gd (.slice tBk) σ 15) b))=true,mu:=fun i=>(gd (.slice tBk) σ 15).length-i}
 |_=>none
abbrev je8:=((0:Int),(1:Int),(0:Int),(0:Int),(0:Int),(1:Int),())
def DI:Prop:=∀(d:DyD×Unit),(decide (qW d.1.1 je8≠0)=true->(qW d.1.1 je8,())=(t6 d.1,()))/\(decide (qW d.1.1 je8≠0)=false->d.1.2.2.1.length<4611686018427387904->(∃(x:Nat),((0=(x:Int)/\True)/\True)/\x<=d.1.2.2.1.length/\∀(b:Nat),b<x->qr (wi d.1) (y9 (nth d.1.2.2.1 b))=true)/\∀(x:Nat),(x<=d.1.2.2.1.length/\∀(b:Nat),b<x->qr (wi d.1) (y9 (nth d.1.2.2.1 b))=true)->(decide ((x:Int)<d.1.2.2.1.length)=true->0<=(x:Int)/\(x:Int)<d.1.2.2.1.length/\(decide (qW d.1.1 (nth d.1.2.2.1 (x:Int).toNat).1≠0)=true->(qW d.1.1 (nth d.1.2.2.1 (x:Int).toNat).1,())=(t6 d.1,()))/\(decide (qW d.1.1 (nth d.1.2.2.1 (x:Int).toNat).1≠0)=false->wq ((x:Int)+1)/\∃(a:Nat),(((x:Int)+1=(a:Int)/\True)/\True)/\(a<=d.1.2.2.1.length/\∀(b:Nat),b<a->qr (wi d.1) (y9 (nth d.1.2.2.1 b))=true)/\d.1.2.2.1.length-a<d.1.2.2.1.length-x))/\(decide ((x:Int)<d.1.2.2.1.length)=false->((0:Int),())=(t6 d.1,())))
def Px:wL:=⟨[.val tDy],[.int],false,fun d=>[(qV d.1).length<=100000],fun d=>(wR d.1,())⟩
def Py:Prop:=∀(d:DyD×Unit),(qV d.1).length<=100000->(decide (t6 d.1≠0)=true->(t6 d.1,())=(wR d.1,()))/\(decide (t6 d.1≠0)=false->((!qc d.1)=true->((50:Int),())=(wR d.1,()))/\((!qc d.1)=false->d.1.q4.2.1.length<=100000/\(w4 d.1.q4.2.1).length<=100000/\(QS (w4 d.1.q4.2.1)=true->((51:Int),())=(wR d.1,()))/\(QS (w4 d.1.q4.2.1)=false->((0:Int),())=(wR d.1,()))))
theorem Pz:LL:=by
 intro d;rfl
theorem oO:wU PR 120 LK:=wF Pz Tryz.func120 kcN koN
theorem oP:mJ:=by
 rintro⟨l,f,⟨⟩⟩ a g;refine⟨⟨0,⟨⟨rfl,tZ⟩,tZ⟩,jw _,fun b c=>by omega⟩,fun i hi=>⟨fun h=> ?_,fun h=> ?_⟩⟩;have h:i<l.length:=(by simpa using h);simp only[ju] at*;refine⟨by omega,by omega,vl _ (a _ (L.wd h)) ⟨fun c=> ?_,fun c=>⟨iZ6,i+1,⟨⟨by simp,tZ⟩,tZ⟩,⟨by omega,fun b d=> ?_⟩,by omega⟩⟩⟩;rw[yg (p:=kX (α:=SpD) f.F) h hi.2 c];by_cases e:b=i;subst e;exact c;exact hi.2 b (by omega);have h:l.length<=i:=(by simpa using h);rw[qX (p:=kX (α:=SpD) f.F) h hi.2]
theorem mN:wU PR 192 mH:=yi mI oP Tryz.func192 kcN koN
theorem iC:fw:=by
 rintro⟨l,f,⟨⟩⟩ a;refine⟨a,?_⟩;exact jS (·,()) (fo (kX (α:=SpD) f.F) l)
theorem fB:wU PR 160 fu:=wF iC Tryz.func160 (kcC mN kcN) koN
theorem mO:lC:=by
 rintro⟨l,f,⟨⟩⟩ a g;refine⟨⟨0,⟨⟨rfl,tZ⟩,tZ⟩,jw _,fun b c=>by omega⟩,fun i hi=>⟨fun h=> ?_,fun h=> ?_⟩⟩;have h:i<l.length:=(by simpa using h);simp only[ju] at*;refine⟨by omega,by omega,vl _ (a _ (L.wd h)) ⟨fun c=> ?_,fun c=>⟨iZ6,i+1,⟨⟨by simp,tZ⟩,tZ⟩,⟨by omega,fun b d=> ?_⟩,by omega⟩⟩⟩;rw[yg (p:=kX (α:=(List SpD)) f.F) h hi.2 c];by_cases e:b=i;subst e;exact c;exact hi.2 b (by omega);have h:l.length<=i:=(by simpa using h);rw[qX (p:=kX (α:=(List SpD)) f.F) h hi.2]
theorem lG:wU PR 193 lA:=yi lB mO Tryz.func193 kcN koN
theorem fC:dF:=by
 rintro⟨l,f,⟨⟩⟩ a;refine⟨a,?_⟩;exact jS (·,()) (fo (kX (α:=(List SpD)) f.F) l)
theorem dL:wU PR 162 dE:=wF fC Tryz.func162 (kcC lG kcN) koN
theorem iD:fA:=by
 rintro⟨l,f,⟨⟩⟩ a g;refine⟨⟨0,⟨⟨rfl,tZ⟩,tZ⟩,jw _,fun b c=>by omega⟩,fun i hi=>⟨fun h=> ?_,fun h=> ?_⟩⟩;have h:i<l.length:=(by simpa using h);simp only[ju] at*;refine⟨by omega,by omega,vl _ (a _ (L.wd h)) ⟨fun c=> ?_,fun c=>⟨iZ6,i+1,⟨⟨by simp,tZ⟩,tZ⟩,⟨by omega,fun b d=> ?_⟩,by omega⟩⟩⟩;rw[yg (p:=kX (α:=BkD) f.F) h hi.2 c];by_cases e:b=i;subst e;exact c;exact hi.2 b (by omega);have h:l.length<=i:=(by simpa using h);rw[qX (p:=kX (α:=BkD) f.F) h hi.2]
theorem fD:wU PR 194 fx:=yi fy iD Tryz.func194 kcN koN
theorem cP:ca:=by
 rintro⟨l,f,⟨⟩⟩ a;refine⟨a,?_⟩;exact jS (·,()) (fo (kX (α:=BkD) f.F) l)
theorem cd:wU PR 164 b9:=wF cP Tryz.func164 (kcC fD kcN) koN
theorem mP:lF:=by
 rintro⟨l,f,⟨⟩⟩ a g;refine⟨⟨0,⟨⟨rfl,tZ⟩,tZ⟩,jw _,fun b c=>by omega⟩,fun i hi=>⟨fun h=> ?_,fun h=> ?_⟩⟩;have h:i<l.length:=(by simpa using h);simp only[ju] at*;refine⟨by omega,by omega,vl _ (a _ (L.wd h)) ⟨fun c=> ?_,fun c=>⟨iZ6,i+1,⟨⟨by simp,tZ⟩,tZ⟩,⟨by omega,fun b d=> ?_⟩,by omega⟩⟩⟩;rw[yg (p:=kX (α:=ShD) f.F) h hi.2 c];by_cases e:b=i;subst e;exact c;exact hi.2 b (by omega);have h:l.length<=i:=(by simpa using h);rw[qX (p:=kX (α:=ShD) f.F) h hi.2]
theorem lH:wU PR 167 lD:=yi lE mP Tryz.func167 kcN koN
theorem fE:dH:=by
 rintro⟨l,f,⟨⟩⟩ a;refine⟨a,?_⟩;exact jS (·,()) (fo (kX (α:=ShD) f.F) l)
theorem dM:wU PR 125 dG:=wF fE Tryz.func125 (kcC lH kcN) koN
theorem xe:sY:=by
 intro d h;exact vl _ h rfl
theorem s7:wU PR 161 sX:=wF xe Tryz.func161 kcN koN
theorem DJ:B9:=by
 intro d h;exact⟨fun g a=>⟨h g a,tZ⟩,jS (·,()) (re d.snd.fst.2 d.fst)⟩
theorem Cc:wU PR 118 B8:=wF DJ Tryz.func118 (kcC fB (kcC s7 kcN)) koN
theorem s8:rA:=by
 intro d h;exact vl _ h rfl
theorem rH:wU PR 163 rz:=wF s8 Tryz.func163 kcN koN
theorem Cd:u9:=by
 intro d h;exact⟨fun g a=>⟨h g a,tZ⟩,jS (·,()) (re d.snd.fst.2 d.fst)⟩
theorem xf:wU PR 122 u7:=wF Cd Tryz.func122 (kcC dL (kcC rH kcN)) koN
theorem oQ:mL:=by
 intro d h;exact vl _ h rfl
theorem mQ:wU PR 165 mK:=wF oQ Tryz.func165 kcN koN
theorem s9:rC:=by
 intro d h;exact⟨fun g a=>⟨h g a,tZ⟩,jS (·,()) (re d.snd.fst.2 d.fst)⟩
theorem rI:wU PR 123 rB:=wF s9 Tryz.func123 (kcC cd (kcC mQ kcN)) koN
theorem tb:rE:=by
 intro d h;exact vl _ h rfl
theorem rJ:wU PR 166 rD:=wF tb Tryz.func166 kcN koN
theorem Ce:xb:=by
 intro d h;exact⟨fun g a=>⟨h g a,tZ⟩,jS (·,()) (re d.snd.fst.2 d.fst)⟩
theorem xg:wU PR 124 xa:=wF Ce Tryz.func124 (kcC dM (kcC rJ kcN)) koN
theorem LP:IR:=fun _=>rfl
theorem I1:wU PR 116 IQ:=wF LP Tryz.func116 kcN koN
theorem LQ:IU:=by
 rintro⟨l,d,f,⟨⟩⟩ a _ _;exact⟨fun _=>a,rfl⟩
theorem I2:wU PR 117 IT:=wF LQ Tryz.func117 (kcC Cc kcN) koN
theorem LR:IW:=by
 rintro⟨b,d,⟨⟩⟩ h;have h:(wO d).length<4611686018427387904:=h;exact⟨L.Ep (by show _<=((wO d).length:Int)-1;omega) (by show((wO d).length:Int)-1<=_;omega),rfl⟩
theorem I3:wU PR 119 IV:=wF LR Tryz.func119 (kcC oO kcN) koN
theorem LS:IY:=by
 unfold IY jfI jfH Prod.q4;rintro⟨s,d,⟨⟩⟩ h;refine⟨fun a=> ?_,fun b=>⟨fun a=> ?_,rfl⟩⟩;have h:=h a;exact L.Ep (by simp only at*;omega) (by simp only at*;omega);have h:=b a;exact L.Ep (by simp only at*;omega) (by simp only at*;omega)
theorem I4:wU PR 121 IX:=wF LS Tryz.func121 (kcC oO kcN) koN
theorem VG (s:SpD):uG s=sj s:=by
 unfold uG sj;rw[jZ];simp only[ji,jp];omega
theorem VH (n:Nat) (b:BkD):Db n b=lW n b:=by
 unfold Db lW kV;rw[jZ];simp only[ji,jp];omega
theorem VI (nb a:Nat) (s:ShD):J9 nb a s=lX nb a s:=by
 unfold J9 lX kV;rw[jZ];simp only[ji,jp];omega
theorem VJ (d:DyD):(((((((decide (((wg d).length:Int)<=4)&&kV ((wO d).length:Int) 1 5)&&(wO d).all (fun r=>decide ((r.length:Int)=(wO d).length)&&r.all sj))&&(wg d).all (lW (wO d).length))&&kV (QE d) 0 300)&&kV (Zh d) 0 1440)&&decide (((qV d).length:Int)<=30))&&(qV d).all (lX (wg d).length (we (wi d)).length))=qc d:=by
 unfold qc;have e:(fun(r:List SpD)=>decide ((r.length:Int)=(wO d).length)&&r.all sj)=bQ (wO d).length:=by
  funext r;unfold bQ;congr 1;exact decide_eq_decide.2 (by omega)
 rw[e];cases (wO d).all (bQ (wO d).length)<;>cases (wg d).all (lW (wO d).length)<;>cases (qV d).all (lX (wg d).length (we (wi d)).length)<;>simp only[ku,Bool.and_true,Bool.false_and,kV]
 rw[jZ];simp only[ji,jp];omega
theorem SL:Pu:=by
 unfold Pu jd5 jeB jdJ je5 Prod.q4;rintro⟨d,⟨⟩⟩ _ _;refine⟨fun _ _ _=>⟨fun _ _=>tZ,tZ⟩,fun _ _ _=>tZ,fun _=>⟨fun _ _ _=>tZ,?_⟩⟩;have a:(kX fun(x:SpD×Unit)=>(uG x.fst,()))=sj:=funext VG;have e2:(kX fun(x:BkD×Unit)=>(Db (wO d).length x.fst,()))=lW (wO d).length:=funext (VH _);have b:(kX fun(x:ShD×Unit)=>(J9 (wg d).length (we (wi d)).length x.fst,()))=lX (wg d).length (we (wi d)).length:=funext (VI _ _);simp only;rw[a,e2,b];exact jS (·,()) (VJ d)
theorem PA:wU PR 81 Pt:=wF SL Tryz.func81 (kcC oO (kcC I1 (kcC I2 (kcC I3 (kcC I4 (kcC xf (kcC rI (kcC xg kcN)))))))) koN
theorem Cf:xd:=by
 intro d;simp
theorem xh:wU PR 141 xc:=wF Cf Tryz.func141 kcN koN
theorem td:rG:=by
 unfold rG jdK;rintro⟨a,b,⟨⟩⟩;refine⟨fun h=>(by cases h),fun _=>⟨fun h=>(by cases h),fun _=>⟨fun h=> ?_,fun h=>⟨fun c=> ?_,fun c=> ?_⟩⟩⟩⟩;have h:a<b:=jb h;simp only;unfold bZ;rw[jh h];have h:¬a<b:=je h;have c:b<a:=jb c;simp only;unfold bZ;rw[jc h,jh c];have h:¬a<b:=je h;have c:¬b<a:=je c;simp only;unfold bZ;rw[jc h,jc c]
theorem yn:wU PR 99 rF:=wF td Tryz.func99 (kcC xh kcN) koN
theorem PB {l:List Int} {i:Nat} (h:i<l.length) (a:∀b:Nat,b<i->nth l b=0) (hi:nth l i≠0):yq l=nth l i:=by
 have e:l.find? (fun n=>decide (n≠0))=some (nth l i):=by
  rw[List.find?_eq_some_iff_getElem];refine⟨jI hi,i,h,by rw[L.ql h],fun j c=> ?_⟩;have:=a j c;rw[L.ql (by omega)] at this;simp[this]
 unfold yq;rw[e]
theorem I5 {l:List Int} (a:∀b:Nat,b<l.length->nth l b=0):yq l=0:=by
 have e:l.find? (fun n=>decide (n≠0))=none:=by
  rw[List.find?_eq_none];intro x c;obtain⟨i,hi,rfl⟩:=L.mem_iff.1 c;simp[a i hi]
 unfold yq;rw[e]
theorem I6:GA:=by
 rintro⟨l,⟨⟩⟩ f;refine⟨⟨0,⟨⟨rfl,tZ⟩,tZ⟩,jw _,fun b c=>by omega⟩,fun x d=>⟨fun h=> ?_,fun h=> ?_⟩⟩;have h:x<l.length:=(by simpa using h);simp only[ju];refine⟨by omega,by omega,fun a=> ?_,fun a=>⟨L.Ep (by omega) (by simp only at f;omega),x+1,⟨⟨by simp,tZ⟩,tZ⟩,⟨h,fun b c=> ?_⟩,by omega⟩⟩;rw[PB h d.2 (jb a)];by_cases e:b=x;subst e;exact jQ.1 (je a);exact d.2 b (by omega);have h:l.length<=x:=(by simpa using h);rw[I5 (fun b c=>d.2 b (by simp only at c;omega))]
theorem bg:wU PR 98 Gy:=yi Gz I6 Tryz.func98 kcN koN
theorem DK:Cb:=fun _=>rfl
theorem Cg:wU PR 129 Ca:=wF DK Tryz.func129 (kcC yn (kcC bg kcN)) koN
theorem PC:LO:=fun _=>rfl
theorem LU:wU PR 181 LN:=wF PC Tryz.func181 (kcC yn (kcC bg kcN)) koN
theorem xi:s0:=by
 rintro⟨l,⟨⟩⟩ b β a;have b:l.length<=100000:=b;refine⟨fun h=>⟨?_,rfl⟩,fun _=>⟨by simp only;omega,by simp,rfl⟩⟩;have:l=[]:=a h;rw[this]
theorem tg:gq PR 127 sZ:=BI xi Tryz.func127 kcN koN
theorem rK:oN:=by
 unfold oN jd6 jcT jfK jfJ jcF;rintro⟨l,⟨⟩⟩ m C;have m:l.length<=100000:=m;obtain⟨eq,k⟩:∃eq,eq=yB:=⟨_,rfl⟩;have A:∀a b:ShD,decide (a=b)=eq a b:=fun a b=>by rw[k];rfl
 simp only[<-k,A,ju];refine⟨fun h=>⟨?_,tZ⟩,fun h=> ?_⟩;have h:(l.length:Int)<2:=jb h;rw[L.comp_short (by omega)];have h:¬(l.length:Int)<2:=je h;refine⟨⟨1,⟨⟨rfl,tZ⟩,tZ⟩,jk _,by omega,?_⟩,fun i hi _=>⟨fun g=> ?_,fun g=>⟨?_,tZ⟩⟩⟩;rw[L.comp_short];rw[j0];omega;have g:(i:Int)<l.length:=jb g;obtain⟨s,D,f⟩:=hi;have z:((i:Int)-1).toNat=i-1:=(by omega);rw[z];have n:=L.comp_take (eq:=eq) (l:=l) s (by omega:i<l.length);refine⟨by omega,g,by unfold wq;omega,by omega,by omega,fun j=>⟨by omega,by omega,kg _,⟨(1,l),⟨⟨rfl,?_,tZ⟩,rfl,tZ⟩,jk _,by omega,rfl,?_,rfl,?_⟩,fun x q _=>⟨fun e=> ?_,fun e=> ?_⟩⟩,fun j=>⟨iZ6,i+1,⟨⟨by simp,tZ⟩,tZ⟩,⟨by omega,by omega,?_⟩,by omega⟩⟩;unfold nC;rw[n,jh j,j7,f,j0];omega;rw[n,jh j,j7,f,j0];show l.take i=l.take (min i l.length);congr 1;omega;rw[n,jh j,j7,f,j0];omega;have e:(x.1:Int)<((l.length-i:Nat):Int):=jb e;have r:=q;obtain⟨G,H,I,v,J,w⟩:=r;obtain⟨E,F⟩:=L.inv9_next s q (by omega);have y:((x.1:Int)-1).toNat=x.1-1:=(by omega);have o:i+(x.1-1)=i+x.1-1:=(by omega);rw[y,o];have p:nC eq l (i+x.1)=((aN eq (l.take (i+x.1))).length:Int):=rfl;refine⟨by omega,e,by unfold wq;omega,by omega,by omega,fun c=> ?_,fun c=> ?_⟩;have c:eq (nth x.2 (i+x.1)) (nth x.2 (i+x.1-1))=false:=(by simpa using c);obtain⟨t,u⟩:=E c;refine⟨by omega,e,by omega,by omega,by unfold wq;omega,iZ6,(x.1+1,_),⟨⟨by simp,t.symm,tZ⟩,rfl,tZ⟩,u,by show _-(x.1+1)<_;omega⟩;have c:eq (nth x.2 (i+x.1)) (nth x.2 (i+x.1-1))=true:=(by simpa using c);obtain⟨t,u⟩:=F c;exact⟨iZ6,(x.1+1,x.2),⟨⟨t.symm,by simp,tZ⟩,rfl,tZ⟩,u,by show _-(x.1+1)<_;omega⟩;have e:¬(x.1:Int)<((l.length-i:Nat):Int):=je e;obtain⟨G,H,I,v,J,w⟩:=q;have p:nC eq l (i+x.1)=((aN eq (l.take (i+x.1))).length:Int):=rfl;have d:l.take (i+x.1)=l:=zz (by omega);rw[d] at p v w;rw[p];simp only[ju];have B:=L.comp_len (eq:=eq) l;refine⟨by omega,by omega,kg _,by omega,by omega,by omega,?_,⟨?_,tZ⟩⟩;simp only[jL,j0,zw];omega;congr 1;rw[show(aN eq l).length-Int.toNat 0=(aN eq l).length from rfl];rw[List.take_left' (by rw[j0];omega)];exact v.symm;rw[n,jc (by rw[j];simp),f];exact(L.wG (by omega)).symm;have g:¬(i:Int)<l.length:=je g;obtain⟨s,D,f⟩:=hi;have d:l.take i=l:=zz (by omega);rw[d] at f;rw[f]
theorem oR:gq PR 130 oL:=uz oM rK Tryz.func130 kcN koN
theorem aT:gq PR 128 mM:=
 BH Tryz.sortSh 134 rfl (jx (by kernel_rfl)) Tryz.isAgg134 Tryz.sizeOf134 (q8 Tryz.func128 (c:=wS Tryz.f128) (by kernel_rfl) (by kernel_rfl))
theorem VK:fq cF:=by
 have e:cF=QQ (fun a b=>bZ (gu a) (gu b)) (QQ (fun a b=>bZ (Hu a) (Hu b)) (QQ (fun a b=>bZ (WD a) (WD b)) (QQ (fun a b=>bZ (J5 a) (J5 b)) (fun a b=>bZ (nD a) (nD b))))):=by
  funext a b;unfold cF;simp only[wY,QQ]
  split<;>(try rfl);split<;>(try rfl);split<;>(try rfl);split<;>(try rfl);split<;>(try rfl)
  rename_i h;exact(jQ.1 h).symm
 rw[e];exact oK (nz lz gu) (oK (nz lz Hu) (oK (nz lz WD) (oK (nz lz J5) (nz lz nD))))
theorem PE {a b:ShD} (h:cF a b=0):a=b:=by
 unfold cF at h;rw[wY] at h
 split at h
 contradiction;rename_i c;rw[wY] at h
 split at h
 contradiction;rename_i d;rw[wY] at h
 split at h
 contradiction;rename_i e;rw[wY] at h
 split at h
 contradiction;rename_i f;rw[q9] at h;have c:=am.1 (jQ.1 c);have d:=am.1 (jQ.1 d);have e:=am.1 (jQ.1 e);have f:=am.1 (jQ.1 f);have g:=am.1 h;obtain⟨i,j,k,l,m,⟨⟩⟩:=a;obtain⟨n,o,p,q,r,⟨⟩⟩:=b;have c:i=n:=c;have d:j=o:=d;have e:k=p:=e;have f:l=q:=f;have g:m=r:=g;rw[c,d,e,f,g]
theorem VL (l:List ShD):vu (k8 tSh fun x=>(cF x.1 x.2.1,())) l:=Am VK (fun _ _ _ _ h=>PE h)
theorem SM (l:List ShD):(w4 l).length<=l.length:=by
 unfold w4;refine jD (L.comp_len _) ?_;rw[(wQ l).length_eq];exact jk _
theorem I7:GC:=by
 unfold GC je6;rintro⟨l,⟨⟩⟩ a;exact⟨a,fun _ _ _ _=>tZ,VL l,by rw[(wQ (lt:=k8 tSh fun x=>(cF x.1 x.2.1,())) l).length_eq];exact a,rfl,rfl⟩
theorem rL:gq PR 83 GB:=BI I7 Tryz.func83 (kcC Cg kcN) (koC tg (koC aT (koC oR koN)))
theorem LV:I0:=by
 unfold I0 je7;rintro⟨s,⟨m,⟨⟩⟩,⟨⟩⟩ h;have h:Uq m:=h;have:=h (gu s);have this:0<=wD 0 (wo .int s.1 m)/\wD 0 (wo .int s.1 m)<=200000:=this;exact⟨L.Ep (by simp only;omega) (by simp only;omega),rfl,rfl⟩
theorem I8:gq PR 126 IZ:=BI LV Tryz.func126 kcN koN
theorem dN {m:List (Int×Int)} {l:List ShD} {i:Nat} (h:i<l.length):yd m l (i+1)=mC (yd m l i) (nth l i):=by
 unfold yd;rw[L.wG h,jV];rfl
theorem W8 (l:List ShD):∀i,i<=l.length->∀k,0<=wD 0 (wo .int k (yd [] l i))/\wD 0 (wo .int k (yd [] l i))<=(i:Int)
 |0,_,k=>⟨kg 0,kg 0⟩
 |i+1,hi,k=>by
  have b:=W8 l i (by omega)
  rw[dN (by omega)]
  unfold mC
  by_cases e:k=gu (nth l i)
  rw[e]
  have a:=M.pf (kt:= .int) (gu (nth l i)) (wD 0 (wo .int (gu (nth l i)) (yd [] l i))+1) (yd [] l i)
  rw[a]
  have:=b (gu (nth l i))
  show 0<=wD 0 (wo .int (gu (nth l i)) (yd [] l i))+1/\wD 0 (wo .int (gu (nth l i)) (yd [] l i))+1<=_
  omega
  have a:=M.cW (kt:= .int) (k:=gu (nth l i)) (k':=k) e (wD 0 (wo .int (gu (nth l i)) (yd [] l i))+1) (yd [] l i)
  rw[a]
  have:=b k
  omega
theorem VM {m:List (Int×Int)} {l:List ShD} {i:Nat} (h:i<l.length) (a:∀b:Nat,b<i->sr m l b=false) (hi:sr m l i=true):l3 m l=(i:Int)/\Up m l=i+1:=by
 have e:(List.range l.length).findIdx? (sr m l)=some i:=by
  rw[zU];refine⟨by simpa using h,by simpa using hi,fun j c=>by simp[a j c]⟩
 unfold l3 Up yE;rw[e];exact⟨rfl,rfl⟩
theorem Fb {m:List (Int×Int)} {l:List ShD} (a:∀b:Nat,b<l.length->sr m l b=false):l3 m l= -1/\Up m l=l.length:=by
 have e:(List.range l.length).findIdx? (sr m l)=none:=by
  rw[kr];intro x c;exact a x (jC.1 c)
 unfold l3 Up yE;rw[e];exact⟨rfl,rfl⟩
theorem fF:dK:=by
 rintro⟨l,⟨m,⟨⟩⟩,⟨⟩⟩ j f n;have f:m=[]:=f;subst f;have j:l.length<=100000:=j;refine⟨⟨0,⟨⟨rfl,tZ⟩,rfl,tZ⟩,jw _,fun b i=>by omega⟩,fun x a=>⟨fun h=> ?_,fun h=> ?_⟩⟩;have h:x<l.length:=(by simpa using h);simp only[ju];refine⟨by omega,by omega,fun k=> ?_,fun d=> ?_,fun d=>⟨iZ6,x+1,⟨⟨by simp,tZ⟩,⟨tZ,tZ⟩,(dN h).symm,tZ⟩,⟨h,fun b i=> ?_⟩,by omega⟩⟩;have:=W8 l x (by omega) k;omega;obtain⟨c,e2⟩:=VM h a.2 d;unfold o8;rw[c,e2,dN h];exact⟨rfl,rfl⟩;by_cases e:b=x;subst e;exact d;exact a.2 b (by omega);have h:l.length<=x:=(by simpa using h);obtain⟨c,e2⟩:=Fb (m:=[]) (l:=l) (fun b i=>a.2 b (by omega));have g:x=l.length:=(by have:=a.1;simp only at this;omega);unfold o8;rw[c,e2,g];exact⟨rfl,rfl⟩
theorem dO:gq PR 167 dI:=uz dJ fF Tryz.func167 kcN (koC I8 koN)
theorem ce:bJ:=fun _ a b=>⟨a,b,rfl,rfl⟩
theorem bK:gq PR 125 bI:=BI ce Tryz.func125 kcN (koC dO koN)
theorem SN:Pw:=fun _ h=>⟨h,rfl,rfl⟩
theorem PF:wU PR 82 Pv:=wF SN Tryz.func82 kcN (koC bK koN)
theorem VN {c:CrD} (h:wz c=true):qr c (0,1,0,0,0,1,())=true:=by
 obtain⟨a,_⟩:=qx h;unfold qr;refine jI ?_;refine⟨by decide,?_,by decide,?_,by decide,by decide,by decide,by decide,by decide,by decide,by decide,by decide,by decide⟩;show(0:Int)<=U.la c-1;omega;show(1:Int)<=U.la c-1;omega
theorem SO (c:CrD):qW c (0,1,0,0,0,1,())=if wz c=false then 30 else 0:=by
 unfold qW;by_cases h:wz c=false;rw[jh h,jh h];rw[jc h,jc h,jc (by rw[VN (by simpa using h)];simp)]
theorem GD:DI:=by
 unfold DI je8;rintro⟨d,⟨⟩⟩;have e:=SO d.1;simp only[e];by_cases f:wz d.1=false;rw[jh f];refine⟨fun _=> ?_,fun h=>by simp at h⟩;have f:wz (wi d)=false:=f;unfold t6;rw[jh f];rw[jc f];have c:wz (wi d)=true:=eq_true_of_ne_false f;refine⟨fun h=>by simp at h,fun _ k=>⟨⟨0,⟨⟨rfl,tZ⟩,tZ⟩,jw _,fun b j=>by omega⟩,fun x l=>⟨fun h=> ?_,fun h=> ?_⟩⟩⟩;have h:(x:Int)<(wg d).length:=jb h;have h:x<(wg d).length:=(by omega);have k:(wg d).length<4611686018427387904:=k;have e2:qW d.1 (nth d.2.2.1 x).1=if qr (wi d) (y9 (nth (wg d) x))=false then 31 else 0:=by
  show(if wz (wi d)=false then(30:Int) else if qr (wi d) (y9 (nth (wg d) x))=false then 31 else 0)=_;rw[jc (by rw[c];simp)]
 simp only[ju,e2];refine⟨by omega,by show(x:Int)<(wg d).length;omega,fun a=> ?_,fun a=>⟨iZ6,x+1,⟨⟨by simp,tZ⟩,tZ⟩,⟨h,fun b j=> ?_⟩,(by show(wg d).length-(x+1)<(wg d).length-x;omega)⟩⟩;have a:=jb a;by_cases g:qr (wi d) (y9 (nth (wg d) x))=false;rw[jh g];unfold t6;rw[jc (by rw[c];simp),jh];unfold J6;exact L.all_false h g;rw[jc g] at a;exact absurd rfl a;have a:=je a;by_cases m:b=x;subst m;by_cases g:qr (wi d) (y9 (nth (wg d) b))=false;rw[jh g] at a;exact absurd (by decide) a;exact eq_true_of_ne_false g;exact l.2 b (by omega);have h:¬(x:Int)<(wg d).length:=je h;have h:(wg d).length<=x:=(by omega);unfold t6;rw[jc (by rw[c];simp),jc];rw[Bool.not_eq_false];unfold J6;rw[j6];intro b j;obtain⟨i,hi,rfl⟩:=L.mem_iff.1 j;exact l.2 i (by omega)
theorem DL:wU PR 80 DG:=yi DH GD Tryz.func80 (kcC E8 kcN) koN
theorem SP:Py:=by
 unfold Py Prod.q4;rintro⟨d,⟨⟩⟩ c;refine⟨fun h=> ?_,fun h=>⟨fun b=> ?_,fun b=>⟨c,jD (SM _) c,fun a=> ?_,fun a=> ?_⟩⟩⟩;have h:=jb h;simp only at h⊢;unfold wR;rw[jh h];have h:=je h;simp only at h⊢;unfold wR;rw[jc h,jh (by simpa using b)];have h:=je h;simp only at h⊢;unfold wR;rw[jc h,jc (by simpa using b)];have a:QS (w4 (qV d))=true:=a;rw[jh a];have h:=je h;simp only at h⊢;unfold wR;rw[jc h,jc (by simpa using b)];have a:QS (w4 (qV d))=false:=a;rw[jc (by rw[a];simp)]
theorem Fc:wU PR 50 Px:=wF SP Tryz.func50 (kcC DL (kcC PA (kcC PF kcN))) (koC rL koN)
namespace U
def QG {α:Type} [Inhabited α] (l:List α) (j k:Nat):List α:=(l.set j (nth l k)).set k (nth l j)
def m9 {α:Type} [Inhabited α] (lt:α->α->Bool):List α->Nat->List α
 |l,0=>l
 |l,j+1=>if lt (nth l (j+1)) (nth l j)=true then m9 lt (QG l (j+1) j) j else l
def cT {α:Type} [Inhabited α] (lt:α->α->Bool) (l:List α) (i:Nat):List α:=(List.range i).foldl (m9 lt) l
def ig {α:Type} [Inhabited α] (lt:α->α->Bool) (l:List α):List α:=cT lt l l.length
def o9 {α:Type} (lt:α->α->Bool) (x:α):List α->List α
 |[]=>[x]
 |y::r=>if lt x y=true then y::o9 lt x r else x::y::r
end U
namespace IS
variable {α:Type} [Inhabited α] {lt:α->α->Bool}
theorem swap_perm {l:List α} {j k:Nat} (a:j<l.length) (hk:k<l.length):(QG l j k).Perm l:=by
 unfold QG;rw[L.ql a,L.ql hk];exact List.set_set_perm a hk
theorem sink_perm:∀(j:Nat) (l:List α),j<l.length->(m9 lt l j).Perm l
 |0,l,_=>List.Perm.refl _
 |j+1,l,h=>by
  unfold m9
  have a:=swap_perm (l:=l) (j:=j+1) (k:=j) h (by omega)
  split
  exact(sink_perm j _ (by rw[a.length_eq];omega)).trans a
  exact List.Perm.refl _
theorem part_succ (lt:α->α->Bool) (l:List α) (i:Nat):cT lt l (i+1)=m9 lt (cT lt l i) i:=by
 simp[cT,zq]
theorem part_perm {l:List α}:∀(i:Nat),i<=l.length->(cT lt l i).Perm l
 |0,_=>List.Perm.refl _
 |i+1,h=>by
  rw[part_succ]
  have a:=part_perm (l:=l) i (by omega)
  exact(sink_perm i _ (by rw[a.length_eq];omega)).trans a
theorem isort_perm (lt:α->α->Bool) (l:List α):(ig lt l).Perm l:=part_perm _ (jk _)
theorem part_isort {l:List α} {i:Nat} (a:1<=i) (b:i<=max l.length 1) (c:l.length<=i):cT lt l i=ig lt l:=by
 unfold ig;by_cases h:l.length=0;have:i=1:=(by omega);subst this;rw[h];rfl;have:i=l.length:=(by omega);rw[this]
theorem insR_len {α:Type} {lt:α->α->Bool} (x:α):∀q:List α,(o9 lt x q).length=q.length+1
 |[]=>rfl
 |y::r=>by
  unfold o9
  split
  simp[insR_len x r]
  simp
theorem nth_mid (a:List α) (x:α) (s:List α):nth (a++x::s) a.length=x:=by
 rw[L.ql (by simp)];simp
theorem sink_app:∀(q:List α) (x:α) (s:List α),m9 lt (q.reverse++x::s) q.length=(o9 lt x q).reverse++s
 |[],x,s=>rfl
 |y::r,x,s=>by
  have e:(y::r).reverse++x::s=r.reverse++y::x::s:=by simp
  rw[e]
  have g:nth (r.reverse++y::x::s) (r.length+1)=x:=by
   have:=nth_mid (r.reverse++[y]) x s;simpa using this
  have h:nth (r.reverse++y::x::s) r.length=y:=by
   have:=nth_mid r.reverse y (x::s);simpa using this
  show(if lt (nth _ (r.length+1)) (nth _ r.length)=true then m9 lt (QG _ (r.length+1) r.length) r.length else _)=_;rw[g,h];unfold o9
  split
  .have a:QG (r.reverse++y::x::s) (r.length+1) r.length=r.reverse++x::(y::s):=by
    unfold QG;rw[g,h];apply List.ext_getElem?;intro k;simp only[km,kc];by_cases b:r.length=k
    .subst b;rw[jh rfl,jh (by simp)];rw[jv (by simp)];simp
    .rw[jc b];by_cases c:r.length+1=k
     .subst c;rw[jh rfl,jh (by simp)];rw[jv (by simp)];simp
     .rw[jc c];by_cases f:k<r.length
      .rw[jz (by simpa using f),jz (by simpa using f)]
      .rw[jv (by simp;omega),jv (by simp;omega)];obtain⟨d,i⟩:∃d,k-r.reverse.length=d+2:=⟨k-r.length-2,by simp;omega⟩;rw[i];simp
   rw[a,sink_app r x (y::s)];simp
  .simp
theorem fold_len {α:Type} {lt:α->α->Bool}:∀(l q:List α),(l.foldl (fun q x=>o9 lt x q) q).length=q.length+l.length
 |[],q=>rfl
 |x::l,q=>by
  simp only[List.foldl_cons,jX]
  rw[fold_len l,insR_len];omega
theorem part_eq (l:List α):∀i,i<=l.length->cT lt l i=((l.take i).foldl (fun q x=>o9 lt x q) []).reverse++l.drop i
 |0,_=>by simp[cT]
 |i+1,h=>by
  rw[part_succ,part_eq l i (by omega)]
  have b:l.drop i=nth l i::l.drop (i+1):=by
   rw[L.ql (by omega)];exact zY (by omega)
  rw[b];have a:((l.take i).foldl (fun q x=>o9 lt x q) []).length=i:=(by rw[fold_len];simp;omega);have:=sink_app (lt:=lt) ((l.take i).foldl (fun q x=>o9 lt x q) []) (nth l i) (l.drop (i+1));rw[a] at this;rw[this,L.wG (by omega),jV];rfl
theorem isort_eq (l:List α):ig lt l=(l.foldl (fun q x=>o9 lt x q) []).reverse:=by
 unfold ig;rw[part_eq l _ (jk _)];simp
theorem insR_mem {α:Type} {lt:α->α->Bool} {x z:α}:∀{q:List α},z∈o9 lt x q↔z=x\/z∈q
 |[]=>by simp[o9]
 |y::r=>by
  unfold o9
  split
  simp only[jj,insR_mem (q:=r)]
  constructor
  rintro(h|h|h)<;>simp[h]
  rintro(h|h|h)<;>simp[h]
  simp
theorem insR_desc {α:Type} {lt:α->α->Bool} {x:α}:∀{q:List α},vu lt (x::q)->q.Pairwise (fun a b=>lt a b=false)->(o9 lt x q).Pairwise (fun a b=>lt a b=false)
 |[],_,_=>by simp[o9]
 |y::r,ho,h=>by
  rw[zv] at h
  unfold o9
  split
  rename_i d
  rw[zv]
  refine⟨fun z c=> ?_,insR_desc (ho.sub (fun z c=>by rcases jj.1 c with h|h;exact h▸zb;exact jl _ (jl _ h))) h.2⟩
  rcases insR_mem.1 c with rfl|c
  exact ho.asymm (by simp) (by simp) d
  exact h.1 z c
  rename_i d
  have d:lt x y=false:=by simpa using d
  rw[zv]
  refine⟨fun z c=> ?_,zv.2 h⟩
  rcases jj.1 c with rfl|c
  exact d
  exact ho.ntrans (by simp) (by simp) (by simp[c]) d (h.1 z c)
theorem fold_desc {α:Type} {lt:α->α->Bool}:∀(l q:List α),vu lt (l++q)->q.Pairwise (fun a b=>lt a b=false)->(l.foldl (fun q x=>o9 lt x q) q).Pairwise (fun a b=>lt a b=false)
 |[],q,_,h=>h
 |x::l,q,ho,h=>by
  refine fold_desc l _ (ho.sub (fun z c=> ?_)) (insR_desc (ho.sub (fun z c=> ?_)) h)
  rcases js.1 c with c|c
  simp[c]
  rcases insR_mem.1 c with rfl|c
  simp
  simp[c]
  rcases jj.1 c with rfl|c
  simp
  simp[c]
theorem isort_asc {l:List α} (a:vu lt l):Pd lt (ig lt l):=by
 rw[isort_eq];unfold Pd;rw[List.pairwise_reverse];exact fold_desc l [] (by simpa using a) (by simp)
theorem isort_sort {l:List α} (a:vu lt l):ig lt l=kZ lt l:=rc a (isort_perm lt l) (isort_asc a)
end IS
end Go.X
namespace Go.X
open U
open Go.Proofs
def U.len8tab:ByteArray:=⟨#[0,1,2,2,3,3,3,3,4,4,4,4,4,4,4,4,5,5,5,5,5,5,5,5,5,5,5,5,5,5,5,5,6,6,6,6,6,6,6,6,6,6,6,6,6,6,6,6,6,6,6,6,6,6,6,6,6,6,6,6,6,6,6,6,7,7,7,7,7,7,7,7,7,7,7,7,7,7,7,7,7,7,7,7,7,7,7,7,7,7,7,7,7,7,7,7,7,7,7,7,7,7,7,7,7,7,7,7,7,7,7,7,7,7,7,7,7,7,7,7,7,7,7,7,7,7,7,7,8,8,8,8,8,8,8,8,8,8,8,8,8,8,8,8,8,8,8,8,8,8,8,8,8,8,8,8,8,8,8,8,8,8,8,8,8,8,8,8,8,8,8,8,8,8,8,8,8,8,8,8,8,8,8,8,8,8,8,8,8,8,8,8,8,8,8,8,8,8,8,8,8,8,8,8,8,8,8,8,8,8,8,8,8,8,8,8,8,8,8,8,8,8,8,8,8,8,8,8,8,8,8,8,8,8,8,8,8,8,8,8,8,8,8,8,8,8,8,8,8,8,8,8,8,8,8,8]⟩
abbrev rwI:Sh:= .cl (.row 3 .int .unk)
namespace U
abbrev FC:=Int×Int×Unit->Int×Unit
abbrev bj (F:FC):Int->Int->Bool:=k8 .int F
def ii (p:Int×Int×Unit->List Prop) (l:List Int):Prop:=∀x∈l,∀y∈l,wl (p (x,y,()))
def pa (n:Int):Int:=if n=0 then 0 else if n<2 then 1 else if n<4 then 2 else if n<8 then 3 else 4
end U
def GF:wL:=⟨[.val (.uint .u64)],[.int],false,fun d=>[0<=d.1/\d.1<=12],fun d=>(pa d.1,())⟩
abbrev je9 (d:Int×Unit):=(d.1/(2:Int)^Int.toNat 32/(2:Int)^Int.toNat 16/(2:Int)^Int.toNat 8)
abbrev jfa (d:Int×Unit):=(d.1/(2:Int)^Int.toNat 32/(2:Int)^Int.toNat 16)
abbrev jfb (d:Int×Unit):=(d.1/(2:Int)^Int.toNat 32/(2:Int)^Int.toNat 8)
abbrev jfc (d:Int×Unit):=(d.1/(2:Int)^Int.toNat 16/(2:Int)^Int.toNat 8)
abbrev jfL (d:Int×Unit):=(256<=d.1/(2:Int)^Int.toNat 32/(2:Int)^Int.toNat 16)
def GG:Prop:=∀(d:Int×Unit),0<=d.1/\d.1<=12->(decide (4294967296<=d.1)=true->(0:Int)<=32/\(32:Int)<=64/\(decide (65536<=d.1/(2:Int)^Int.toNat 32)=true->(0:Int)<=16/\(16:Int)<=64/\wq ((32:Int)+16)/\(decide (jfL d)=true->(0:Int)<=8/\(8:Int)<=64/\wq ((32:Int)+16+8)/\0<=d.1/(2:Int)^Int.toNat 32/(2:Int)^Int.toNat 16/(2:Int)^Int.toNat 8/\d.1/(2:Int)^Int.toNat 32/(2:Int)^Int.toNat 16/(2:Int)^Int.toNat 8<=255/\0<=d.1/(2:Int)^Int.toNat 32/(2:Int)^Int.toNat 16/(2:Int)^Int.toNat 8/\d.1/(2:Int)^Int.toNat 32/(2:Int)^Int.toNat 16/(2:Int)^Int.toNat 8<(U.len8tab.size:Int)/\wq (gN U.len8tab (je9 d).toNat)/\wq ((32:Int)+16+8+gN U.len8tab (je9 d).toNat)/\((32:Int)+16+8+gN U.len8tab (je9 d).toNat,())=(pa d.1,()))/\(decide (jfL d)=false->0<=d.1/(2:Int)^Int.toNat 32/(2:Int)^Int.toNat 16/\d.1/(2:Int)^Int.toNat 32/(2:Int)^Int.toNat 16<=255/\0<=d.1/(2:Int)^Int.toNat 32/(2:Int)^Int.toNat 16/\d.1/(2:Int)^Int.toNat 32/(2:Int)^Int.toNat 16<(U.len8tab.size:Int)/\wq (gN U.len8tab (jfa d).toNat)/\wq ((32:Int)+16+gN U.len8tab (jfa d).toNat)/\((32:Int)+16+gN U.len8tab (jfa d).toNat,())=(pa d.1,())))/\(decide (65536<=d.1/(2:Int)^Int.toNat 32)=false->(decide (256<=d.1/(2:Int)^Int.toNat 32)=true->(0:Int)<=8/\(8:Int)<=64/\wq ((32:Int)+8)/\0<=d.1/(2:Int)^Int.toNat 32/(2:Int)^Int.toNat 8/\d.1/(2:Int)^Int.toNat 32/(2:Int)^Int.toNat 8<=255/\0<=d.1/(2:Int)^Int.toNat 32/(2:Int)^Int.toNat 8/\d.1/(2:Int)^Int.toNat 32/(2:Int)^Int.toNat 8<(U.len8tab.size:Int)/\wq (gN U.len8tab (jfb d).toNat)/\wq ((32:Int)+8+gN U.len8tab (jfb d).toNat)/\((32:Int)+8+gN U.len8tab (jfb d).toNat,())=(pa d.1,()))/\(decide (256<=d.1/(2:Int)^Int.toNat 32)=false->0<=d.1/(2:Int)^Int.toNat 32/\d.1/(2:Int)^Int.toNat 32<=255/\0<=d.1/(2:Int)^Int.toNat 32/\d.1/(2:Int)^Int.toNat 32<(U.len8tab.size:Int)/\wq (gN U.len8tab (d.1/(2:Int)^Int.toNat 32).toNat)/\wq ((32:Int)+gN U.len8tab (d.1/(2:Int)^Int.toNat 32).toNat)/\((32:Int)+gN U.len8tab (d.1/(2:Int)^Int.toNat 32).toNat,())=(pa d.1,()))))/\(decide (4294967296<=d.1)=false->(decide (65536<=d.1)=true->(0:Int)<=16/\(16:Int)<=64/\wq ((0:Int)+16)/\(decide (256<=d.1/(2:Int)^Int.toNat 16)=true->(0:Int)<=8/\(8:Int)<=64/\wq ((0:Int)+16+8)/\0<=d.1/(2:Int)^Int.toNat 16/(2:Int)^Int.toNat 8/\d.1/(2:Int)^Int.toNat 16/(2:Int)^Int.toNat 8<=255/\0<=d.1/(2:Int)^Int.toNat 16/(2:Int)^Int.toNat 8/\d.1/(2:Int)^Int.toNat 16/(2:Int)^Int.toNat 8<(U.len8tab.size:Int)/\wq (gN U.len8tab (jfc d).toNat)/\wq ((0:Int)+16+8+gN U.len8tab (jfc d).toNat)/\((0:Int)+16+8+gN U.len8tab (jfc d).toNat,())=(pa d.1,()))/\(decide (256<=d.1/(2:Int)^Int.toNat 16)=false->0<=d.1/(2:Int)^Int.toNat 16/\d.1/(2:Int)^Int.toNat 16<=255/\0<=d.1/(2:Int)^Int.toNat 16/\d.1/(2:Int)^Int.toNat 16<(U.len8tab.size:Int)/\wq (gN U.len8tab (d.1/(2:Int)^Int.toNat 16).toNat)/\wq ((0:Int)+16+gN U.len8tab (d.1/(2:Int)^Int.toNat 16).toNat)/\((0:Int)+16+gN U.len8tab (d.1/(2:Int)^Int.toNat 16).toNat,())=(pa d.1,())))/\(decide (65536<=d.1)=false->(decide (256<=d.1)=true->(0:Int)<=8/\(8:Int)<=64/\wq ((0:Int)+8)/\0<=d.1/(2:Int)^Int.toNat 8/\d.1/(2:Int)^Int.toNat 8<=255/\0<=d.1/(2:Int)^Int.toNat 8/\d.1/(2:Int)^Int.toNat 8<(U.len8tab.size:Int)/\wq (gN U.len8tab (d.1/(2:Int)^Int.toNat 8).toNat)/\wq ((0:Int)+8+gN U.len8tab (d.1/(2:Int)^Int.toNat 8).toNat)/\((0:Int)+8+gN U.len8tab (d.1/(2:Int)^Int.toNat 8).toNat,())=(pa d.1,()))/\(decide (256<=d.1)=false->0<=d.1/\d.1<=255/\0<=d.1/\d.1<(U.len8tab.size:Int)/\wq (gN U.len8tab d.1.toNat)/\wq ((0:Int)+gN U.len8tab d.1.toNat)/\((0:Int)+gN U.len8tab d.1.toNat,())=(pa d.1,()))))
def LW:wL:=⟨[.val (.uint .u64)],[.int],false,fun d=>[0<=d.1/\d.1<=12],fun d=>(pa d.1,())⟩
def LX:Prop:=∀(d:Int×Unit),0<=d.1/\d.1<=12->(false=true->False)/\(qF->(0<=d.1/\d.1<=12)/\(pa d.1,())=(pa d.1,()))
def aC:qB:=⟨[.own rwI true,.val .int,.val .int,.fn [.int,.int] [.int]],[],fun d=>[d.2.1=0/\d.2.2.1=(d.1.length:Int)/\d.1.length<=12,ii d.2.2.2.1.pre d.1],fun d=>((),(ig (bj d.2.2.2.1.F) d.1,()))⟩
def aD:Ann:=fun r=>match r with
 |1=>some fun σ=>{X:=Nat,sl:=fun i=>[(8,.dat .int (i:Int))],ob:=fun i=>[(1000000,some (.row 3 .int false .unk (cT (bj (gfn [.int,.int] [.int] σ 3)) (gr .int σ 1000000) i)))],inv:=fun i=>1<=i/\i<=max (gr .int σ 1000000).length 1,mu:=fun i=>(gr .int σ 1000000).length-i}
 |4=>some fun σ=>{X:=Nat×List Int,sl:=fun x=>[(9,.dat .int (x.1:Int))],ob:=fun x=>[(1000000,some (.row 3 .int false .unk x.2))],inv:=fun x=>(x.1:Int)<=gd .int σ 8/\x.2.Perm (gr .int σ 1000000)/\m9 (bj (gfn [.int,.int] [.int] σ 3)) x.2 x.1=m9 (bj (gfn [.int,.int] [.int] σ 3)) (gr .int σ 1000000) (gd .int σ 8).toNat,mu:=fun x=>x.1}
 |_=>none
abbrev jfe (a:Nat×List Int):=(nth a.2 (a.1:Int).toNat,nth a.2 ((a.1:Int)-1).toNat,())
abbrev jcD (d:List Int×Int×Int×FnD [Ty.int,Ty.int] [Ty.int]×Unit):=(bj d.2.2.2.1.2)
def aF:Prop:=∀(d:List Int×Int×Int×FnD [Ty.int,Ty.int] [Ty.int]×Unit),d.2.1=0/\d.2.2.1=(d.1.length:Int)/\d.1.length<=12->ii d.2.2.2.1.1 d.1->wq (d.2.1+1)/\(∃(x:Nat),((d.2.1+1=(x:Int)/\True)/\d.1=cT (jcD d) d.1 x/\True)/\1<=x/\x<=max d.1.length 1)/\∀(x:Nat),1<=x/\x<=max d.1.length 1->(decide ((x:Int)<d.2.2.1)=true->(∃(a:Nat×List Int),(((x:Int)=(a.1:Int)/\True)/\cT (jcD d) d.1 x=a.2/\True)/\(a.1:Int)<=(x:Int)/\a.2.Perm (cT (jcD d) d.1 x)/\m9 (jcD d) a.2 a.1=m9 (jcD d) (cT (jcD d) d.1 x) (x:Int).toNat)/\∀(a:Nat×List Int),(a.1:Int)<=(x:Int)/\a.2.Perm (cT (jcD d) d.1 x)/\m9 (jcD d) a.2 a.1=m9 (jcD d) (cT (jcD d) d.1 x) (x:Int).toNat->(decide (d.2.1<(a.1:Int))=true->0<=(a.1:Int))/\(decide (d.2.1<(a.1:Int))=true->(a.1:Int)<a.2.length)/\(decide (d.2.1<(a.1:Int))=true->wq ((a.1:Int)-1))/\(decide (d.2.1<(a.1:Int))=true->0<=(a.1:Int)-1)/\(decide (d.2.1<(a.1:Int))=true->(a.1:Int)-1<(a.2.length:Int))/\Q6 (decide (d.2.1<(a.1:Int))) (d.2.2.2.1.1 (jfe a)) (((decide (d.2.1<(a.1:Int))&&decide ((d.2.2.2.1.2 (jfe a)).1<0))=true->wq ((a.1:Int)-1)/\wq ((a.1:Int)-1)/\0<=(a.1:Int)-1/\(a.1:Int)-1<(a.2.length:Int)/\0<=(a.1:Int)/\(a.1:Int)<a.2.length/\0<=(a.1:Int)/\(a.1:Int)<a.2.length/\0<=(a.1:Int)-1/\(a.1:Int)-1<(↑(a.2.set (a.1:Int).toNat (nth a.2 ((a.1:Int)-1).toNat)).length:Int)/\wq ((a.1:Int)-1)/\∃(b:Nat×List Int),(((a.1:Int)-1=(b.1:Int)/\True)/\(a.2.set (a.1:Int).toNat (nth a.2 ((a.1:Int)-1).toNat)).set ((a.1:Int)-1).toNat (nth a.2 (a.1:Int).toNat)=b.2/\True)/\((b.1:Int)<=(x:Int)/\b.2.Perm (cT (jcD d) d.1 x)/\m9 (jcD d) b.2 b.1=m9 (jcD d) (cT (jcD d) d.1 x) (x:Int).toNat)/\b.1<a.1)/\((decide (d.2.1<(a.1:Int))&&decide ((d.2.2.2.1.2 (jfe a)).1<0))=false->wq ((x:Int)+1)/\∃(c:Nat),(((x:Int)+1=(c:Int)/\True)/\a.2=cT (jcD d) d.1 c/\True)/\(1<=c/\c<=max d.1.length 1)/\d.1.length-c<d.1.length-x)))/\(decide ((x:Int)<d.2.2.1)=false->()=()/\(cT (jcD d) d.1 x,())=(ig (jcD d) d.1,()))
def dP:qB:=⟨[.own rwI true,.val .int,.val .int,.val .int,.fn [.int,.int] [.int]],[],fun d=>[d.2.1=0/\d.2.2.1=(d.1.length:Int)/\d.1.length<=12,ii d.2.2.2.2.1.pre d.1],fun d=>((),(ig (bj d.2.2.2.2.1.F) d.1,()))⟩
def dQ:Ann:=fun r=>match r with
 |1000002=>some fun _=>{X:=Unit,sl:=fun _=>[],ob:=fun _=>[],inv:=fun _=>True,mu:=fun _=>0}
 |_=>none
def dR:Prop:=∀(d:List Int×Int×Int×Int×FnD [Ty.int,Ty.int] [Ty.int]×Unit),d.2.1=0/\d.2.2.1=(d.1.length:Int)/\d.1.length<=12->ii d.q4.1.1 d.1->wq (d.2.2.1-d.2.1)/\(decide (d.2.2.1-d.2.1<=12)=true->(d.2.1=0/\d.2.2.1=(d.1.length:Int)/\d.1.length<=12)/\ii d.q4.1.1 d.1/\()=()/\(ig (bj d.q4.1.2) d.1,())=(ig (bj d.q4.1.2) d.1,()))/\(decide (d.2.2.1-d.2.1<=12)=false->(decide (d.2.2.2.1=0)=true->False)/\(decide (d.2.2.2.1=0)=false->((!true)=true->False)/\((!true)=false->False)))
def qD:qB:=⟨[.own rwI true,.fn [.int,.int] [.int]],[],fun d=>[d.1.length<=12,ii d.2.1.pre d.1,vu (bj d.2.1.F) d.1],fun d=>((),(kZ (bj d.2.1.F) d.1,()))⟩
def rM:Prop:=∀(d:List Int×FnD [Ty.int,Ty.int] [Ty.int]×Unit),d.1.length<=12->ii d.2.1.1 d.1->vu (bj d.2.1.2) d.1->d.1.length<4611686018427387904->0<=(d.1.length:Int)/\(d.1.length:Int)<=18446744073709551615/\(0<=(d.1.length:Int)/\(d.1.length:Int)<=12)/\((0:Int)=0/\(d.1.length:Int)=d.1.length/\d.1.length<=12)/\ii d.2.1.1 d.1/\()=()/\(ig (bj d.2.1.2) d.1,())=(kZ (bj d.2.1.2) d.1,())
def asI (l:List Int):List (Ty.st [.int]).Data:=l.map (fun x=>(x,()))
def LVi (d:PD [.ref (.slice .int)]) (xs:List (Ty.st [.int]).Data):Prop:=xs=asI d.1
def rN:Ak (YS [.int]):=fun r=>match r with
 |1=>some fun σ _=>{X:=Nat,sl:=fun i=>[(7,.dat .int (i:Int))],ob:=fun _=>[],ys:=fun i=>(asI ((gd (.slice .int) σ 5).take i),true),inv:=fun i=>i<=(gd (.slice .int) σ 5).length,mu:=fun i=>(gd (.slice .int) σ 5).length-i}
 |_=>none
abbrev jcK:=(fun(a:Int)=>(a,()))
abbrev jd7 (d:List Int×Unit)(x:Nat):=(nth d.1 (x:Int).toNat,())
def cy:Prop:=∀(d:List Int×Unit) (l:Nat),d.1.length<4611686018427387904->(∃(x:Nat),((0=(x:Int)/\True)/\True)/\([],true)=(List.map jcK (List.take x d.1),true)/\x<=d.1.length)/\∀(x:Nat),x<=d.1.length->(decide ((x:Int)<d.1.length)=true->0<=(x:Int)/\(x:Int)<d.1.length/\l=l/\(∃(rest:List (Int×Unit)),List.map jcK (List.take x d.1)++[(jd7 d x)]++rest=List.map jcK d.1)/\(((!true)=true->true=true->List.map jcK (List.take x d.1)++[(jd7 d x)]=List.map jcK d.1)/\((!true)=false->wq ((x:Int)+1)/\∃(a:Nat),(((x:Int)+1=(a:Int)/\True)/\True)/\(List.map jcK (List.take x d.1)++[(jd7 d x)],true)=(List.map jcK (List.take a d.1),true)/\a<=d.1.length/\d.1.length-a<d.1.length-x))/\((!false)=true->false=true->List.map jcK (List.take x d.1)++[(jd7 d x)]=List.map jcK d.1)/\((!false)=false->wq ((x:Int)+1)/\∃(a:Nat),(((x:Int)+1=(a:Int)/\True)/\True)/\(List.map jcK (List.take x d.1)++[(jd7 d x)],false)=(List.map jcK (List.take a d.1),true)/\a<=d.1.length/\d.1.length-a<d.1.length-x))/\(decide ((x:Int)<d.1.length)=false->true=true->List.map jcK (List.take x d.1)=List.map jcK d.1)
theorem lI:(Vk (ctx 16 [] []) (wS Tryz.f241) [.int] [.ref (.slice .int)] LVi (fun _=>[]) (fun _ _=>rN) (fun d l=>hkY [.int] l [13] (fun q=>∃rest,LVi d (q++rest)) (fun _=>none)))=cy:=by kernel_rfl
def qK:ol:=⟨[.val (.slice .int)],fun _=>[],241,[.slice .int],fun d=>(d.1,())⟩
def f7:Prop:=∀(d:List Int×Unit),d=d
theorem oS:(Se (ctx 4 [] []) (fun _=>none) Tryz.f223 (wS Tryz.f223) qK)=f7:=by kernel_rfl
def bL:Ic [.int]:={ps:=[.own (.box 31 [.row 3 .int .unk]) true],slots:=[2],dst:=20,pre:=fun _=>[],G:=fun d q=>((d.1.1++q.map (·.1),()),()),seq:=fun sv=>match sv with
 | .clo 241 [.ep t m]=>(match qi t (.slice .int) m with
  |some a=>some (True,fun xs=>xs=asI a)
  |none=>none)
 |_=>none}
def y7:Nat->Option ((ts:List Ty)×Ic ts):=fun r=>match r with
 |3=>some ⟨[.int],bL⟩
 |_=>none
def vb:oq:=⟨[none,some (241,1)],[.nil false,.ref (.slice .int)],[rwI],fun d=>[d.2.1.length<=12],fun d r=>r.1.1=d.2.1⟩
def vK:oq:=⟨[some (241,1)],[.ref (.slice .int)],[rwI],fun d=>[d.1.length<=12],fun d r=>r.1.1=d.1⟩
def qP:oq:=⟨[some (241,1),none],[.ref (.slice .int),.fn [.int,.int] [.int]],[rwI],fun d=>[d.1.length<=12,ii d.2.1.pre d.1,vu (bj d.2.1.F) d.1],fun d r=>r.1.1=kZ (bj d.2.1.F) d.1⟩
def oT (d:OD vb.ps):List SV:=[.lit (.slice none 0 0),.clo 241 [.ep (.slice .int) d.2.1]]
abbrev jd8:=(fun(a:Int×Unit)=>a.1)
abbrev jff:=(fun(a:List (Int×Unit))=>false)
abbrev jfg:=(fun(a:Int)=>(a,()))
def bM:Prop:=∀(d:Unit×List Int×Unit),d.2.1.length<=12/\True->True/\True/\(([]++List.map jd8 [],()),())=(([],()),())/\(∀(q:List (Int×Unit)) (x:Int×Unit) (rest:List (Int×Unit)),q++x::rest=List.map jfg d.2.1->yh jff q->(([]++List.map jd8 q).length+[x.1].length)*8<=140737488355328/\qF/\(([]++List.map jd8 q++[x.1],()),())=(([]++List.map jd8 (q++[x]),()),()))/\(∀(xs:List (Int×Unit)),xs=List.map jfg d.2.1->yh jff xs->∃(_:Unit),[]++List.map jd8 xs=d.2.1)/\∀(q:List (Int×Unit)) (x:Int×Unit) (rest:List (Int×Unit)),q++x::rest=List.map jfg d.2.1->yh jff q->false=true->∃(_:Unit),[]=d.2.1
theorem iF:(Sg (ctx 13 [] []) (fun _=>none) (hkC (ctx 13 [] []) (fun _=>none) y7 [] []) Tryz.f246 (wS Tryz.f246) vb oT)=bM:=by kernel_rfl
def th (d:OD vK.ps):List SV:=[.clo 241 [.ep (.slice .int) d.1]]
def dS:Prop:=∀(d:List Int×Unit),d.1.length<=12/\True->(d.1.length<=12/\True)/\∀(r:(List Int×Unit)×Unit),r.1.1=d.1->∃(_:Unit),r.1.1=d.1
theorem mR:(Sg (ctx 5 [] []) (fun _=>none) (hkC (ctx 5 [] []) (fun _=>none) Yg [4] [(246,20,vb)]) Tryz.f239 (wS Tryz.f239) vK th)=dS:=by kernel_rfl
def mS (d:OD qP.ps):List SV:=[.clo 241 [.ep (.slice .int) d.1],.fn [.int,.int] [.int] d.2.1.pre d.2.1.F]
def aU:Prop:=∀(d:List Int×FnD [Ty.int,Ty.int] [Ty.int]×Unit),d.1.length<=12/\ii d.2.1.1 d.1/\vu (bj d.2.1.2) d.1/\True->(d.1.length<=12/\True)/\∀(r:(List Int×Unit)×Unit),r.1.1=d.1->r.1.1.length<=12/\ii d.2.1.1 r.1.1/\vu (bj d.2.1.2) r.1.1/\∃(_:Unit),kZ (bj d.2.1.2) r.1.1=kZ (bj d.2.1.2) d.1
theorem fG:(Sg (ctx 12 [] [(240,qD)]) (fun _=>none) (hkC (ctx 12 [] [(240,qD)]) (fun _=>none) Yg [7] [(239,20,vK)]) Tryz.f222 (wS Tryz.f222) qP mS)=aU:=by kernel_rfl
theorem PG {b:Bool} {l:List Prop} {k:Prop} (h:b=true->wl l) (hk:k):Q6 b l k:=by
 induction l with
 |nil=>exact hk
 |cons p l c=>exact⟨fun a=>(h a).1,c (fun a=>(h a).2)⟩
theorem jcd:∀n:Nat,n<13->gN U.len8tab n=pa (n:Int):=by decide+kernel
theorem Yw (n:Int):0<=pa n/\pa n<=4:=by
 unfold pa
 split
 omega
 split
 omega
 split
 omega
 split<;>omega
theorem I9:GG:=by
 unfold GG jfL jfc jfb jfa je9;rintro⟨n,⟨⟩⟩ ⟨a,b⟩;have a:0<=n:=a;have b:n<=12:=b;refine⟨fun h=>absurd (jb h) (by simp only;omega),fun _=>⟨fun h=>absurd (jb h) (by simp only;omega),fun _=>⟨fun h=>absurd (jb h) (by simp only;omega),fun _=> ?_⟩⟩⟩;have c:=jcd n.toNat (by omega);rw[Int.toNat_of_nonneg a] at c;have d:=Yw n;simp only;rw[c];refine⟨by omega,by omega,by omega,?_,by unfold wq;omega,by unfold wq;omega,by rw[Int.zero_add]⟩;have:U.len8tab.size=256:=(by decide+kernel);omega
theorem GH:wU PR 178 GF:=wF I9 Tryz.func178 kcN koN
theorem PH:LX:=by
 rintro⟨n,⟨⟩⟩ h;exact⟨fun e=>(by cases e),fun _=>⟨h,rfl⟩⟩
theorem LY:wU PR 140 LW:=wF PH Tryz.func140 (kcC GH kcN) koN
theorem aM:aF:=by
 unfold aF jcD jfe;rintro⟨l,a,b,⟨pre,c⟩,⟨⟩⟩ x y;obtain⟨z,n,E⟩:a=0/\b=(l.length:Int)/\l.length<=12:=x;have s:ii pre l:=y;subst z n;simp only;refine⟨by unfold wq;omega,⟨1,⟨⟨rfl,tZ⟩,rfl,tZ⟩,jk _,by omega⟩,fun i hi=>⟨fun h=> ?_,fun h=> ?_⟩⟩
 .have h:i<l.length:=(by have:=jb h;omega);have u:=IS.part_perm (lt:=bj c) (l:=l) i (by omega);refine⟨⟨(i,cT (bj c) l i),⟨⟨rfl,tZ⟩,rfl,tZ⟩,kg _,List.Perm.refl _,rfl⟩,?_⟩;rintro⟨j,m⟩ ⟨v,o,p⟩;have v:(j:Int)<=i:=v;have o:m.Perm (cT (bj c) l i):=o;have p:m9 (bj c) m j=m9 (bj c) (cT (bj c) l i) i:=p;have C:m.length=l.length:=(o.trans u).length_eq;have g:∀{k:Nat},k<m.length->nth m k∈l:=fun hk=>(o.trans u).mem_iff.1 (L.wd hk)
  simp only[ju];refine⟨fun _=>by omega,fun f=>by have:=jb f;omega,fun f=>by have:=jb f;unfold wq;omega,fun f=>by have:=jb f;omega,fun f=>by have:=jb f;omega,PG (fun f=> ?_) ⟨fun n=> ?_,fun n=> ?_⟩⟩
  .have f:=jb f;exact s _ (g (by omega)) _ (g (by omega))
  .simp only[ji,jp] at n;obtain⟨D,q⟩:=n;obtain⟨d,rfl⟩:∃d,j=d+1:=⟨j-1,by omega⟩;have r:((d+1:Nat):Int)-1=(d:Int):=(by omega);rw[r] at q⊢;simp only[ju] at q⊢;have t:=IS.swap_perm (l:=m) (j:=d+1) (k:=d) (by omega) (by omega);have e:wq (d:Int):=(by unfold wq;omega);refine⟨e,e,by omega,by omega,by omega,by omega,by omega,by omega,by omega,by simp;omega,e,⟨(d,QG m (d+1) d),⟨⟨rfl,tZ⟩,rfl,tZ⟩,⟨by simp only;omega,t.trans o,?_⟩,by simp⟩⟩;rw[<-p];show _=(if bj c (nth m (d+1)) (nth m d)=true then m9 (bj c) (QG m (d+1) d) d else m);have w:bj c (nth m (d+1)) (nth m d)=true:=jI q;rw[jh w]
  .have B:m=cT (bj c) l (i+1):=by
    rw[IS.part_succ,<-p];cases j with
    |zero=>rfl
    |succ d=>
     unfold m9;rw[jc];intro A;refine absurd n (by
      rw[kj];rintro(h|h)
      .exact absurd (je h) (by simp)
      .refine je h ?_;have r:((d+1:Nat):Int)-1=(d:Int):=(by omega);rw[r];exact jb A)
   exact⟨by unfold wq;omega,i+1,⟨⟨by simp,tZ⟩,B,tZ⟩,by omega,by omega⟩
 .have h:l.length<=i:=(by have:=je h;omega);exact⟨tZ,by rw[IS.part_isort hi.1 hi.2 h]⟩
theorem aG:gq PR 251 aC:=uz aD aM Tryz.func251 kcN koN
theorem fH:dR:=by
 unfold dR Prod.q4;rintro⟨l,a,b,lim,⟨pre,c⟩,⟨⟩⟩ e d;obtain⟨f,g,i⟩:a=0/\b=(l.length:Int)/\l.length<=12:=e;subst f g;refine⟨by unfold wq;simp only;omega,fun _=>⟨⟨rfl,rfl,by simp only;omega⟩,d,rfl,rfl⟩,fun h=>absurd (je h) (by simp only;omega)⟩
theorem dT:gq PR 247 dP:=uz dQ fH Tryz.func247 kcN (koC aG koN)
theorem tn:rM:=by
 rintro⟨l,⟨pre,c⟩,⟨⟩⟩ a b d _;have a:l.length<=12:=a;exact⟨by simp only;omega,by simp only;omega,⟨by simp only;omega,by simp only;omega⟩,⟨rfl,rfl,a⟩,b,rfl,jS (·,()) (IS.isort_sort d)⟩
theorem rO:gq PR 240 qD:=BI tn Tryz.func240 (kcC LY kcN) (koC dT koN)
theorem VO {l:List Int} {i:Nat} (h:i<l.length):asI (l.take (i+1))=asI (l.take i)++[(nth l i,())]:=by
 unfold asI;rw[L.wG h,zC];rfl
theorem tp:cy:=by
 unfold cy jd7 jcK;rintro⟨l,⟨⟩⟩ y b;have b:l.length<4611686018427387904:=b;refine⟨⟨0,⟨⟨rfl,tZ⟩,tZ⟩,rfl,jw _⟩,fun x c=>⟨fun h=> ?_,fun h _=> ?_⟩⟩;have h:(x:Int)<l.length:=jb h;have a:x<l.length:=(by omega);have e:=VO a;unfold asI at e;simp only[ju];refine⟨by omega,h,tZ,⟨asI (l.drop (x+1)),?_⟩,⟨fun h=>(by cases h),fun _=>⟨iZ6,x+1,⟨⟨by simp,tZ⟩,tZ⟩,?_,by show x+1<=l.length;omega,by show l.length-(x+1)<l.length-x;omega⟩⟩,fun _ h=>(by cases h),fun h=>(by cases h)⟩;rw[<-e];unfold asI;rw[<-zC,zW];rw[e];have h:¬(x:Int)<l.length:=je h;have c:x<=l.length:=c;rw[zz (by show l.length<=x;omega)]
theorem PI {H:Imm} {lb:Array Value} {d:PD [.ref (.slice .int)]} (e:pvs PR H [.ref (.slice .int)] lb.toList d):Vi PR H [.int] (LVi d) (.func (.func 241) #[] lb):=
 W4 (C:=ctx 16 [] []) (ny trivial trivial) mixed Tryz.func241 (by kernel_rfl) (by kernel_rfl) (by kernel_rfl) (by kernel_rfl) (by decide) (lI.mpr tp) (fun d l B0 R f a b c=>Z0 a c) e trivial
theorem Ch:f7:=by intro d;rfl
theorem xj:Ih PR 223 qK:=Z3 (oS.mpr Ch) Tryz.func223 (by kernel_rfl) (by kernel_rfl) (by kernel_rfl) (by kernel_rfl) trivial trivial
theorem Yx (l:List Int):(asI l).map (fun(x:Int×Unit)=>x.1)=l:=by
 unfold asI;rw[kR];exact List.map_id l
theorem rP:bM:=by
 unfold bM jfg jff jd8;intro d ⟨a,_⟩;refine⟨tZ,tZ,rfl,fun q x rest h _=>⟨?_,rfl,?_⟩,fun xs h _=>⟨(),?_⟩,fun _ _ _ _ _ h=>(by cases h)⟩;have b:=jS List.length h;simp only[zr,jL,jX] at b;have a:d.2.1.length<=12:=a;simp only[jW,zr,jX,zp];omega;simp;rw[h,jW];exact Yx d.2.1
theorem xl:dS:=fun _ a=>⟨a,fun _ h=>⟨(),h⟩⟩
theorem oU:aU:=fun d ⟨a,b,c,_⟩=>⟨⟨a,tZ⟩,fun r h=>by rw[h];exact⟨a,b,c,(),rfl⟩⟩
theorem N5 {P:Program} {ρ:Env} {H:Imm} (b:ρ.H=H) {g:Nat} {t:Ty} {d:t.Data} {lb:Array Value} {w:World} {bs:List Nat} (a:dx P H w [.ref t] lb.toList (d,()) bs):SV.den P ρ (.clo g [.ep t d]) (.func (.func g) #[] lb):=by
 subst b
 match e:lb.toList,a with
 |[],a=>exact a.elim
 |[x],⟨_,_,_,⟨c,_⟩,_⟩=>
  simp only[SV.den,SV.denL];exact⟨lb,rfl,x,[],e,c,rfl⟩
 |x::y::r,⟨_,_,_,_,h2⟩=>cases h2.1
theorem LZ {lb:Array Value} (h:lb.size=1):∃x,lb.toList=[x]:=by
 have a:lb.toList.length=1:=(by rw[jY];exact h);exact List.length_eq_one_iff.1 a
theorem SQ {g n:Nat} {s:oq} (h:ROK PR g s):∀(f:Nat) (p:Nat×oq),wA [(g,n,s)] f=some p->ROK PR f p.2:=by
 intro f p a;simp only[wA] at a
 split at a
 rename_i b;have:=ja b;subst this;simp at a;subst a;exact h;cases a
theorem VP (n:Nat):(ctx n [] []).ok PR:=ny trivial trivial
theorem mT:ROK PR 246 vb:=by
 refine Si (body:=wS Tryz.f246) (C:=ctx 13 [] []) (hk:=hkC (ctx 13 [] []) (fun _=>none) y7 [] []) (VP 13) mixed Tryz.func246 (by kernel_rfl) (by kernel_rfl) (by kernel_rfl) (fun B=>E5 (VP 13) mixed ?_ Ys B) rfl (fun H w vals fl d bs c b ρ f=> ?_) (fun d=>rfl) (iF.mpr rP)
 .intro k t rs sv pr L v ρ hk a p g;unfold y7 at hk
  split at hk
  case h_2=>cases hk
  simp only[jy] at hk;cases hk;simp only[bL] at a
  split at a
  case h_2=>cases a
  rename_i t m
  split at a
  case h_2=>cases a
  rename_i z o;simp only[jy,Prod.mk.injEq] at a;obtain⟨rfl,rfl⟩:=a;obtain⟨e,rfl⟩:=wc o;subst e;simp only[SV.den,SV.denL] at g;obtain⟨lb,rfl,x,r,n,j,l⟩:=g;exact PI (d:=(m,())) (by rw[n,l];exact⟨j,rfl⟩)
 .obtain⟨v,q,h,rfl,rfl,lb,s,i,rfl,rfl,_,rfl,rfl⟩:=c;obtain⟨u,y,_,⟨rfl,_⟩,b⟩:=b;rw[j7] at b;refine⟨_,_,rfl,rfl,_,_,rfl,N5 f b,rfl⟩
theorem rQ:ROK PR 239 vK:=by
 refine Si (body:=wS Tryz.f239) (C:=ctx 5 [] []) (hk:=hkC (ctx 5 [] []) (fun _=>none) Yg [4] [(246,20,vb)]) (VP 5) mixed Tryz.func239 (by kernel_rfl) (by kernel_rfl) (by kernel_rfl) (fun B=>E5 (VP 5) mixed Lj (SQ mT) B) rfl (fun H w vals fl d bs a c ρ b=> ?_) (fun d=>rfl) (mR.mpr xl);obtain⟨lb,f,e,rfl,rfl,_,rfl,rfl⟩:=a;rw[j7] at c;exact⟨_,_,rfl,N5 b c,rfl⟩
theorem Fe:(ctx 12 [] [(240,qD)]).ok PR:=ny trivial ⟨rO,tZ⟩
theorem lJ:ROK PR 222 qP:=by
 refine Si (body:=wS Tryz.f222) (C:=ctx 12 [] [(240,qD)]) (hk:=hkC (ctx 12 [] [(240,qD)]) (fun _=>none) Yg [7] [(239,20,vK)]) Fe mixed Tryz.func222 (by kernel_rfl) (by kernel_rfl) (by kernel_rfl)
  (fun B=>E5 Fe mixed Lj (SQ rQ) B) rfl (fun H w vals fl d bs a e ρ c=> ?_) (fun d=>rfl) (fG.mpr oU)
 obtain⟨lb,k,g,rfl,rfl,b,v,l,h,rfl,rfl,rfl,rfl⟩:=a;obtain⟨x,f⟩:=LZ b;rw[f] at e;obtain⟨m,n,_,⟨i,_⟩,c1,c2,_,⟨j,_⟩,_⟩:=e;subst c;refine⟨_,_,rfl,⟨lb,rfl,x,[],f,i,rfl⟩,_,_,rfl,j,rfl⟩
abbrev tRo:Ty:= .st [tDy,.slice .int,.slice (.slice .int),.slice .int]
abbrev RoD:Type:=DyD×List Int×List (List Int)×List Int×Unit
namespace U
def ro (o:Option RoD):RoD:=wy (Ty.dflt tRo) o
def rd (r:RoD):DyD:=r.1
def l4 (r:RoD):List Int:=r.2.1
def aJ (r:RoD):List (List Int):=r.2.2.1
def jbC (r:RoD):List Int:=r.2.2.2.1
def aO (d:DyD) (b:Int):Prop:=0<=b/\b<((wg d).length:Int)
def M4 (d:DyD) (l:List Int):Prop:=l.length<=12/\∀b∈l,aO d b
def QH (d:DyD):Prop:=wz (wi d)=true/\J6 d=true/\qc d=true
def Ov (r:RoD):Prop:=QH (rd r)/\(l4 r).length=(wg (rd r)).length
def QT (d:DyD) (p:Int):Prop:=0<=p/\p<((we (wi d)).length:Int)
def su (d:DyD) (a b:Int):Int:=yq [bZ (qR (bk d a)) (qR (bk d b)),bZ a b]
def wj (d:DyD) (l:List Int):List Int:=kZ (cD d) l
def ag (d:DyD) (s:List Int) (n:Nat):Int:=M3 d (s.take n)
def Hp (d:DyD) (cE:List Int) (p:Int) (s:List Int) (i:Nat):Bool:= !(decide (nI (nth cE (nth s i).toNat/2^p.toNat) 1=0)||(s.drop (i+1)).any (fun c=>decide (bR d (nth s i) c<0)))
def Zk (d:DyD) (cE:List Int) (p:Int) (s:List Int):Bool:=(List.range s.length).all (Hp d cE p s)&&decide (M3 d s<=Zh d)
def M5 (d:DyD) (cE:List Int) (p:Int) (l:List Int):Bool:=Zk d cE p (wj d l)
def Ka (r:RoD) (p:Int) (l:List Int):Bool:=M5 (rd r) (l4 r) p l
def ai (on:List (List Int)) (b:Int) (n:Nat):Int:=(List.range n).foldl (fun s p=>if(nth on p).any (fun x=>decide (x=b))=true then bor s (1*2^p) else s) 0
def cU (on:List (List Int)) (b:Int):Int:=ai on b on.length
def Dc (d:DyD) (b t:Int):Bool:=(decide (aI (wi d) (y9 (bk d b)) t=0)&&decide (ZB (wi d) (y9 (bk d b)) t=0))&&decide (t≠0)
end U
def tq:wL:=⟨[.val (.ptr tRo),.val .int,.val .int],[.int],false,fun d=>[d.1.isSome=true,QH (U.rd (U.ro d.1)),aO (U.rd (U.ro d.1)) d.2.1,aO (U.rd (U.ro d.1)) d.2.2.1],fun d=>(bR (U.rd (U.ro d.1)) d.2.1 d.2.2.1,())⟩
abbrev jcU (d:Option RoD×Int×Int×Unit):=(wy ((((0:Int),[],[],()),[],[],(0:Int),(0:Int),[],()),[],[],[],()) d.1)
abbrev jdc (d:Option RoD×Int×Int×Unit):=(nth (jcU d).1.2.2.1 d.2.1.toNat)
abbrev jdk (d:Option RoD×Int×Int×Unit):=(nth (jcU d).1.2.2.1 d.2.2.1.toNat)
def tu:Prop:=∀(d:Option RoD×Int×Int×Unit),d.1.isSome=true->QH (U.rd (U.ro d.1))->aO (U.rd (U.ro d.1)) d.2.1->aO (U.rd (U.ro d.1)) d.2.2.1->d.1.isSome=true/\0<=d.2.1/\d.2.1<(↑(jcU d).1.2.2.1.length:Int)/\d.1.isSome=true/\0<=d.2.2.1/\d.2.2.1<(↑(jcU d).1.2.2.1.length:Int)/\wq ((jdk d).2.2.1-(jdc d).2.2.2.1)/\d.1.isSome=true/\wq ((jdk d).2.2.1-(jdc d).2.2.2.1-(jcU d).1.2.2.2.1)/\d.1.isSome=true/\(0:Int)<=(jdc d).2.1/\(jdc d).2.1<(↑(jcU d).1.2.1.length:Int)/\(0:Int)<=(jdk d).2.1/\(jdk d).2.1<(↑(nth (jcU d).1.2.1 (jdc d).2.1.toNat).length:Int)/\wq ((jdk d).2.2.1-(jdc d).2.2.2.1-(jcU d).1.2.2.2.1-(nth (nth (jcU d).1.2.1 (jdc d).2.1.toNat) (jdk d).2.1.toNat).2.1)/\((jdk d).2.2.1-(jdc d).2.2.2.1-(jcU d).1.2.2.2.1-(nth (nth (jcU d).1.2.1 (jdc d).2.1.toNat) (jdk d).2.1.toNat).2.1,())=(bR (U.rd (U.ro d.1)) d.2.1 d.2.2.1,())
def qn:wL:=⟨[.val .int,.val .int,.ref (.ptr tRo)],[.int],false,fun d=>[d.2.2.1.isSome=true,aO (U.rd (U.ro d.2.2.1)) d.1,aO (U.rd (U.ro d.2.2.1)) d.2.1],fun d=>(su (U.rd (U.ro d.2.2.1)) d.1 d.2.1,())⟩
abbrev jeC (d:Int×Int×Option RoD×Unit):=(wy ((((0:Int),[],[],()),[],[],(0:Int),(0:Int),[],()),[],[],[],()) d.2.2.1)
def mU:Prop:=∀(d:Int×Int×Option RoD×Unit),d.2.2.1.isSome=true->aO (U.rd (U.ro d.2.2.1)) d.1->aO (U.rd (U.ro d.2.2.1)) d.2.1->d.2.2.1.isSome=true/\0<=d.1/\d.1<(↑(jeC d).1.2.2.1.length:Int)/\d.2.2.1.isSome=true/\0<=d.2.1/\d.2.1<(↑(jeC d).1.2.2.1.length:Int)/\(yq [bZ (nth (jeC d).1.2.2.1 d.1.toNat).2.2.1 (nth (jeC d).1.2.2.1 d.2.1.toNat).2.2.1,bZ d.1 d.2.1],())=(su (U.rd (U.ro d.2.2.1)) d.1 d.2.1,())
def cz:wL:=⟨[.val (.ptr tRo),.val (.slice .int)],[.slice .int],false,fun d=>[d.1.isSome=true,M4 (U.rd (U.ro d.1)) d.2.1],fun d=>(wj (U.rd (U.ro d.1)) d.2.1,())⟩
abbrev jfM (d:Option RoD×List Int×Unit):=(bj fun(a:Int×Int×Unit)=>(su (U.rd (U.ro d.1)) a.1 a.2.1,()))
def cA:Prop:=∀(d:Option RoD×List Int×Unit),d.1.isSome=true->M4 (U.rd (U.ro d.1)) d.2.1->(d.2.1.length<=12/\ii (fun(a:Int×Int×Unit)=>[d.1.isSome=true,aO (U.rd (U.ro d.1)) a.1,aO (U.rd (U.ro d.1)) a.2.1]) d.2.1/\vu (jfM d) d.2.1/\True)/\∀(r:(List Int×Unit)×Unit),r.1.1=kZ (jfM d) d.2.1->r.1=(wj (U.rd (U.ro d.1)) d.2.1,())
theorem lK:(Yc (Kq 9 [(224,qn)] [] [(223,qK)] []) (fun _=>none) (hkC (Kq 9 [(224,qn)] [] [(223,qK)] []) (fun _=>none) Yg [8] [(222,20,qP)]) Tryz.f209 (wS Tryz.f209) cz)=cA:=by kernel_rfl
def tw:wL:=⟨[.val .int,.ref (.ptr tRo),.ref .int],[.bool],false,fun d=>[d.2.1.isSome=true,QH (U.rd (U.ro d.2.1)),aO (U.rd (U.ro d.2.1)) d.1,aO (U.rd (U.ro d.2.1)) d.2.2.1],fun d=>(decide (bR (U.rd (U.ro d.2.1)) d.2.2.1 d.1<0),())⟩
def tz:Prop:=∀(d:Int×Option RoD×Int×Unit),d.2.1.isSome=true->QH (U.rd (U.ro d.2.1))->aO (U.rd (U.ro d.2.1)) d.1->aO (U.rd (U.ro d.2.1)) d.2.2.1->d.2.1.isSome=true/\QH (U.rd (U.ro d.2.1))/\aO (U.rd (U.ro d.2.1)) d.2.2.1/\aO (U.rd (U.ro d.2.1)) d.1/\(decide (bR (U.rd (U.ro d.2.1)) d.2.2.1 d.1<0),())=(decide (bR (U.rd (U.ro d.2.1)) d.2.2.1 d.1<0),())
def Ci:wL:=⟨[.val (.ptr tRo),.val .int,.val (.slice .int)],[.bool],false,fun d=>[d.1.isSome=true,Ov (U.ro d.1),QT (U.rd (U.ro d.1)) d.2.1,M4 (U.rd (U.ro d.1)) d.2.2.1],fun d=>(Ka (U.ro d.1) d.2.1 d.2.2.1,())⟩
def Cj:Ann:=fun r=>match r with
 |4=>some fun σ=>{X:=Nat,sl:=fun i=>[(16,.dat .int (i:Int)),(7,.dat .int (ag (U.rd (U.ro (gd (.ptr tRo) σ 0))) (gd (.slice .int) σ 14) i))],ob:=fun _=>[],inv:=fun i=>i<=(gd (.slice .int) σ 14).length/\∀b:Nat,b<i->Hp (U.rd (U.ro (gd (.ptr tRo) σ 0))) (l4 (U.ro (gd (.ptr tRo) σ 0))) (gd .int σ 1) (gd (.slice .int) σ 14) b=true,mu:=fun i=>(gd (.slice .int) σ 14).length-i}
 |_=>none
abbrev jdw (d:Option RoD×Int×List Int×Unit):=(wy ((((0:Int),[],[],()),[],[],(0:Int),(0:Int),[],()),[],[],[],()) d.1)
abbrev jcG (d:Option RoD×Int×List Int×Unit):=(U.rd (U.ro d.1))
abbrev jcv (d:Option RoD×Int×List Int×Unit):=(wj (jcG d) d.2.2.1)
abbrev jdL (d:Option RoD×Int×List Int×Unit)(x:Nat):=(nI (nth (jdw d).2.1 (nth (jcv d) (x:Int).toNat).toNat/(2:Int)^d.2.1.toNat) (1:Int)=0)
abbrev jfh (d:Option RoD×Int×List Int×Unit)(x:Nat):=((nth (jdw d).1.2.2.1 (nth (jcv d) (x:Int).toNat).toNat).2.2.2.1-(nth (jdw d).1.2.2.1 (nth (jcv d) (x:Int).toNat).toNat).2.2.1)
abbrev jdl (d:Option RoD×Int×List Int×Unit):=(↑(jcv d).length:Int)
abbrev jfN (d:Option RoD×Int×List Int×Unit)(x:Nat):=(decide (jdL d x)||(List.take ((jdl d).toNat-((x:Int)+1).toNat) (List.drop ((x:Int)+1).toNat (jcv d))).any (kX fun(a:Int×Unit)=>(decide (bR (jcG d) (nth (jcv d) (x:Int).toNat) a.1<0),())))
def Cm:Prop:=∀(d:Option RoD×Int×List Int×Unit),d.1.isSome=true->Ov (U.ro d.1)->QT (jcG d) d.2.1->M4 (jcG d) d.2.2.1->d.1.isSome=true/\M4 (jcG d) d.2.2.1/\((jcv d).length<4611686018427387904->(∃(x:Nat),((0=(x:Int)/\0=ag (jcG d) (jcv d) x/\True)/\True)/\x<=(jcv d).length/\∀(b:Nat),b<x->Hp (jcG d) (l4 (U.ro d.1)) d.2.1 (jcv d) b=true)/\∀(x:Nat),(x<=(jcv d).length/\∀(b:Nat),b<x->Hp (jcG d) (l4 (U.ro d.1)) d.2.1 (jcv d) b=true)->(decide ((x:Int)<(jdl d))=true->0<=(x:Int)/\(x:Int)<(jdl d)/\d.1.isSome=true/\0<=nth (jcv d) (x:Int).toNat/\nth (jcv d) (x:Int).toNat<(↑(jdw d).1.2.2.1.length:Int)/\d.1.isSome=true/\0<=nth (jcv d) (x:Int).toNat/\nth (jcv d) (x:Int).toNat<(↑(jdw d).1.2.2.1.length:Int)/\wq (jfh d x)/\wq (ag (jcG d) (jcv d) x+(jfh d x))/\d.1.isSome=true/\0<=nth (jcv d) (x:Int).toNat/\nth (jcv d) (x:Int).toNat<(↑(jdw d).2.1.length:Int)/\0<=d.2.1/\d.2.1<=64/\((!decide (jdL d x))=true->wq ((x:Int)+1))/\((!decide (jdL d x))=true->0<=(x:Int)+1)/\((!decide (jdL d x))=true->(x:Int)+1<=(jdl d))/\((!decide (jdL d x))=true->(jdl d)<=(jdl d))/\((!decide (jdL d x))=true->∀(g:Int),g∈List.take ((jdl d).toNat-((x:Int)+1).toNat) (List.drop ((x:Int)+1).toNat (jcv d))->wl [d.1.isSome=true,QH (jcG d),aO (jcG d) g,aO (jcG d) (nth (jcv d) (x:Int).toNat)])/\((jfN d x)=true->(false,())=(Ka (U.ro d.1) d.2.1 d.2.2.1,()))/\((jfN d x)=false->wq ((x:Int)+1)/\∃(a:Nat),(((x:Int)+1=(a:Int)/\ag (jcG d) (jcv d) x+(jfh d x)=ag (jcG d) (jcv d) a/\True)/\True)/\(a<=(jcv d).length/\∀(b:Nat),b<a->Hp (jcG d) (l4 (U.ro d.1)) d.2.1 (jcv d) b=true)/\(jcv d).length-a<(jcv d).length-x))/\(decide ((x:Int)<(jdl d))=false->d.1.isSome=true/\(decide (ag (jcG d) (jcv d) x<=(jdw d).1.q4.1),())=(Ka (U.ro d.1) d.2.1 d.2.2.1,())))
def xm:wL:=⟨[.val (.ptr tRo),.val .int],[.int],false,fun d=>[d.1.isSome=true,(aJ (U.ro d.1)).length<=60],fun d=>(cU (aJ (U.ro d.1)) d.2.1,())⟩
def xn:Ann:=fun r=>match r with
 |2=>some fun σ=>{X:=Nat,sl:=fun i=>[(12,.dat .int (i:Int)),(4,.dat .int (ai (aJ (U.ro (gd (.ptr tRo) σ 0))) (gd .int σ 1) i))],ob:=fun _=>[],inv:=fun i=>i<=(aJ (U.ro (gd (.ptr tRo) σ 0))).length,mu:=fun i=>(aJ (U.ro (gd (.ptr tRo) σ 0))).length-i}
 |_=>none
abbrev jdM (d:Option RoD×Int×Unit):=(wy ((((0:Int),[],[],()),[],[],(0:Int),(0:Int),[],()),[],[],[],()) d.1)
abbrev jcH (d:Option RoD×Int×Unit):=(aJ (U.ro d.1))
def xo:Prop:=∀(d:Option RoD×Int×Unit),d.1.isSome=true->(jcH d).length<=60->d.1.isSome=true/\((jdM d).2.2.1.length<4611686018427387904->(∃(x:Nat),((0=(x:Int)/\0=ai (jcH d) d.2.1 x/\True)/\True)/\x<=(jcH d).length)/\∀(x:Nat),x<=(jcH d).length->(decide ((x:Int)<(jdM d).2.2.1.length)=true->0<=(x:Int)/\(x:Int)<(jdM d).2.2.1.length/\(((nth (jdM d).2.2.1 (x:Int).toNat).any fun(b:Int)=>decide (b=d.2.1))=true->0<=(x:Int)/\(x:Int)<=64/\wq ((1:Int)*2^(x:Int).toNat)/\wq ((x:Int)+1)/\∃(a:Nat),(((x:Int)+1=(a:Int)/\bor (ai (jcH d) d.2.1 x) ((1:Int)*2^(x:Int).toNat)=ai (jcH d) d.2.1 a/\True)/\True)/\a<=(jcH d).length/\(jcH d).length-a<(jcH d).length-x)/\(((nth (jdM d).2.2.1 (x:Int).toNat).any fun(b:Int)=>decide (b=d.2.1))=false->wq ((x:Int)+1)/\∃(a:Nat),((ai (jcH d) d.2.1 x=ai (jcH d) d.2.1 a/\(x:Int)+1=(a:Int)/\True)/\True)/\a<=(jcH d).length/\(jcH d).length-a<(jcH d).length-x))/\(decide ((x:Int)<(jdM d).2.2.1.length)=false->(ai (jcH d) d.2.1 x,())=(cU (jcH d) d.2.1,())))
def xp:wL:=⟨[.val (.ptr tRo),.val .int,.val .int],[.bool],false,fun d=>[d.1.isSome=true,aO (U.rd (U.ro d.1)) d.2.1],fun d=>(Dc (U.rd (U.ro d.1)) d.2.1 d.2.2.1,())⟩
abbrev jd9 (d:Option RoD×Int×Int×Unit):=(wy ((((0:Int),[],[],()),[],[],(0:Int),(0:Int),[],()),[],[],[],()) d.1)
def xq:Prop:=∀(d:Option RoD×Int×Int×Unit),d.1.isSome=true->aO (U.rd (U.ro d.1)) d.2.1->d.1.isSome=true/\d.1.isSome=true/\0<=d.2.1/\d.2.1<(↑(jd9 d).1.2.2.1.length:Int)/\(decide (aI (jd9 d).1.1 (nth (jd9 d).1.2.2.1 d.2.1.toNat).1 d.2.2.1=0)&&decide (ZB (jd9 d).1.1 (nth (jd9 d).1.2.2.1 d.2.1.toNat).1 d.2.2.1=0)&&decide (d.2.2.1≠0),())=(Dc (U.rd (U.ro d.1)) d.2.1 d.2.2.1,())
theorem yz {d:DyD} (h:qc d=true):(wg d).length<=4/\(1<=(wO d).length/\(wO d).length<=5)/\(0<=QE d/\QE d<=300)/\(0<=Zh d/\Zh d<=1440)/\(qV d).length<=30/\
 (∀r∈wO d,bQ (wO d).length r=true)/\(∀b∈wg d,lW (wO d).length b=true)/\∀s∈qV d,lX (wg d).length (we (wi d)).length s=true:=by
 unfold qc at h;simp only[ji,jp,j6] at h;obtain⟨⟨e,f,g,i,j,k,l,m⟩,n,a,c⟩:=h;exact⟨e,⟨f,g⟩,⟨i,j⟩,⟨k,l⟩,m,n,a,c⟩
theorem jbg {d:DyD} {b:Int} (h:aO d b):U.bk d b∈wg d:=by
 unfold U.bk;exact L.wd (by unfold aO at h;omega)
theorem mr {d:DyD} (h:qc d=true) {b:Int} (a:aO d b):(0<=Zg (U.bk d b)/\Zg (U.bk d b)<((wO d).length:Int))/\0<=qR (U.bk d b)/\qR (U.bk d b)<mB (U.bk d b)/\mB (U.bk d b)<=1440:=by
 have:=(yz h).2.2.2.2.2.2.1 _ (jbg a);unfold lW at this;have:=jb this;omega
theorem Ja {d:DyD} (h:qc d=true) {i:Nat} (hi:i<(wO d).length):(nth (wO d) i).length=(wO d).length/\∀j,j<(wO d).length->0<=U.lo (nth (nth (wO d) i) j)/\U.lo (nth (nth (wO d) i) j)<=U.hi (nth (nth (wO d) i) j)/\U.hi (nth (nth (wO d) i) j)<=300:=by
 have:=(yz h).2.2.2.2.2.1 _ (L.wd hi);unfold bQ at this;rw[ji,jp,j6] at this;refine⟨this.1,fun j b=> ?_⟩;have a:=this.2 _ (L.wd (l:=nth (wO d) i) (i:=j) (by omega));unfold sj at a;exact jb a
theorem SR {d:DyD} (h:qc d=true) {a b:Int} (c:aO d a) (e:aO d b):0<=Zi d a b/\Zi d a b<=300:=by
 have f:=(mr h c).1;have g:=(mr h e).1;have:=(Ja h (i:=(Zg (U.bk d a)).toNat) (by omega)).2 (Zg (U.bk d b)).toNat (by omega);unfold Zi;omega
theorem xr:tu:=by
 unfold tu jdk jdc jcU;rintro⟨(_|r),a,b,⟨⟩⟩ h c d e;cases h;obtain⟨c1,c2,c⟩:QH (U.rd r):=c;have d:aO (U.rd r) a:=d;have e:aO (U.rd r) b:=e;have g:=mr c d;have j:=mr c e;have k:=SR c d e;have l:=(yz c).2.2.1;have m:=(Ja c (i:=(Zg (U.bk (U.rd r) a)).toNat) (by omega)).1;have f:(0<=a/\a<((wg (U.rd r)).length:Int))/\0<=b/\b<((wg (U.rd r)).length:Int):=⟨d,e⟩;refine⟨rfl,f.1.1,f.1.2,rfl,f.2.1,f.2.2,?_,rfl,?_,rfl,g.1.1,g.1.2,j.1.1,?_,?_,rfl⟩;show wq (qR (U.bk (U.rd r) b)-mB (U.bk (U.rd r) a));exact iZ6;show wq (qR (U.bk (U.rd r) b)-mB (U.bk (U.rd r) a)-QE (U.rd r));exact iZ6;show Zg (U.bk (U.rd r) b)<((nth (wO (U.rd r)) (Zg (U.bk (U.rd r) a)).toNat).length:Int);omega;show wq (qR (U.bk (U.rd r) b)-mB (U.bk (U.rd r) a)-QE (U.rd r)-Zi (U.rd r) a b);exact iZ6
theorem tA:wU PR 211 tq:=wF xr Tryz.func211 kcN koN
theorem oV:mU:=by
 unfold mU jeC;rintro⟨a,b,(_|r),⟨⟩⟩ e c d;cases e;have c:aO (U.rd r) a:=c;have d:aO (U.rd r) b:=d;exact⟨rfl,c.1,c.2,rfl,d.1,d.2,rfl⟩
theorem mV:wU PR 224 qn:=wF oV Tryz.func224 (kcC yn (kcC bg kcN)) koN
theorem Yy (d:DyD):fq (su d):=by
 have e:su d=QQ (fun a b=>bZ (qR (U.bk d a)) (qR (U.bk d b))) bZ:=by
  funext a b;unfold su;rw[wY,q9];rfl
 rw[e];exact oK (nz lz (fun a=>qR (U.bk d a))) lz
theorem SS {d:DyD} {a b:Int} (h:su d a b=0):a=b:=by
 unfold su at h;rw[wY] at h
 split at h
 contradiction;rw[q9] at h;exact am.1 h
theorem SU (d:DyD) (a b:Int):decide (su d a b<0)=cD d a b:=by
 unfold su cD;rw[wY,q9];refine decide_eq_decide.2 ?_;by_cases c:qR (U.bk d a)<qR (U.bk d b);have e:bZ (qR (U.bk d a)) (qR (U.bk d b))= -1:=(by unfold bZ;rw[jh c]);rw[e];simp;omega;by_cases f:qR (U.bk d b)<qR (U.bk d a);have e:bZ (qR (U.bk d a)) (qR (U.bk d b))=1:=(by unfold bZ;rw[jc c,jh f]);rw[e];simp;omega;have e:bZ (qR (U.bk d a)) (qR (U.bk d b))=0:=(by unfold bZ;rw[jc c,jc f]);rw[e];unfold bZ;simp only[ne_eq,not_true_eq_false,if_false]
 split<;>(try split)<;>omega
theorem jce (d:DyD) (l:List Int):vu (cD d) l:=by
 have:=Am (t:= .int) (Yy d) (l:=l) (fun _ _ _ _ h=>SS h);have e:(k8 .int fun(x:Int×Int×Unit)=>(su d x.1 x.2.1,()))=cD d:=by
  funext a b;exact SU d a b
 rw[e] at this;exact this
theorem ltK (d:DyD):(bj fun(x:Int×Int×Unit)=>(su d x.1 x.2.1,()))=cD d:=by
 funext a b;exact SU d a b
theorem tB:cA:=by
 unfold cA jfM;rintro⟨(_|r),l,⟨⟩⟩ c f;cases c;obtain⟨d,b⟩:M4 (U.rd r) l:=f;refine⟨⟨d,fun x g y h=>⟨rfl,b x g,b y h,tZ⟩,?_,tZ⟩,fun q a=> ?_⟩;have e:=ltK (U.rd r);show vu (bj fun(x:Int×Int×Unit)=>(su (U.rd r) x.1 x.2.1,())) l;rw[e];exact jce _ l;have e:=ltK (U.rd r);have a:q.1.1=kZ (bj fun(x:Int×Int×Unit)=>(su (U.rd r) x.1 x.2.1,())) l:=a;rw[e] at a;obtain⟨⟨q,⟨⟩⟩,⟨⟩⟩:=q;rw[show q=_ from a];rfl
theorem Jb:(Kq 9 [(224,qn)] [] [(223,qK)] []).ok PR:=Lo ⟨fun _=>mV,tZ⟩ trivial ⟨xj,tZ⟩ trivial
theorem rR:wU PR 209 cz:=
 ZY (body:=wS Tryz.f209) (C:=Kq 9 [(224,qn)] [] [(223,qK)] []) (hk:=hkC (Kq 9 [(224,qn)] [] [(223,qK)] []) (fun _=>none) Yg [8] [(222,20,qP)]) Jb mixed Tryz.func209 (by kernel_rfl) (by kernel_rfl) (by kernel_rfl) (by decide)
  (fun B=>E5 Jb mixed Lj (SQ lJ) B) (lK.mpr tB)
theorem xt:tz:=by
 rintro⟨b,(_|r),a,⟨⟩⟩ c f e d;cases c;exact⟨rfl,f,d,e,rfl⟩
theorem tC:wU PR 210 tw:=wF xt Tryz.func210 (kcC tA kcN) koN
theorem Cn {d:DyD} {s:List Int} {i:Nat} (h:i<s.length):ag d s (i+1)=ag d s i+(mB (U.bk d (nth s i))-qR (U.bk d (nth s i))):=by
 unfold ag M3;rw[L.wG h,zC,jV];rfl
theorem SX {d:DyD} (a:qc d=true) {s:List Int} (c:∀b∈s,aO d b):∀i,i<=s.length->0<=ag d s i/\ag d s i<=1440*(i:Int)
 |0,_=>⟨kg _,kg _⟩
 |i+1,hi=>by
  have f:=SX a c i (by omega)
  have e:=mr a (c _ (L.wd (l:=s) (i:=i) (by omega)))
  rw[Cn (by omega)]
  omega
theorem L0 {d:DyD} {l:List Int} {b:Int}:b∈wj d l↔b∈l:=(wQ l).mem_iff
theorem L1 (d:DyD) (l:List Int):(wj d l).length=l.length:=(wQ l).length_eq
theorem DM:Cm:=by
 unfold Cm jfN jdl jfh jdL jcv jcG jdw Prod.q4;rintro⟨(_|r),p,l,⟨⟩⟩ D v q K;cases D;obtain⟨⟨c1,c2,u⟩,v⟩:Ov r:=v;have q:QT (U.rd r) p:=q;obtain⟨z,A⟩:M4 (U.rd r) l:=K;have N:=(qx c1).2.2.1;refine⟨rfl,⟨z,A⟩,fun _=> ?_⟩;obtain⟨s,o⟩:∃s,s=wj (U.rd r) l:=⟨_,rfl⟩;have O:s.length<=12:=(by rw[o,L1];exact z);have k:∀b∈s,aO (U.rd r) b:=fun b d=>A b (by rw[o] at d;exact L0.1 d)
 have t:U.ro (some r)=r:=rfl;simp only[t,<-o];refine⟨⟨0,⟨⟨rfl,rfl,tZ⟩,tZ⟩,jw _,fun b d=>by omega⟩,fun x w=>⟨fun h=> ?_,fun h=> ?_⟩⟩;have h:(x:Int)<s.length:=jb h;have a:x<s.length:=(by omega);have d:=k _ (L.wd a);have H:=mr u d;have M:=SX u k x (by omega);have C:((x:Int)+1).toNat=x+1:=(by omega);have B:(s.drop (x+1)).take (s.length-(x+1))=s.drop (x+1):=zz (by rw[zV];omega);have I:qR (U.bk (U.rd r) (nth s x))=(nth (wg (U.rd r)) (nth s x).toNat).2.2.1:=rfl;simp only[ju,C,B];have n:(nth s x)<((l4 r).length:Int):=(by rw[v];exact d.2);have m:Hp (U.rd r) (l4 r) p s x= !(decide (nI (nth (l4 r) (nth s x).toNat/2^p.toNat) 1=0)||(s.drop (x+1)).any (fun c=>decide (bR (U.rd r) (nth s x) c<0))):=rfl;have j:((s.drop (x+1)).any (kX fun(y:Int×Unit)=>(decide (bR (U.rd r) (nth s x) y.fst<0),())))=(s.drop (x+1)).any (fun c=>decide (bR (U.rd r) (nth s x) c<0)):=rfl;unfold QT at q;refine⟨by omega,h,rfl,d.1,d.2,rfl,d.1,d.2,?_,?_,rfl,d.1,n,q.1,by omega,fun _=>iZ6,fun _=>by omega,fun _=>by omega,fun _=>by omega,fun _ g J=>⟨rfl,⟨c1,c2,u⟩,k g (zZ J),d,tZ⟩,fun f=> ?_,fun f=>⟨iZ6,x+1,⟨⟨by simp,(Cn a).symm,tZ⟩,tZ⟩,⟨by omega,fun b G=> ?_⟩,by omega⟩⟩;show wq (mB (U.bk (U.rd r) (nth s x))-qR (U.bk (U.rd r) (nth s x)));exact iZ6;show wq (ag (U.rd r) s x+(mB (U.bk (U.rd r) (nth s x))-qR (U.bk (U.rd r) (nth s x))));exact iZ6;have f:(decide (nI (nth (l4 r) (nth s x).toNat/2^p.toNat) 1=0)||((s.drop (x+1)).any (kX fun(y:Int×Unit)=>(decide (bR (U.rd r) (nth s x) y.fst<0),()))))=true:=f;have f:Hp (U.rd r) (l4 r) p s x=false:=(by rw[m,<-j,f];rfl);have:Ka r p l=false:=by
  unfold Ka M5 Zk;rw[<-o];have:(List.range s.length).all (Hp (U.rd r) (l4 r) p s)=false:=by
   rw[zQ];exact⟨x,by simpa using a,by rw[f];simp⟩
  rw[this];rfl
 rw[this];by_cases e:b=x;subst e;have f:(decide (nI (nth (l4 r) (nth s b).toNat/2^p.toNat) 1=0)||((s.drop (b+1)).any (kX fun(y:Int×Unit)=>(decide (bR (U.rd r) (nth s b) y.fst<0),()))))=false:=f;rw[m,<-j,f];rfl;exact w.2 b (by omega);have h:¬(x:Int)<s.length:=je h;have a:x=s.length:=(by have:=w.1;omega);refine⟨rfl,?_⟩;have E:(List.range s.length).all (Hp (U.rd r) (l4 r) p s)=true:=by
  rw[j6];intro i hi;exact w.2 i (by rw[a];simpa using hi)
 have F:ag (U.rd r) s x=M3 (U.rd r) s:=by
  unfold ag;rw[a,zz (jk _)]
 rw[F];have:Ka r p l=decide (M3 (U.rd r) s<=Zh (U.rd r)):=by
  unfold Ka M5 Zk;rw[<-o,E,Bool.true_and]
 rw[this];rfl
theorem Co:wU PR 182 Ci:=yi Cj DM Tryz.func182 (kcC rR (kcC tC (kcC yj kcN))) koN
theorem Cq (on:List (List Int)) (b:Int) (n:Nat):ai on b (n+1)=if(nth on n).any (fun x=>decide (x=b))=true then bor (ai on b n) (1*2^n) else ai on b n:=by
 unfold ai;rw[zq,jV];rfl
theorem Cr (n:Nat):(1:Int)*2^n=2^n:=Int.one_mul _
theorem Cs:xo:=by
 unfold xo jcH jdM;rintro⟨(_|r),b,⟨⟩⟩ g d;cases g;have d:(aJ r).length<=60:=d;have c:U.ro (some r)=r:=rfl;refine⟨rfl,fun _=>⟨⟨0,⟨⟨rfl,rfl,tZ⟩,tZ⟩,jw _⟩,fun x f=>⟨fun h=> ?_,fun h=> ?_⟩⟩⟩;have h:(x:Int)<(aJ r).length:=jb h;have e:=Cq (aJ r) b x;have i:BT.vA ((2:Int)^x):=BT.mD (by omega);unfold BT.vA at i;simp only[ju,c];refine⟨by omega,h,fun a=>⟨by omega,by omega,by rw[Cr];exact iZ6,iZ6,x+1,⟨⟨by simp,?_,tZ⟩,tZ⟩,by omega,by omega⟩,fun a=>⟨iZ6,x+1,⟨⟨?_,by simp,tZ⟩,tZ⟩,by omega,by omega⟩⟩;rw[e];have a:((nth (aJ r) x).any fun y=>decide (y=b))=true:=a;rw[jh a];rw[e];have a:((nth (aJ r) x).any fun y=>decide (y=b))=false:=a;rw[jc (by rw[a];simp)];have h:¬(x:Int)<(aJ r).length:=je h;have f:x<=(aJ r).length:=f;rw[show x=(aJ r).length by omega];rfl
theorem f8:wU PR 106 xm:=yi xn Cs Tryz.func106 (kcC cx kcN) koN
theorem Ct:xq:=by
 unfold xq jd9;rintro⟨(_|r),b,t,⟨⟩⟩ c a;cases c;have a:aO (U.rd r) b:=a;exact⟨rfl,rfl,a.1,a.2,rfl⟩
theorem xu:wU PR 107 xp:=wF Ct Tryz.func107 (kcC LJ kcN) koN
theorem oW {l:List ShD} {s:ShD}:s∈w4 l↔s∈l:=by
 have e:w4 l=aN (fun a b=>decide (a=b)) (kZ (k8 tSh fun x=>(cF x.1 x.2.1,())) l):=by
  unfold w4;congr 1
 rw[e,L.comp_mem];exact(wQ l).mem_iff
theorem Jc (l:List ShD):(w4 l).Nodup:=by
 have e:w4 l=aN (fun a b=>decide (a=b)) (kZ (k8 tSh fun x=>(cF x.1 x.2.1,())) l):=by
  unfold w4;congr 1
 rw[e];refine L.asc_nodup (lt:=k8 tSh fun x=>(cF x.1 x.2.1,())) (fun x=> ?_) (L.comp_asc (VL _) (bu (VL l)));exact(VL [x]).irrefl x (kP.2 rfl)
theorem W9 (l:List ShD):∀i,i<=l.length->∀k,wD 0 (wo .int k (yd [] l i))=(((l.take i).countP (fun s=>decide (gu s=k)):Nat):Int)
 |0,_,k=>rfl
 |i+1,hi,k=>by
  have a:=W9 l i (by omega)
  rw[dN (by omega),L.wG (by omega),zM]
  unfold mC
  by_cases e:k=gu (nth l i)
  rw[e]
  rw[M.pf (kt:= .int) (gu (nth l i)) (wD 0 (wo .int (gu (nth l i)) (yd [] l i))+1) (yd [] l i)]
  show wD 0 (wo .int (gu (nth l i)) (yd [] l i))+1=_
  rw[a]
  simp
  rw[M.cW (kt:= .int) (k:=gu (nth l i)) (k':=k) e (wD 0 (wo .int (gu (nth l i)) (yd [] l i))+1) (yd [] l i),a]
  have:decide (gu (nth l i)=k)=false:=za fun h=>e h.symm
  simp[this]
theorem N6 {l:List ShD} {i:Nat} (h:i<l.length):sr [] l i=(l.take i).any (fun s=>decide (gu s=gu (nth l i))):=by
 unfold sr Ou;rw[<-dN h,W9 l (i+1) (by omega),L.wG h,zM];rw[jZ,jp,j9];have b:List.countP (fun s=>decide (gu s=gu (nth l i))) [nth l i]=1:=(by simp);rw[b];constructor;intro a;have:0<(l.take i).countP (fun s=>decide (gu s=gu (nth l i))):=(by omega);rw[List.countP_pos_iff] at this;exact this;intro a;have:0<(l.take i).countP (fun s=>decide (gu s=gu (nth l i))):=List.countP_pos_iff.2 a;omega
theorem Yz (l:List ShD):QS l=false↔(l.map gu).Nodup:=by
 have g:QS l=false↔∀i,i<l.length->sr [] l i=false:=by
  unfold QS;constructor;intro h i hi;cases k:sr [] l i with
  |false=>rfl
  |true=>
   exfalso;have b:(List.range l.length).findIdx? (sr [] l)≠none:=by
    intro f;rw[kr] at f;have:=f i (jC.2 hi);rw[k] at this;cases this
   unfold l3 yE at h;cases d:(List.range l.length).findIdx? (sr [] l) with
   |none=>exact b d
   |some j=>
    rw[d] at h;have h:=je h;exact h (zk j)
  intro h;rw[(Fb h).1];rfl
 rw[g,kM,zP,zy];constructor;intro h i j hi a m e;have:=h j a;rw[N6 a,zj] at this;have c:=this (l[i]) (by rw[ze];exact⟨i,by omega,rfl⟩);rw[L.ql a] at c;simp[e] at c;intro h i hi;rw[N6 hi,zj];intro s b;rw[ze] at b;obtain⟨j,a,rfl⟩:=b;have:=h j i (by omega) hi (by omega);rw[L.ql hi];simpa using this
theorem SY (l:List ShD):QS (w4 l)=false↔∀a∈l,∀b∈l,gu a=gu b->a=b:=by
 rw[Yz];constructor;intro h a c b d e;exact L.nodup_inj h (oW.2 c) (oW.2 d) e;intro h;rw[kM,zP];exact(List.Pairwise.imp_of_mem (fun{a b} c d f e=>f (h a (oW.1 c) b (oW.1 d) e)) (Jc l))
theorem SZ (l:List ShD):aV l=false↔∀a∈l,∀b∈l,gu a=gu b->a=b:=by
 have k:aV l=false↔∀i,i<l.length->∀j,j<i->Da (nth l i) (nth l j)=false:=by
  unfold aV gE Au;rw[zj];constructor;intro h i hi j d;have:=h i (jC.2 hi);rw[ky,zj] at this;have:=this (nth l j) (by rw[ze];exact⟨j,by omega,(L.ql (by omega)).symm⟩);simpa using this;intro h i hi;have hi:=jC.1 hi;rw[ky,zj];intro s g;rw[ze] at g;obtain⟨j,d,rfl⟩:=g;have:=h i hi j (by omega);rw[L.ql (l:=l) (i:=j) (by omega)] at this;simpa using this
 rw[k];have f:∀a b:ShD,Da a b=false↔(gu a=gu b->a=b):=by
  intro a b;unfold Da;rw[kj];simp only[jE,zl,jp];constructor;rintro(h|h) e;exact absurd e h;exact h;intro h;by_cases e:gu a=gu b;exact .inr (h e);exact .inl e
 constructor;intro h a m b n e;obtain⟨i,hi,rfl⟩:=L.mem_iff.1 m;obtain⟨j,d,rfl⟩:=L.mem_iff.1 n;rcases Nat.lt_trichotomy i j with c|rfl|c;exact((f _ _).1 (h j d i c) e.symm).symm;rfl;exact(f _ _).1 (h i hi j c) e;intro h i hi j d;exact(f _ _).2 (h _ (L.wd hi) _ (L.wd (by omega)))
theorem S0 (l:List ShD):QS (w4 l)=aV l:=by
 have:=(SY l).trans (SZ l).symm;cases a:QS (w4 l) with
 |false=>exact(this.1 a).symm
 |true=>
  cases b:aV l with
  |false=>rw[this.2 b] at a;cases a
  |true=>rfl
theorem lL (d:DyD):wR d=ez d:=by
 unfold wR t6 ez;rw[S0]
 split
 rfl
 split
 rfl;rw[jc (by simp)]
abbrev tSt:Ty:= .st [.int,.int]
abbrev jaY:Sh:= .box 168 [.dat .int,.dat (.slice tPe),.dat (.slice tLw),.dat (.slice (.slice tSp)),.dat (.slice tBk),.dat .int,.dat .int,.dat (.slice tSh),.row 3 .int .yes,.row 31 (.slice .int) .no,.row 3 .int .unk]
namespace U
def noI:List Int:=[]
def vU (b:jaY.D):RoD:=(((b.1,b.2.1,b.2.2.1,()),b.2.2.2.1,b.2.2.2.2.1,b.2.2.2.2.2.1,b.2.2.2.2.2.2.1,b.2.2.2.2.2.2.2.1,()),b.2.2.2.2.2.2.2.2.1,b.2.2.2.2.2.2.2.2.2.1,b.2.2.2.2.2.2.2.2.2.2.1,())
def xX (b:jaY.D) (x:List (List Int)×List Int):jaY.D:=(b.1,b.2.1,b.2.2.1,b.2.2.2.1,b.2.2.2.2.1,b.2.2.2.2.2.1,b.2.2.2.2.2.2.1,b.2.2.2.2.2.2.2.1,b.2.2.2.2.2.2.2.2.1,x.1,x.2,())
def d7 (s:ShD):Int×Int×Unit:=(J5 s,nD s,())
def qz (l:List ShD) (n:Nat):List ((Int×Int×Unit)×ShD):=(l.take n).foldl (fun m s=>eB tSt (d7 s) s m) []
def vM (m:List ((Int×Int×Unit)×ShD)) (s:ShD):Bool:= !(!decide (wD (Ty.dflt tSh) (wo tSt (d7 s) m)=s)|| !decide (WD s=1))
def Kb (d:DyD) (cE:List Int) (m:List ((Int×Int×Unit)×ShD)) (x:List (List Int)×List Int) (s:ShD):List (List Int)×List Int:=
 if vM m s=true then(if M5 d cE (nD s) (nth x.1 (nD s).toNat++[J5 s])=true then(x.1.set (nD s).toNat (nth x.1 (nD s).toNat++[J5 s]),x.2) else(x.1,x.2++[gu s])) else x
def jcn (l:List ShD):List ShD:=kZ (k8 tSh fun x=>(wn x.1 x.2.1,())) l
def qM (d:DyD):List ShD:=jcn (w4 (qV d))
def vR (r:RoD) (l:List ShD) (n:Nat):List (List Int)×List Int:=(l.take n).foldl (Kb (rd r) (l4 r) (qz l l.length)) (aJ r,jbC r)
def aP (r:RoD):List (List Int)×List Int:=((vR r (qM (rd r)) (qM (rd r)).length).1,C9 (vR r (qM (rd r)) (qM (rd r)).length).2)
def Zl (l:List (List Int)):Prop:=∀x∈l,x=noI
def WH (r:RoD):Prop:=(wR (rd r)=0/\(l4 r).length=(wg (rd r)).length)/\((aJ r).length=(we (wi (rd r))).length/\Zl (aJ r))/\jbC r=noI
def cG (r:RoD) (l:List ShD) (n:Nat) (x:List (List Int)×List Int):Prop:=x.1.length=(we (wi (rd r))).length/\x.2.length<=n/\∀p:Nat,(nth x.1 p).Nodup/\∀b∈nth x.1 p,aO (rd r) b/\∃i:Nat,i<n/\d7 (nth l i)=(b,(p:Int),())/\wD (Ty.dflt tSh) (wo tSt (d7 (nth l i)) (qz l l.length))=nth l i
end U
def bx (σ:St) (o:Nat):List SV:=match σ.obj o with|some (.box _ _ cs)=>cs|_=>[]
def gb (t:Ty) (σ:St) (o:Nat):t.Data:=match yl σ t (bx σ o) with|some (x,_)=>x|none=>t.dflt
abbrev DN:qB:=Sl 3
def tD:qB:=⟨[.own jaY true],[],fun d=>[WH (vU d.1)],fun d=>((),(xX d.1 (aP (vU d.1)),()))⟩
def tE:Ann:=fun r=>match r with
 |4=>some fun σ=>{X:=Nat,sl:=fun i=>[(20,.dat .int (i:Int))],ob:=fun i=>[(9,some (.map false tSt tSh (qz (gr tSh σ 3) i)))],inv:=fun i=>i<=(gr tSh σ 3).length,mu:=fun i=>(gr tSh σ 3).length-i}
 |9=>some fun σ=>{X:=Nat,sl:=fun i=>[(34,.dat .int (i:Int))],ob:=fun i=>[(400009,some (.row 31 (.slice .int) false .no (vR (gb tRo σ 1000000) (gr tSh σ 3) i).1)),(400010,some (.row 3 .int false .unk (vR (gb tRo σ 1000000) (gr tSh σ 3) i).2))],inv:=fun i=>i<=(gr tSh σ 3).length/\cG (gb tRo σ 1000000) (gr tSh σ 3) i (vR (gb tRo σ 1000000) (gr tSh σ 3) i),mu:=fun i=>(gr tSh σ 3).length-i}
 |_=>none
abbrev jcA (d:(Int×List PeD×List LwD×List (List (Int×Int×Unit))×List BkD×Int×Int×List ShD×List Int×List (List Int)×List Int×Unit)×Unit):=(((d.1.1,d.1.2.1,d.1.2.2.1,()),d.1.2.2.2.1,d.1.q4.1,d.1.q4.2.1,d.1.q4.2.2.1,d.1.q4.2.2.2.1,()),d.1.q4.q4)
abbrev jeD:=(Ty.int.pair (Ty.int.pair Ty.unit))
abbrev jfO:=(k8 (Ty.int.pair (Ty.int.pair (Ty.int.pair jeD))) fun(a:ShD×ShD×Unit)=>(wn a.1 a.2.1,()))
abbrev jcp (d:(Int×List PeD×List LwD×List (List (Int×Int×Unit))×List BkD×Int×Int×List ShD×List Int×List (List Int)×List Int×Unit)×Unit):=(kZ jfO (w4 d.1.q4.2.2.2.1))
abbrev jct (d:(Int×List PeD×List LwD×List (List (Int×Int×Unit))×List BkD×Int×Int×List ShD×List Int×List (List Int)×List Int×Unit)×Unit)(a:Nat):=(nth (jcp d) (a:Int).toNat)
abbrev jcw (d:(Int×List PeD×List LwD×List (List (Int×Int×Unit))×List BkD×Int×Int×List ShD×List Int×List (List Int)×List Int×Unit)×Unit)(a:Nat):=(vR (jcA d) (jcp d) a)
abbrev jdN (d:(Int×List PeD×List LwD×List (List (Int×Int×Unit))×List BkD×Int×Int×List ShD×List Int×List (List Int)×List Int×Unit)×Unit)(a:Nat):=(some (((d.1.1,d.1.2.1,d.1.2.2.1,()),d.1.2.2.2.1,d.1.q4.1,d.1.q4.2.1,d.1.q4.2.2.1,d.1.q4.2.2.2.1,()),d.1.q4.q4.1,(jcw d a).1,(jcw d a).2,()))
abbrev jfP:=((0:Int),(0:Int),(0:Int),(0:Int),(0:Int),())
def tF:Prop:=∀(d:(Int×List PeD×List LwD×List (List (Int×Int×Unit))×List BkD×Int×Int×List ShD×List Int×List (List Int)×List Int×Unit)×Unit),WH (vU d.1)->d.1.q4.2.2.2.1.length<=100000/\(∀(c:ShD),c∈w4 d.1.q4.2.2.2.1->∀(y:ShD),y∈w4 d.1.q4.2.2.2.1->wl [])/\vu jfO (w4 d.1.q4.2.2.2.1)/\((jcp d).length<4611686018427387904->(∃(x:Nat),((0=(x:Int)/\True)/\[]=qz (jcp d) x/\True)/\x<=(jcp d).length)/\∀(x:Nat),x<=(jcp d).length->(decide ((x:Int)<(jcp d).length)=true->0<=(x:Int)/\(x:Int)<(jcp d).length/\wq ((x:Int)+1)/\∃(b:Nat),(((x:Int)+1=(b:Int)/\True)/\eB jeD (nth (jcp d) (x:Int).toNat).2.2.2 (nth (jcp d) (x:Int).toNat) (qz (jcp d) x)=qz (jcp d) b/\True)/\b<=(jcp d).length/\(jcp d).length-b<(jcp d).length-x)/\(decide ((x:Int)<(jcp d).length)=false->(jcp d).length<4611686018427387904->(∃(x:Nat),((0=(x:Int)/\True)/\d.1.q4.q4.2.1=(vR (jcA d) (jcp d) x).1/\d.1.q4.q4.2.2.1=(vR (jcA d) (jcp d) x).2/\True)/\x<=(jcp d).length/\cG (jcA d) (jcp d) x (vR (jcA d) (jcp d) x))/\∀(a:Nat),a<=(jcp d).length/\cG (jcA d) (jcp d) a (jcw d a)->(decide ((a:Int)<(jcp d).length)=true->0<=(a:Int)/\(a:Int)<(jcp d).length/\((!decide (wD jfP (wo jeD (jct d a).2.2.2 (qz (jcp d) x))=nth (jcp d) (a:Int).toNat)||decide ((jct d a).2.2.1≠1))=true->wq ((a:Int)+1)/\∃(b:Nat),(((a:Int)+1=(b:Int)/\True)/\(jcw d a).2=(vR (jcA d) (jcp d) b).2/\(jcw d a).1=(vR (jcA d) (jcp d) b).1/\True)/\(b<=(jcp d).length/\cG (jcA d) (jcp d) b (vR (jcA d) (jcp d) b))/\(jcp d).length-b<(jcp d).length-a)/\((!decide (wD jfP (wo jeD (jct d a).2.2.2 (qz (jcp d) x))=nth (jcp d) (a:Int).toNat)||decide ((jct d a).2.2.1≠1))=false->(0:Int)<=(jct d a).q4.1/\(jct d a).q4.1<(↑(jcw d a).1.length:Int)/\(0:Int)<=(jct d a).q4.1/\(jct d a).q4.1<(↑(jcw d a).1.length:Int)/\(0:Int)<=(jct d a).q4.1/\(jct d a).q4.1<(↑(jcw d a).1.length:Int)/\(↑(nth (jcw d a).1 (jct d a).q4.1.toNat).length:Int)=(nth (jcw d a).1 (jct d a).q4.1.toNat).length/\(↑(nth (jcw d a).1 (jct d a).q4.1.toNat).length:Int)=(nth (jcw d a).1 (jct d a).q4.1.toNat).length/\((nth (jcw d a).1 (jct d a).q4.1.toNat).length+[(jct d a).2.2.2.1].length)*8<=140737488355328/\(jdN d a).isSome=true/\Ov (U.ro (jdN d a))/\QT (U.rd (U.ro (jdN d a))) (jct d a).q4.1/\M4 (U.rd (U.ro (jdN d a))) (nth (jcw d a).1 (jct d a).q4.1.toNat++[(jct d a).2.2.2.1])/\(Ka (U.ro (jdN d a)) (jct d a).q4.1 (nth (jcw d a).1 (jct d a).q4.1.toNat++[(jct d a).2.2.2.1])=true->(0:Int)<=(jct d a).q4.1/\(jct d a).q4.1<(↑(jcw d a).1.length:Int)/\wq ((a:Int)+1)/\∃(b:Nat),(((a:Int)+1=(b:Int)/\True)/\(jcw d a).2=(vR (jcA d) (jcp d) b).2/\(jcw d a).1.set (jct d a).q4.1.toNat (nth (jcw d a).1 (jct d a).q4.1.toNat++[(jct d a).2.2.2.1])=(vR (jcA d) (jcp d) b).1/\True)/\(b<=(jcp d).length/\cG (jcA d) (jcp d) b (vR (jcA d) (jcp d) b))/\(jcp d).length-b<(jcp d).length-a)/\(Ka (U.ro (jdN d a)) (jct d a).q4.1 (nth (jcw d a).1 (jct d a).q4.1.toNat++[(jct d a).2.2.2.1])=false->((jcw d a).2.length+[(jct d a).1].length)*8<=140737488355328/\wq ((a:Int)+1)/\∃(b:Nat),(((a:Int)+1=(b:Int)/\True)/\(jcw d a).1=(vR (jcA d) (jcp d) b).1/\(d.1.1=d.1.1/\d.1.2.1=d.1.2.1/\d.1.2.2.1=d.1.2.2.1/\d.1.2.2.2.1=d.1.2.2.2.1/\d.1.q4.1=d.1.q4.1/\d.1.q4.2.1=d.1.q4.2.1/\d.1.q4.2.2.1=d.1.q4.2.2.1/\d.1.q4.2.2.2.1=d.1.q4.2.2.2.1/\True/\True/\True/\True)/\(jcw d a).2++[(jct d a).1]=(vR (jcA d) (jcp d) b).2/\True)/\(b<=(jcp d).length/\cG (jcA d) (jcp d) b (vR (jcA d) (jcp d) b))/\(jcp d).length-b<(jcp d).length-a)))/\(decide ((a:Int)<(jcp d).length)=false->()=()/\((d.1.1,d.1.2.1,d.1.2.2.1,d.1.2.2.2.1,d.1.q4.1,d.1.q4.2.1,d.1.q4.2.2.1,d.1.q4.2.2.2.1,d.1.q4.q4.1,(jcw d a).1,C9 (jcw d a).2,()),())=(xX d.1 (aP (vU d.1)),()))))
theorem yO {d:DyD} (h:wR d=0):QH d/\∀a∈qV d,∀b∈qV d,gu a=gu b->a=b:=by
 unfold wR t6 at h;cases c:wz (wi d) with
 |false=>rw[c] at h;simp at h
 |true=>
  cases e:J6 d with
  |false=>rw[c,e] at h;simp at h
  |true=>
   cases f:qc d with
   |false=>rw[c,e,f] at h;simp at h
   |true=>
    cases g:QS (w4 (qV d)) with
    |true=>rw[c,e,f,g] at h;simp at h
    |false=>exact⟨⟨c,e,f⟩,(SY _).1 g⟩
theorem YA:fq wn:=by
 have e:wn=QQ (fun a b=>bZ (Hu a) (Hu b)) (fun a b=>bZ (gu a) (gu b)):=by
  funext a b;unfold wn;rw[wY,q9];rfl
 rw[e];exact oK (nz lz Hu) (nz lz gu)
theorem S1 {a b:ShD} (h:wn a b=0):gu a=gu b:=by
 unfold wn at h;rw[wY,q9] at h
 split at h
 contradiction;exact am.1 h
theorem jbR {d:DyD} (h:wR d=0):vu (k8 tSh fun x=>(wn x.1 x.2.1,())) (w4 (qV d)):=
 Am YA (fun a b e f c=>(yO h).2 a (oW.1 e) b (oW.1 f) (S1 c))
theorem fI {d:DyD} {s:ShD}:s∈qM d↔s∈qV d:=((wQ _).mem_iff).trans oW
theorem dU (d:DyD):(qM d).Nodup:=(wQ _).nodup_iff.2 (Jc _)
theorem YC (d:DyD):(qM d).length<=(qV d).length:=by
 unfold qM jcn;rw[(wQ _).length_eq];exact SM _
theorem An {d:DyD} (h:qc d=true) {s:ShD} (a:s∈qV d):(0<=nD s/\nD s<((we (wi d)).length:Int))/\aO d (J5 s):=by
 have:=(yz h).2.2.2.2.2.2.2 _ a;unfold lX at this;have:=jb this;unfold aO;omega
theorem Cu {l:List ShD} {i:Nat} (h:i<l.length):qz l (i+1)=eB tSt (d7 (nth l i)) (nth l i) (qz l i):=by
 unfold qz;rw[L.wG h,jV];rfl
theorem rS {r:RoD} {l:List ShD} {i:Nat} (h:i<l.length):vR r l (i+1)=Kb (U.rd r) (l4 r) (qz l l.length) (vR r l i) (nth l i):=by
 unfold vR;rw[L.wG h,jV];rfl
theorem jbh {d:DyD} {l:List Int} (c:l.Nodup) (a:∀b∈l,aO d b):l.length<=(wg d).length:=by
 have:=L.nodup_len l ((List.range (wg d).length).map (fun(b:Nat)=>(b:Int))) c (fun x e=>by
  have:=a x e;unfold aO at this;exact jT.2 ⟨x.toNat,jC.2 (by omega),by omega⟩)
 simpa using this
section
variable {r:RoD} {l:List ShD} {i:Nat}
theorem S2 (t:qc (U.rd r)=true) (u:∀s∈l,s∈qV (U.rd r)) (nd:l.Nodup) (h:i<l.length) {x:List (List Int)×List Int} (w:cG (U.rd r,l4 r,aJ r,jbC r,()) l i x)
 (g:vM (qz l l.length) (nth l i)=true):(nth x.1 (nD (nth l i)).toNat++[J5 (nth l i)]).Nodup/\(∀b∈nth x.1 (nD (nth l i)).toNat++[J5 (nth l i)],aO (U.rd r) b)/\
  ∀b∈nth x.1 (nD (nth l i)).toNat++[J5 (nth l i)],∃j:Nat,j<i+1/\d7 (nth l j)=(b,((nD (nth l i)).toNat:Int),())/\wD (Ty.dflt tSh) (wo tSt (d7 (nth l j)) (qz l l.length))=nth l j:=by
 obtain⟨z,A,p⟩:=w;have v:=An t (u _ (L.wd h));have d:wD (Ty.dflt tSh) (wo tSt (d7 (nth l i)) (qz l l.length))=nth l i:=by
  unfold vM at g;simp only[jO,jN,zl,jp] at g;exact g.1
 have n:((nD (nth l i)).toNat:Int)=nD (nth l i):=(by omega);obtain⟨y,k⟩:=p (nD (nth l i)).toNat;refine⟨?_,fun b c=> ?_,fun b c=> ?_⟩;refine zB.2 ⟨y,by simp,fun a q b c e=> ?_⟩;simp at c;subst c;subst e;obtain⟨_,j,m,f,e2⟩:=k _ q;rw[n] at f;have o:d7 (nth l j)=d7 (nth l i):=f;rw[o,d] at e2;have:=(kM.1 nd);rw[zy] at this;refine this j i (by omega) h m ?_;rw[<-L.ql,<-L.ql h];exact e2.symm;rcases js.1 c with c|c;exact(k b c).1;simp at c;subst c;exact v.2;rcases js.1 c with c|c;obtain⟨_,j,m,f,e2⟩:=k b c;exact⟨j,by omega,f,e2⟩;simp at c;subst c;exact⟨i,by omega,by rw[n];rfl,d⟩
theorem S3 {r:RoD} {x:List (List Int)×List Int} (a:cG r l i x):cG r l (i+1) x:=
 ⟨a.1,by have:=a.2.1;omega,fun p=>⟨(a.2.2 p).1,fun b c=>⟨((a.2.2 p).2 b c).1,by
  obtain⟨j,d,e⟩:=((a.2.2 p).2 b c).2
  exact⟨j,by omega,e⟩⟩⟩⟩
theorem Xa (g:qc (U.rd r)=true) (j:∀s∈l,s∈qV (U.rd r)) (nd:l.Nodup) (h:i<l.length) {x:List (List Int)×List Int} (a:cG r l i x):
 cG r l (i+1) (Kb (U.rd r) (l4 r) (qz l l.length) x (nth l i)):=by
 unfold Kb;cases k:vM (qz l l.length) (nth l i) with
 |false=>rw[jc (by simp)];exact S3 a
 |true=>
  rw[jh rfl];have d:=S2 g j nd h a k;have m:=An g (j _ (L.wd h))
  split
  refine⟨by show(x.1.set _ _).length=_;rw[kc];exact a.1,by have:=a.2.1;show x.2.length<=_;omega,fun p=> ?_⟩;have c:(nD (nth l i)).toNat<x.1.length:=(by rw[a.1];omega);show(nth (x.1.set (nD (nth l i)).toNat (nth x.1 (nD (nth l i)).toNat++[J5 (nth l i)])) p).Nodup/\_;rw[L.gL c]
  split
  rename_i e;subst e;exact⟨d.1,fun b f=>⟨d.2.1 b f,d.2.2 b f⟩⟩;exact(S3 a).2.2 p;refine⟨a.1,?_,(S3 a).2.2⟩;have:=a.2.1;show(x.2++[gu (nth l i)]).length<=_;rw[jL];simp;omega
end
theorem N7 {l:List (List Int)} (h:Zl l) (p:Nat):nth l p=[]:=by
 by_cases a:p<l.length;exact h _ (L.wd a);unfold nth;rw[j8,List.getElem?_eq_none (by omega)];rfl
theorem S4 {r:RoD} {l:List ShD} (a:(aJ r).length=(we (wi (U.rd r))).length) (c:Zl (aJ r)) (d:jbC r=U.noI):cG r l 0 (vR r l 0):=by
 refine⟨a,?_,fun p=> ?_⟩;show(jbC r).length<=0;rw[d];exact jk 0;have e:nth (vR r l 0).1 p=[]:=N7 c p;rw[e];exact⟨kT,fun b f=>by cases f⟩
theorem Z7 (m:List ((Int×Int×Unit)×ShD)) (s:ShD):vM m s= !(!decide (wD (Ty.dflt tSh) (wo tSt (d7 s) m)=s)||decide (WD s≠1)):=by
 unfold vM;by_cases h:WD s=1<;>simp[h]
section
variable {r:RoD} {l:List ShD} {i:Nat}
theorem N8 (h:i<l.length) (a:vM (qz l l.length) (nth l i)=false):vR r l (i+1)=vR r l i:=by
 rw[rS h];unfold Kb;rw[a,jc (by simp)]
theorem S5 (h:i<l.length) (a:vM (qz l l.length) (nth l i)=true) (b:M5 (U.rd r) (l4 r) (nD (nth l i)) (nth (vR r l i).1 (nD (nth l i)).toNat++[J5 (nth l i)])=true):
 vR r l (i+1)=((vR r l i).1.set (nD (nth l i)).toNat (nth (vR r l i).1 (nD (nth l i)).toNat++[J5 (nth l i)]),(vR r l i).2):=by
 rw[rS h];unfold Kb;rw[a,jh rfl,jh b]
theorem Xb (h:i<l.length) (a:vM (qz l l.length) (nth l i)=true) (b:M5 (U.rd r) (l4 r) (nD (nth l i)) (nth (vR r l i).1 (nD (nth l i)).toNat++[J5 (nth l i)])=false):
 vR r l (i+1)=((vR r l i).1,(vR r l i).2++[gu (nth l i)]):=by
 rw[rS h];unfold Kb;rw[a,jh rfl,b,jc (by simp)]
end
theorem xv:tF:=by
 unfold tF jfP jdN jcw jct jcp jfO jeD jcA Prod.q4;rintro⟨b,⟨⟩⟩ J;obtain⟨⟨hk,N⟩,⟨O,B⟩,C⟩:WH (vU b):=J;have F:=(yO hk).1;have u:=F.2.2;have v:(qV (U.rd (vU b))).length<=30:=(yz u).2.2.2.2.1;have H:b.2.2.2.2.2.2.2.1.length<=30:=v;have M:(qM (U.rd (vU b))).length<=30:=jD (YC _) v;have g:∀s∈qM (U.rd (vU b)),s∈qV (U.rd (vU b)):=fun s D=>fI.1 D
 have w:=dU (U.rd (vU b));have K:(wg (U.rd (vU b))).length<=4:=(yz u).1;refine⟨by show b.2.2.2.2.2.2.2.1.length<=100000;omega,fun _ _ _ _=>tZ,jbR hk,fun _=>⟨⟨0,⟨⟨rfl,tZ⟩,rfl,tZ⟩,jw _⟩,fun x I=>⟨fun h=> ?_,fun h _=>⟨⟨0,⟨⟨rfl,tZ⟩,rfl,rfl,tZ⟩,jw _,S4 (r:=vU b) O B C⟩,fun y n=>⟨fun t=> ?_,fun t=> ?_⟩⟩⟩⟩⟩;have h:(x:Int)<(qM (U.rd (vU b))).length:=jb h;have D:=Cu (l:=qM (U.rd (vU b))) (i:=x) (by omega);exact⟨by omega,h,iZ6,x+1,⟨⟨by simp,tZ⟩,D.symm,tZ⟩,by show x+1<=(qM (U.rd (vU b))).length;omega,by show(qM (U.rd (vU b))).length-(x+1)<(qM (U.rd (vU b))).length-x;omega⟩;have I:x<=(qM (U.rd (vU b))).length:=I;have h:¬(x:Int)<(qM (U.rd (vU b))).length:=je h;have E:x=(qM (U.rd (vU b))).length:=(by omega);have t:(y:Int)<(qM (U.rd (vU b))).length:=jb t;have a:y<(qM (U.rd (vU b))).length:=(by omega);obtain⟨_,e⟩:y<=(qM (U.rd (vU b))).length/\cG (vU b) (qM (U.rd (vU b))) y (vR (vU b) (qM (U.rd (vU b))) y):=n;have c:=Xa (r:=vU b) u g w a e;rw[<-rS a] at c;have up:y+1<=(qM (U.rd (vU b))).length:=a;have A:(qM (U.rd (vU b))).length-(y+1)<(qM (U.rd (vU b))).length-y:=(by omega);have q:=An u (g _ (L.wd a));have o:=Z7 (qz (qM (U.rd (vU b))) (qM (U.rd (vU b))).length) (nth (qM (U.rd (vU b))) y);subst E;refine⟨by omega,t,fun p=> ?_,fun p=> ?_⟩;have f:vM (qz (qM (U.rd (vU b))) (qM (U.rd (vU b))).length) (nth (qM (U.rd (vU b))) y)=false:=by
  rw[o];have p:(!decide (wD (Ty.dflt tSh) (wo tSt (d7 (nth (qM (U.rd (vU b))) y)) (qz (qM (U.rd (vU b))) (qM (U.rd (vU b))).length))=nth (qM (U.rd (vU b))) y)||decide (WD (nth (qM (U.rd (vU b))) y)≠1))=true:=p;rw[p];rfl
 have d:=N8 (r:=vU b) a f;exact⟨iZ6,y+1,⟨⟨by simp,tZ⟩,jS (·.2) d.symm,jS (·.1) d.symm,tZ⟩,⟨up,c⟩,A⟩;have f:vM (qz (qM (U.rd (vU b))) (qM (U.rd (vU b))).length) (nth (qM (U.rd (vU b))) y)=true:=by
  rw[o];have p:(!decide (wD (Ty.dflt tSh) (wo tSt (d7 (nth (qM (U.rd (vU b))) y)) (qz (qM (U.rd (vU b))) (qM (U.rd (vU b))).length))=nth (qM (U.rd (vU b))) y)||decide (WD (nth (qM (U.rd (vU b))) y)≠1))=false:=p;rw[p];rfl
 have j:=S2 (r:=vU b) u g w a e f;have z:=jbh j.1 j.2.1;have G:(nth (vR (vU b) (qM (U.rd (vU b))) y).1 (nD (nth (qM (U.rd (vU b))) y)).toNat).length<=4:=by
  rw[jL] at z;omega
 have k:0<=nD (nth (qM (U.rd (vU b))) y):=q.1.1;have m:nD (nth (qM (U.rd (vU b))) y)<((vR (vU b) (qM (U.rd (vU b))) y).1.length:Int):=(by rw[e.1];exact q.1.2);have P:=e.2.1;refine⟨k,m,k,m,k,m,rfl,rfl,?_,rfl,⟨F,N⟩,q.1,⟨jD z (by omega),j.2.1⟩,fun n=> ?_,fun n=> ?_⟩;show((nth (vR (vU b) (qM (U.rd (vU b))) y).1 (nD (nth (qM (U.rd (vU b))) y)).toNat).length+1)*8<=140737488355328;omega;have d:=S5 (r:=vU b) a f n;exact⟨k,m,iZ6,y+1,⟨⟨by simp,tZ⟩,jS (·.2) d.symm,jS (·.1) d.symm,tZ⟩,⟨up,c⟩,A⟩;have d:=Xb (r:=vU b) a f n;refine⟨?_,iZ6,y+1,⟨⟨by simp,tZ⟩,jS (·.1) d.symm,⟨rfl,rfl,rfl,rfl,rfl,rfl,rfl,rfl,tZ,tZ,tZ,tZ⟩,jS (·.2) d.symm,tZ⟩,⟨up,c⟩,A⟩;show((vR (vU b) (qM (U.rd (vU b))) y).2.length+1)*8<=140737488355328;omega;have t:¬(y:Int)<(qM (U.rd (vU b))).length:=je t;have n:=n.1;have n:y<=(qM (U.rd (vU b))).length:=n;have a:y=(qM (U.rd (vU b))).length:=(by omega);subst a;exact⟨rfl,rfl⟩
theorem DO:gq PR 183 DN:=Vr Tryz.sortI 3 (q8 Tryz.func183 (c:=wS Tryz.f183) (by kernel_rfl) (by kernel_rfl))
theorem tG:gq PR 143 tD:=uz tE xv Tryz.func143 (kcC LU (kcC Co kcN)) (koC rL (koC aT (koC DO koN)))
end Go.X
namespace Go.X
open U
open Go.Proofs
namespace U
def ij (l:List Int) (n:Nat):Int:=(l.take n).foldl (fun s p=>bor s (1*2^p.toNat)) 0
def Ow (l:List Int):Int:=ij l l.length
def vN (d:DyD) (n:Nat):List Int:=((wg d).take n).map (fun b=>Ow (cE (wi d) (y9 b)))
def ZC (d:DyD):List (List Int):=List.replicate (we (wi d)).length noI
def Kt (d:DyD):RoD:=(d,vN d (wg d).length,ZC d,noI,())
def QU (d:DyD):RoD:=(d,vN d (wg d).length,(aP (Kt d)).1,(aP (Kt d)).2,())
def sB (d:DyD):Option RoD:=if wR d=0 then some (QU d) else none
end U
def Jd:qB:=⟨[.val tDy,.nil true],[.cl (.dat (.ptr tRo)),.cl (.dat .int)],fun d=>[(qV d.1).length<=100000],fun d=>((sB d.1,wR d.1,()),())⟩
def S6:Ann:=fun r=>match r with
 |8=>some fun σ=>{X:=Nat,sl:=fun i=>[(39,.dat .int (i:Int))],ob:=fun i=>[(27,some (.box 168 false (((bx σ 27).set 8 (.own (nM 27 8) .int)).set 10 (.own (nM 27 10) .int)))),(nM 27 10,some (.row 3 .int false .yes U.noI)),(nM 27 8,some (.row 3 .int false .yes (vN (gb tDy σ 2) i)))],inv:=fun i=>i<=(wg (gb tDy σ 2)).length,mu:=fun i=>(wg (gb tDy σ 2)).length-i}
 |13=>some fun σ=>{X:=Nat,sl:=fun i=>[(53,.dat .int (i:Int)),(12,.dat .int (ij (gd (.slice .int) σ 51) i))],ob:=fun _=>[],inv:=fun i=>i<=(gd (.slice .int) σ 51).length,mu:=fun i=>(gd (.slice .int) σ 51).length-i}
 |3000005=>some fun _=>{X:=Unit,sl:=fun _=>[],ob:=fun _=>[],inv:=fun _=>True,mu:=fun _=>0}
 |_=>none
abbrev jcB (d:DyD×Unit×Unit)(x:Nat):=(cE d.1.1 (nth d.1.2.2.1 (x:Int).toNat).1)
abbrev jfQ (d:DyD×Unit×Unit):=(d.1.1.1=d.1.1.1/\d.1.1.2.1=d.1.1.2.1/\d.1.1.2.2.1=d.1.1.2.2.1/\d.1.2.1=d.1.2.1/\d.1.2.2.1=d.1.2.2.1/\d.1.2.2.2.1=d.1.2.2.2.1/\d.1.q4.1=d.1.q4.1/\d.1.q4.2.1=d.1.q4.2.1/\True/\True/\True/\True)
abbrev jdO (d:DyD×Unit×Unit):=(d.1.1.2.1.length:Int)
abbrev jfR (d:DyD×Unit×Unit)(x:Nat):=(vU (d.1.1.1,d.1.1.2.1,d.1.1.2.2.1,d.1.2.1,d.1.2.2.1,d.1.2.2.2.1,d.1.q4.1,d.1.q4.2.1,vN d.1 x,List.replicate (jdO d).toNat [],U.noI,()))
abbrev jcV (d:DyD×Unit×Unit)(x:Nat):=(xX (d.1.1.1,d.1.1.2.1,d.1.1.2.2.1,d.1.2.1,d.1.2.2.1,d.1.2.2.2.1,d.1.q4.1,d.1.q4.2.1,vN d.1 x,List.replicate (jdO d).toNat [],U.noI,()) (aP (jfR d x)))
def Je:Prop:=∀(d:DyD×Unit×Unit),(qV d.1).length<=100000->(qV d.1).length<=100000/\(decide (wR d.1≠0)=true->(none,wR d.1,())=(sB d.1,wR d.1,())/\()=())/\(decide (wR d.1≠0)=false->0<=(jdO d)/\(jdO d)=(jdO d)/\(jdO d).toNat*24<=140737488355328/\((!true)=true->(!true)=true/\(!true)=true/\False)/\((!true)=false->(!true)=false/\(!true)=false/\(!true)=false/\(!true)=false/\(false=true->(none,(1:Int),())=(sB d.1,wR d.1,())/\()=())/\(qF->d.1.2.2.1.length<4611686018427387904->(∃(x:Nat),((0=(x:Int)/\True)/\(jfQ d)/\U.noI=[]/\vN d.1 x=[]/\True)/\x<=(wg d.1).length)/\∀(x:Nat),x<=(wg d.1).length->(decide ((x:Int)<d.1.2.2.1.length)=true->0<=(x:Int)/\(x:Int)<d.1.2.2.1.length/\((jcB d x).length<4611686018427387904->(∃(a:Nat),((0=(a:Int)/\0=ij (jcB d x) a/\True)/\True)/\a<=(jcB d x).length)/\∀(a:Nat),a<=(jcB d x).length->(decide ((a:Int)<(jcB d x).length)=true->0<=(a:Int)/\(a:Int)<(jcB d x).length/\0<=nth (jcB d x) (a:Int).toNat/\nth (jcB d x) (a:Int).toNat<=64/\wq ((1:Int)*2^(nth (jcB d x) (a:Int).toNat).toNat)/\wq ((a:Int)+1)/\∃(b:Nat),(((a:Int)+1=(b:Int)/\bor (ij (jcB d x) a) ((1:Int)*2^(nth (jcB d x) (a:Int).toNat).toNat)=ij (jcB d x) b/\True)/\True)/\b<=(jcB d x).length/\(jcB d x).length-b<(jcB d x).length-a)/\(decide ((a:Int)<(jcB d x).length)=false->((vN d.1 x).length+[ij (jcB d x) a].length)*8<=140737488355328/\wq ((x:Int)+1)/\∃(b:Nat),(((x:Int)+1=(b:Int)/\True)/\U.noI=U.noI/\(jfQ d)/\vN d.1 x++[ij (jcB d x) a]=vN d.1 b/\True)/\b<=(wg d.1).length/\(wg d.1).length-b<(wg d.1).length-x)))/\(decide ((x:Int)<d.1.2.2.1.length)=false->WH (jfR d x)/\(some ((((jcV d x).1,(jcV d x).2.1,(jcV d x).2.2.1,()),(jcV d x).2.2.2.1,(jcV d x).q4.1,(jcV d x).q4.2.1,(jcV d x).q4.2.2.1,(jcV d x).q4.2.2.2.1,()),(jcV d x).q4.q4.1,(jcV d x).q4.q4.2.1,(jcV d x).q4.q4.2.2.1,()),(0:Int),())=(sB d.1,wR d.1,())/\()=()))))
theorem tH {l:List Int} {i:Nat} (h:i<l.length):ij l (i+1)=bor (ij l i) (1*2^(nth l i).toNat):=by
 unfold ij;rw[L.wG h,jV];rfl
theorem S7 {d:DyD} {i:Nat} (h:i<(wg d).length):vN d (i+1)=vN d i++[Ow (cE (wi d) (y9 (nth (wg d) i)))]:=by
 unfold vN;rw[L.wG h,zC];rfl
theorem VQ (d:DyD) (i:Nat):(vN d i).length<=i:=by
 unfold vN;rw[zr,j0];omega
theorem S8 {c:CrD} (h:wz c=true) {j:JbD} {p:Int} (a:p∈cE c j):0<=p/\p<8:=by
 have d:=(qx h).2.2.1;unfold cE at a
 split at a
 unfold bU at a;obtain⟨n,b,rfl⟩:=jT.1 a;have:=jC.1 (jP.1 b).1;omega;cases a
theorem YD {c:CrD} (h:wz c=true) (j:JbD):(cE c j).length<=8:=by
 have a:=(qx h).2.2.1;unfold cE
 split
 unfold bU;rw[zr];exact jD (zX _ _) (by simpa using a);exact jw _
theorem S9 {d:DyD} (h:wR d=0):WH (Kt d):=by
 refine⟨⟨h,?_⟩,⟨?_,fun x a=> ?_⟩,rfl⟩;show(vN d (wg d).length).length=(wg d).length;unfold vN;simp;show(ZC d).length=(we (wi d)).length;unfold ZC;simp;have a:x∈ZC d:=a;unfold ZC at a;exact(List.mem_replicate.1 a).2
theorem L2:Je:=by
 unfold Je jcV jfR jdO jfQ jcB Prod.q4;rintro⟨d,⟨⟩,⟨⟩⟩ j;refine⟨j,fun h=>⟨?_,rfl⟩,fun h=>⟨zk _,rfl,?_,fun c=>(by cases c),fun _=>⟨rfl,rfl,rfl,rfl,fun c=>(by cases c),fun _=> ?_⟩⟩⟩;have h:wR d≠0:=jb h;show(none,wR d,())=(sB d,wR d,());unfold sB;rw[jc h];have hk:wR d=0:=jQ.1 (je h);have e:=(qx (yO hk).1.1).2.2.1;have e:d.1.2.1.length<=8:=e;show((d.1.2.1.length:Int)).toNat*24<=140737488355328;omega;have hk:wR d=0:=jQ.1 (je h);clear j h;have f:=(yO hk).1;have r:=f.2.2;have g:(wg d).length<=4:=(yz r).1;have n:d.2.2.1.length<=4:=g;refine fun _=>⟨⟨0,⟨⟨rfl,tZ⟩,⟨rfl,rfl,rfl,rfl,rfl,rfl,rfl,rfl,tZ,tZ,tZ,tZ⟩,rfl,rfl,tZ⟩,jw _⟩,fun x o=>⟨fun h=>⟨by omega,jb h,fun _=>⟨⟨0,⟨⟨rfl,rfl,tZ⟩,tZ⟩,jw _⟩,fun y p=>⟨fun a=> ?_,fun a=> ?_⟩⟩⟩,fun h=> ?_⟩⟩
 have a:(y:Int)<(cE (wi d) (nth d.2.2.1 (x:Int).toNat).1).length:=jb a;have b:y<(cE (wi d) (nth d.2.2.1 (x:Int).toNat).1).length:=(by omega);have s:=S8 f.1 (L.wd b);have k:=tH b;have e:=YD f.1 (nth d.2.2.1 (x:Int).toNat).1;have q:BT.vA ((2:Int)^(nth (cE (wi d) (nth d.2.2.1 (x:Int).toNat).1) y).toNat):=BT.mD (by omega);unfold BT.vA at q;exact⟨by omega,a,s.1,by show nth (cE (wi d) (nth d.2.2.1 (x:Int).toNat).1) y<=64;omega,by show wq (1*2^(nth (cE (wi d) (nth d.2.2.1 (x:Int).toNat).1) y).toNat);rw[Cr];exact iZ6,iZ6,y+1,⟨⟨by simp,k.symm,tZ⟩,tZ⟩,by show y+1<=(cE (wi d) (nth d.2.2.1 (x:Int).toNat).1).length;omega,by show(cE (wi d) (nth d.2.2.1 (x:Int).toNat).1).length-(y+1)<(cE (wi d) (nth d.2.2.1 (x:Int).toNat).1).length-y;omega⟩;have h:(x:Int)<(wg d).length:=jb h;have k:=S7 (d:=d) (i:=x) (by omega);have j:=VQ d x;have p:y<=(cE (wi d) (nth d.2.2.1 (x:Int).toNat).1).length:=p;have a:¬(y:Int)<(cE (wi d) (nth d.2.2.1 (x:Int).toNat).1).length:=je a;have m:y=(cE (wi d) (nth d.2.2.1 (x:Int).toNat).1).length:=(by omega);subst m;refine⟨?_,iZ6,x+1,⟨⟨by simp,tZ⟩,rfl,⟨rfl,rfl,rfl,rfl,rfl,rfl,rfl,rfl,tZ,tZ,tZ,tZ⟩,k.symm,tZ⟩,by show x+1<=(wg d).length;omega,by show(wg d).length-(x+1)<(wg d).length-x;omega⟩;show((vN d x).length+1)*8<=140737488355328;omega;have h:¬(x:Int)<(wg d).length:=je h;have o:x<=(wg d).length:=o;have l:x=(wg d).length:=(by omega);subst l;refine⟨S9 hk,?_⟩;refine⟨?_,rfl⟩;show(some (QU d),(0:Int),())=(sB d,wR d,());unfold sB;rw[jh hk,hk]
theorem uA:gq PR 105 Jd:=uz S6 L2 Tryz.func105 (kcC Fc (kcC VF kcN)) (koC tG koN)
namespace U
def gJ (d:DyD) (n:Nat):List Int:=(List.range n).map (fun(b:Nat)=>cU (aJ (QU d)) (b:Int))
def d8 (d:DyD):List Int:=if wR d=0 then gJ d (wg d).length else[]
def Ox (d:DyD) (b:Nat):Bool:=Dc d (b:Int) (cU (aJ (QU d)) (b:Int))
def gp (d:DyD) (n:Nat):List Int:=((List.range n).filter (Ox d)).map (fun(b:Nat)=>(b:Int))
def kW (d:DyD):List Int:=if wR d=0 then gp d (wg d).length else[]
def Kc (d:DyD) (p:Int):Bool:=kV p 0 (((we (wi d)).length:Int)-1)
def Ur (d:DyD) (b:Int):Bool:=kV b 0 (((wg d).length:Int)-1)
end U
def PJ:wL:=⟨[.val tDy],[.slice .int,.int],false,fun d=>[(qV d.1).length<=100000],fun d=>(d8 d.1,wR d.1,())⟩
def PK:Ann:=fun r=>match r with
 |6=>some fun σ=>{X:=Nat,sl:=fun i=>[(19,.dat .int (i:Int)),(6,.own 6 .int)],ob:=fun i=>[(6,some (.row 3 .int false .yes (gJ (gb tDy σ 1) i)))],inv:=fun i=>i<=(wg (gb tDy σ 1)).length,mu:=fun i=>(wg (gb tDy σ 1)).length-i}
 |_=>none
def PL:Prop:=∀(d:DyD×Unit),(qV d.1).length<=100000->(qV d.1).length<=100000/\(decide (wR d.1≠0)=true->([],wR d.1,())=(d8 d.1,wR d.1,()))/\(decide (wR d.1≠0)=false->d.1.2.2.1.length<4611686018427387904->(∃(x:Nat),((0=(x:Int)/\True/\True)/\gJ d.1 x=[]/\True)/\x<=(wg d.1).length)/\∀(x:Nat),x<=(wg d.1).length->(decide ((x:Int)<d.1.2.2.1.length)=true->(sB d.1).isSome=true/\(aJ (U.ro (sB d.1))).length<=60/\((gJ d.1 x).length+[cU (aJ (U.ro (sB d.1))) (x:Int)].length)*8<=140737488355328/\wq ((x:Int)+1)/\∃(a:Nat),(((x:Int)+1=(a:Int)/\True/\True)/\gJ d.1 x++[cU (aJ (U.ro (sB d.1))) (x:Int)]=gJ d.1 a/\True)/\a<=(wg d.1).length/\(wg d.1).length-a<(wg d.1).length-x)/\(decide ((x:Int)<d.1.2.2.1.length)=false->(gJ d.1 x,(0:Int),())=(d8 d.1,wR d.1,())))
def L3:wL:=⟨[.val tDy],[.slice .int,.int],false,fun d=>[(qV d.1).length<=100000],fun d=>(kW d.1,wR d.1,())⟩
def L4:Ann:=fun r=>match r with
 |6=>some fun σ=>{X:=Nat,sl:=fun i=>[(19,.dat .int (i:Int)),(6,.own 6 .int)],ob:=fun i=>[(6,some (.row 3 .int false .yes (gp (gb tDy σ 1) i)))],inv:=fun i=>i<=(wg (gb tDy σ 1)).length,mu:=fun i=>(wg (gb tDy σ 1)).length-i}
 |_=>none
def L5:Prop:=∀(d:DyD×Unit),(qV d.1).length<=100000->(qV d.1).length<=100000/\(decide (wR d.1≠0)=true->([],wR d.1,())=(kW d.1,wR d.1,()))/\(decide (wR d.1≠0)=false->d.1.2.2.1.length<4611686018427387904->(∃(x:Nat),((0=(x:Int)/\True/\True)/\gp d.1 x=[]/\True)/\x<=(wg d.1).length)/\∀(x:Nat),x<=(wg d.1).length->(decide ((x:Int)<d.1.2.2.1.length)=true->(sB d.1).isSome=true/\(aJ (U.ro (sB d.1))).length<=60/\(sB d.1).isSome=true/\aO (U.rd (U.ro (sB d.1))) (x:Int)/\(Dc (U.rd (U.ro (sB d.1))) (x:Int) (cU (aJ (U.ro (sB d.1))) (x:Int))=true->((gp d.1 x).length+[(x:Int)].length)*8<=140737488355328/\wq ((x:Int)+1)/\∃(a:Nat),(((x:Int)+1=(a:Int)/\True/\True)/\gp d.1 x++[(x:Int)]=gp d.1 a/\True)/\a<=(wg d.1).length/\(wg d.1).length-a<(wg d.1).length-x)/\(Dc (U.rd (U.ro (sB d.1))) (x:Int) (cU (aJ (U.ro (sB d.1))) (x:Int))=false->wq ((x:Int)+1)/\∃(a:Nat),((True/\(x:Int)+1=(a:Int)/\True)/\gp d.1 x=gp d.1 a/\True)/\a<=(wg d.1).length/\(wg d.1).length-a<(wg d.1).length-x))/\(decide ((x:Int)<d.1.2.2.1.length)=false->(gp d.1 x,(0:Int),())=(kW d.1,wR d.1,())))
theorem L6 {r:RoD} {l:List ShD} (d:qc (U.rd r)=true) (e:∀s∈l,s∈qV (U.rd r)) (nd:l.Nodup) (a:(aJ r).length=(we (wi (U.rd r))).length) (b:Zl (aJ r)) (c:jbC r=U.noI):
 ∀i,i<=l.length->cG r l i (vR r l i)
 |0,_=>S4 a b c
 |i+1,hi=>by
  rw[rS hi]
  exact Xa d e nd hi (L6 d e nd a b c i (by omega))
structure YE (d:DyD):Prop where
 may:Ov (QU d)
 len:(aJ (QU d)).length=(we (wi d)).length
 row:∀p,(nth (aJ (QU d)) p).Nodup/\∀b∈nth (aJ (QU d)) p,aO d b
theorem Ta {d:DyD} (h:wR d=0):YE d:=by
 obtain⟨⟨_,i⟩,⟨j,c⟩,e⟩:=S9 h;have f:=(yO h).1;have a:=L6 (r:=Kt d) (l:=qM d) f.2.2 (fun s k=>fI.1 k) (dU d) j c e _ (jk _);refine⟨⟨f,i⟩,a.1,fun p=> ?_⟩;have:=a.2.2 p;exact⟨this.1,fun b g=>(this.2 b g).1⟩
theorem YE.len60 {d:DyD} (h:YE d):(aJ (QU d)).length<=60:=by
 have a:=(qx h.may.1.1).2.2.1;have a:(we (wi d)).length<=8:=a;rw[h.len];omega
theorem Xc {d:DyD} (h:wR d=0):sB d=some (QU d):=jh h
theorem PM (d:DyD) (n:Nat):gJ d (n+1)=gJ d n++[cU (aJ (QU d)) (n:Int)]:=by
 unfold gJ;rw[zq,zC];rfl
theorem Tb:PL:=by
 rintro⟨d,⟨⟩⟩ j;refine⟨j,fun h=> ?_,fun h _=>⟨⟨0,⟨⟨rfl,tZ,tZ⟩,rfl,tZ⟩,jw _⟩,fun x g=>⟨fun a=> ?_,fun a=> ?_⟩⟩⟩;have h:wR d≠0:=jb h;show([],wR d,())=(d8 d,wR d,());unfold d8;rw[jc h];have hk:wR d=0:=jQ.1 (je h);have f:=Ta hk;have i:(wg d).length<=4:=(yz f.may.1.2.2).1;have a:(x:Int)<(wg d).length:=jb a;have k:=PM d x;have e:(gJ d x).length=x:=(by unfold gJ;simp);have b:=Xc hk;refine⟨by show(sB d).isSome=true;rw[b];rfl,by show(aJ (U.ro (sB d))).length<=60;rw[b];exact f.len60,?_,iZ6,x+1,⟨⟨by simp,tZ,tZ⟩,?_,tZ⟩,by show x+1<=(wg d).length;omega,by show(wg d).length-(x+1)<(wg d).length-x;omega⟩;show((gJ d x).length+1)*8<=_;omega;show gJ d x++[cU (aJ (U.ro (sB d))) (x:Int)]=gJ d (x+1);rw[b,k];rfl;have hk:wR d=0:=jQ.1 (je h);have g:x<=(wg d).length:=g;have a:¬(x:Int)<(wg d).length:=je a;have c:x=(wg d).length:=(by omega);subst c;show(gJ d _,(0:Int),())=(d8 d,wR d,());unfold d8;rw[jh hk,hk]
theorem PN:wU PR 66 PJ:=yi PK Tb Tryz.func66 (kcC f8 kcN) (koC uA koN)
theorem PO (d:DyD) (n:Nat):gp d (n+1)=gp d n++(if Ox d n=true then[(n:Int)] else[]):=by
 unfold gp;rw[L.cH,zC];by_cases h:Ox d n=true;rw[jh h,jh h];rfl;rw[jc h,jc h];rfl
theorem PP:L5:=by
 rintro⟨d,⟨⟩⟩ p;refine⟨p,fun h=> ?_,fun h _=>⟨⟨0,⟨⟨rfl,tZ,tZ⟩,rfl,tZ⟩,jw _⟩,fun x m=>⟨fun b=> ?_,fun b=> ?_⟩⟩⟩;have h:wR d≠0:=jb h;show([],wR d,())=(kW d,wR d,());unfold kW;rw[jc h];have hk:wR d=0:=jQ.1 (je h);have l:=Ta hk;have o:(wg d).length<=4:=(yz l.may.1.2.2).1;have b:(x:Int)<(wg d).length:=jb b;have e:=PO d x;have k:(gp d x).length<=x:=by
  unfold gp;rw[zr];exact jD (zX _ _) (by simp)
 have c:=Xc hk;have i:(sB d).isSome=true:=(by rw[c];rfl);have e2:(aJ (U.ro (sB d))).length<=60:=(by rw[c];exact l.len60);have n:aO (U.rd (U.ro (sB d))) (x:Int):=(by rw[c];exact⟨by omega,b⟩);have j:Dc (U.rd (U.ro (sB d))) (x:Int) (cU (aJ (U.ro (sB d))) (x:Int))=Ox d x:=(by rw[c];rfl);have up:x+1<=(wg d).length:=(by omega);have g:(wg d).length-(x+1)<(wg d).length-x:=(by omega);refine⟨i,e2,i,n,fun a=> ?_,fun a=> ?_⟩;have a:Ox d x=true:=(by rw[<-j];exact a);refine⟨?_,iZ6,x+1,⟨⟨by simp,tZ,tZ⟩,?_,tZ⟩,up,g⟩;show((gp d x).length+1)*8<=_;omega;rw[jh a] at e;exact e.symm;have a:Ox d x=false:=(by rw[<-j];exact a);refine⟨iZ6,x+1,⟨⟨tZ,by simp,tZ⟩,?_,tZ⟩,up,g⟩;rw[jc (by rw[a];simp),j7] at e;exact e.symm;have hk:wR d=0:=jQ.1 (je h);have m:x<=(wg d).length:=m;have b:¬(x:Int)<(wg d).length:=je b;have f:x=(wg d).length:=(by omega);subst f;show(gp d _,(0:Int),())=(kW d,wR d,());unfold kW;rw[jh hk,hk]
theorem L7:wU PR 67 L3:=yi L4 PP Tryz.func67 (kcC f8 (kcC xu kcN)) (koC uA koN)
theorem oX {l:List Int} (h:∀p∈l,0<=p/\p<8):∀n,n<=l.length->BT.vA (ij l n)/\∀q,BT.has (ij l n) q=true->q<8
 |0,_=>⟨BT.Dg,fun q a=>by rw[show ij l 0=0 from rfl,BT.sy] at a;cases a⟩
 |n+1,d=>by
  have b:=oX h n (by omega)
  have e:=h _ (L.wd (l:=l) (i:=n) (by omega))
  have c:BT.vA ((2:Int)^(nth l n).toNat):=BT.mD (by omega)
  rw[tH (by omega),Cr]
  refine⟨BT.bor_set b.1 c,fun q a=> ?_⟩
  rw[BT.has_bor b.1 c,zo,BT.Aw,jp] at a
  rcases a with a|a
  exact b.2 q a
  omega
end Go.X
namespace Go.X
open U
open Go.Proofs
end Go.X
namespace Go.X
open U
open Go.Proofs
namespace U
def J3 (c:CrD) (t d:Int) (a b:Nat):Bool:=jaB c t d (a:Int) (b:Int)
def jci (c:CrD) (t b a:Int):List Int:=xW (J3 c t b) (la c).toNat a.toNat (la c).toNat
def Xq (c:Bool) (s b:Int):Int:=if c=true then bor s b else s
def Us (c:CrD) (j:JbD) (t:Int) (x:Int×Bool) (i:Nat):Int×Bool:=
 if gF t (i:Int)=true then(Xq (!gF (cl (nth (we c) i)) (fO j)) (Xq (!gF (fd (nth (we c) i)) (WC j)) (Xq (J7 (nth (we c) i) (WB j)) x.1 1) 2) 4,x.2||jaz (nth (we c) i)) else x
def xY (c:CrD) (j:JbD) (t:Int) (n:Nat):Int×Bool:=(List.range n).foldl (Us c j t) (0,false)
def jbX (c:CrD) (j:JbD) (t:Int):Int:=(xY c j t (we c).length).1
def jbY (c:CrD) (j:JbD) (t:Int):Bool:=(xY c j t (we c).length).2
def jcj (c:CrD) (j:JbD) (t:Int):Int:=
 Xq (decide (nth (jci c t (UH (d4 c j)) (QR j)) (Kr j).toNat<0)) (Xq (jby (d4 c j)&& !jbY c j t) (Xq (decide (BT.size t≠max (Zy j) (Zx (d4 c j)))) (jbX c j t) 8) 16) 32
def Oy (c:CrD) (j:JbD) (t:Int):Bool:=decide (0<t)&&decide (jcj c j t=0)
end U
def Jf:wL:=⟨[.val .int,.val .int,.val .int],[.bool],false,fun _=>[],fun d=>(kV d.1 d.2.1 d.2.2.1,())⟩
def Jg:Prop:=∀(d:Int×Int×Int×Unit),(decide (d.2.1<=d.1)&&decide (d.1<=d.2.2.1),())=(kV d.1 d.2.1 d.2.2.1,())
def Jh:wL:=⟨[.val tCr],[.bool],false,fun _=>[],fun d=>(wz d.1,())⟩
def Ji:Ann:=fun r=>match r with
 |4=>some fun σ=>{X:=Nat,sl:=fun i=>[(3,.dat .int (i:Int))],ob:=fun _=>[],inv:=fun i=>i<=(we (gb tCr σ 1)).length/\∀j:Nat,j<i->fP (U.la (gb tCr σ 1)) (nth (we (gb tCr σ 1)) j)=true,mu:=fun i=>(we (gb tCr σ 1)).length-i}
 |10=>some fun σ=>{X:=Nat,sl:=fun i=>[(5,.dat .int (i:Int))],ob:=fun _=>[],inv:=fun i=>i<=(U.lv (gb tPe σ 4)).length/\∀j:Nat,j<i->kV (nth (U.lv (gb tPe σ 4)) j) 0 5=true,mu:=fun i=>(U.lv (gb tPe σ 4)).length-i}
 |15=>some fun σ=>{X:=Nat,sl:=fun i=>[(6,.dat .int (i:Int))],ob:=fun _=>[],inv:=fun i=>i<=(y8 (gb tPe σ 4)).length/\∀j:Nat,j<i->kV (nth (y8 (gb tPe σ 4)) j) 0 99=true,mu:=fun i=>(y8 (gb tPe σ 4)).length-i}
 |20=>some fun σ=>{X:=Nat,sl:=fun i=>[(7,.dat .int (i:Int))],ob:=fun _=>[],inv:=fun i=>i<=(yk (gb tCr σ 1)).length/\∀j:Nat,j<i->dZ (nth (yk (gb tCr σ 1)) j)=true,mu:=fun i=>(yk (gb tCr σ 1)).length-i}
 |_=>none
abbrev jcy (d:CrD×Unit)(x:Nat):=(nth d.1.2.1 (x:Int).toNat)
abbrev jea (d:CrD×Unit)(x:Nat):=(↑(jcy d x).1.length:Int)
abbrev jeE (d:CrD×Unit)(x:Nat):=(↑(jcy d x).2.2.2.1.length:Int)
abbrev jfS (d:CrD×Unit)(x:Nat):=(decide ((jea d x)≠d.1.1)|| !kV (jcy d x).2.1 (0:Int) (255:Int)|| !kV (jcy d x).2.2.1 (0:Int) (255:Int)||decide ((10:Int)<(jeE d x))|| !kV (jcy d x).q4.2.1 (0:Int) (1000:Int))
abbrev jeb (d:CrD×Unit):=(d.1.2.2.1.length:Int)
abbrev jdm (d:CrD×Unit)(x:Nat):=(y8 (jcy d x))
abbrev jec (d:CrD×Unit):=(d.1.2.1.length:Int)
abbrev jfT (d:CrD×Unit):=(!kV d.1.1 (2:Int) (5:Int)||decide (8<(jec d))||decide ((jeb d)≠4))
abbrev jeF (d:CrD×Unit)(x:Nat):=(nth d.1.2.2.1 (x:Int).toNat)
abbrev jfU (d:CrD×Unit)(x:Nat):=(!kV (jeF d x).1 (1:Int) (5:Int)|| !kV (jeF d x).2.1 (1:Int) (8:Int))
def Jj:Prop:=∀(d:CrD×Unit),((!!kV d.1.1 (2:Int) (5:Int))=true->d.1.2.1.length<4611686018427387904)->((!(!kV d.1.1 (2:Int) (5:Int)||decide (8<(jec d))))=true->d.1.2.2.1.length<4611686018427387904)->((jfT d)=true->(false,())=(wz d.1,()))/\((jfT d)=false->(∃(x:Nat),((0=(x:Int)/\True)/\True)/\x<=(we d.1).length/\∀(j:Nat),j<x->fP (U.la d.1) (nth (we d.1) j)=true)/\∀(x:Nat),(x<=(we d.1).length/\∀(j:Nat),j<x->fP (U.la d.1) (nth (we d.1) j)=true)->d.1.2.1.length<4611686018427387904->(decide ((x:Int)<(jec d))=true->0<=(x:Int)/\(x:Int)<(jec d)/\((jcy d x).1.length<4611686018427387904->((!(decide ((jea d x)≠d.1.1)|| !kV (jcy d x).2.1 (0:Int) (255:Int)|| !kV (jcy d x).2.2.1 (0:Int) (255:Int)))=true->(jcy d x).2.2.2.1.length<4611686018427387904)->((jfS d x)=true->(false,())=(wz d.1,()))/\((jfS d x)=false->(∃(b:Nat),((0=(b:Int)/\True)/\True)/\b<=(U.lv (jcy d x)).length/\∀(j:Nat),j<b->kV (nth (U.lv (jcy d x)) j) (0:Int) 5=true)/\∀(b:Nat),(b<=(U.lv (jcy d x)).length/\∀(j:Nat),j<b->kV (nth (U.lv (jcy d x)) j) (0:Int) 5=true)->(jcy d x).1.length<4611686018427387904->(decide ((b:Int)<(jea d x))=true->0<=(b:Int)/\(b:Int)<(jea d x)/\((!kV (nth (jcy d x).1 (b:Int).toNat) (0:Int) (5:Int))=true->(false,())=(wz d.1,()))/\((!kV (nth (jcy d x).1 (b:Int).toNat) (0:Int) (5:Int))=false->wq ((b:Int)+1)/\∃(c:Nat),(((b:Int)+1=(c:Int)/\True)/\True)/\(c<=(U.lv (jcy d x)).length/\∀(j:Nat),j<c->kV (nth (U.lv (jcy d x)) j) (0:Int) 5=true)/\(U.lv (jcy d x)).length-c<(U.lv (jcy d x)).length-b))/\(decide ((b:Int)<(jea d x))=false->(∃(a:Nat),((0=(a:Int)/\True)/\True)/\a<=(jdm d x).length/\∀(j:Nat),j<a->kV (nth (jdm d x) j) (0:Int) 99=true)/\∀(a:Nat),(a<=(jdm d x).length/\∀(j:Nat),j<a->kV (nth (jdm d x) j) (0:Int) 99=true)->(jcy d x).2.2.2.1.length<4611686018427387904->(decide ((a:Int)<(jeE d x))=true->0<=(a:Int)/\(a:Int)<(jeE d x)/\((!kV (nth (jcy d x).2.2.2.1 (a:Int).toNat) (0:Int) (99:Int))=true->(false,())=(wz d.1,()))/\((!kV (nth (jcy d x).2.2.2.1 (a:Int).toNat) (0:Int) (99:Int))=false->wq ((a:Int)+1)/\∃(c:Nat),(((a:Int)+1=(c:Int)/\True)/\True)/\(c<=(jdm d x).length/\∀(j:Nat),j<c->kV (nth (jdm d x) j) (0:Int) 99=true)/\(jdm d x).length-c<(jdm d x).length-a))/\(decide ((a:Int)<(jeE d x))=false->wq ((x:Int)+1)/\∃(c:Nat),(((x:Int)+1=(c:Int)/\True)/\True)/\(c<=(we d.1).length/\∀(j:Nat),j<c->fP (U.la d.1) (nth (we d.1) j)=true)/\(we d.1).length-c<(we d.1).length-x)))))/\(decide ((x:Int)<(jec d))=false->(∃(x:Nat),((0=(x:Int)/\True)/\True)/\x<=(yk d.1).length/\∀(j:Nat),j<x->dZ (nth (yk d.1) j)=true)/\∀(x:Nat),(x<=(yk d.1).length/\∀(j:Nat),j<x->dZ (nth (yk d.1) j)=true)->d.1.2.2.1.length<4611686018427387904->(decide ((x:Int)<(jeb d))=true->0<=(x:Int)/\(x:Int)<(jeb d)/\((!!kV (jeF d x).1 (1:Int) (5:Int))=true->0<=(x:Int))/\((!!kV (jeF d x).1 (1:Int) (5:Int))=true->(x:Int)<(jeb d))/\((jfU d x)=true->(false,())=(wz d.1,()))/\((jfU d x)=false->wq ((x:Int)+1)/\∃(c:Nat),(((x:Int)+1=(c:Int)/\True)/\True)/\(c<=(yk d.1).length/\∀(j:Nat),j<c->dZ (nth (yk d.1) j)=true)/\(yk d.1).length-c<(yk d.1).length-x))/\(decide ((x:Int)<(jeb d))=false->(true,())=(wz d.1,()))))
def L8:wL:=⟨[.val tCr,.val tJb],[.bool],false,fun d=>[wz d.1=true],fun d=>(qr d.1 d.2.1,())⟩
def L9:Prop:=∀(d:CrD×JbD×Unit),wz d.1=true->wq (d.1.1-1)/\(kV d.2.1.1 (0:Int) (d.1.1-1)=true->wq (d.1.1-1))/\(kV d.2.1.1 (0:Int) (d.1.1-1)&&kV d.2.1.2.1 (0:Int) (d.1.1-1)&&decide (d.2.1.1≠d.2.1.2.1)&&kV d.2.1.2.2.1 (0:Int) (99:Int)&&kV d.2.1.2.2.2.1 (0:Int) (7:Int)&&kV d.2.1.q4.1 (0:Int) (3:Int)&&kV d.2.1.q4.2.1 (1:Int) (8:Int),())=(qr d.1 d.2.1,())
theorem Ma:Jg:=by
 rintro⟨n,a,b,⟨⟩⟩;rfl
theorem uB:wU PR 135 Jf:=wF Ma Tryz.func135 kcN koN
theorem VR (c:CrD) (j:JbD):(kV (QR j) 0 (U.la c-1)&&kV (Kr j) 0 (U.la c-1)&&decide (QR j≠Kr j)&&kV (WB j) 0 99&&kV (WC j) 0 7&&kV (fO j) 0 3&&kV (Zy j) 1 8)=qr c j:=by
 unfold qr kV;rw[jZ];simp only[ji,jp,ne_eq];constructor;rintro⟨⟨⟨⟨⟨⟨⟨f,g⟩,h,i⟩,k⟩,l,m⟩,n,o⟩,a,b⟩,d,e⟩;exact⟨f,g,h,i,k,l,m,n,o,a,b,d,e⟩;rintro⟨f,g,h,i,k,l,m,n,o,a,b,d,e⟩;exact⟨⟨⟨⟨⟨⟨⟨f,g⟩,h,i⟩,k⟩,l,m⟩,n,o⟩,a,b⟩,d,e⟩
theorem PQ:L9:=by
 unfold L9 Prod.q4;rintro⟨c,j,⟨⟩⟩ h;have h:wz c=true:=h;have d:=qx h;have a:wq (U.la c-1):=iZ6;refine⟨a,fun _=>a,?_⟩;exact jS (fun b=>(b,())) (VR c j)
theorem Mb:wU PR 92 L8:=wF PQ Tryz.func92 (kcC uB kcN) koN
end Go.X
namespace Go.X
open U
open Go.Proofs
theorem Jk (c:CrD) (j:JbD) (t:Int) (n:Nat):xY c j t (n+1)=Us c j t (xY c j t n) n:=by
 unfold xY;rw[zq,jV];rfl
theorem Tc {c:CrD} {j:JbD} {t:Int} {n:Nat} (h:gF t (n:Int)=false):xY c j t (n+1)=xY c j t n:=by
 rw[Jk];unfold Us;rw[h,jc (by simp)]
end Go.X
