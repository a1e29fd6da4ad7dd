/-
  Part 4 of the road: a checked reading of bodies, and what the functions on it do (T L BT BS NL DF RC FX A1 P1 A2 P2 A4 P4 A5 P5 A3 P6 CM MP O1 B1 P7 IS B2 P8 B3 P9 DI B4 P10 B5 P11 B6 P12 P13 B7 P14 B8 P15).
-/
import Derived.Test.YtacjhnpgiklpdaaGreatDoorK03
import Derived.Test.YtacjhnpgiklpdaaGreatDoorProg
import Derived.KernelRfl
import Derived.Shelf.SlSortCmp.WholeK
import Derived.Shelf.Sort.Plain
namespace Go.X
open U
open Go.Proofs
abbrev bT:=true
abbrev bF:=false
abbrev vO:Value:=.int .i64 0
abbrev qy0:Ty:=.ptr (.uint .u8)
abbrev qy1:Ty:=.st [.int,.int]
abbrev qy2:Ty:=.ptr (.uint .u64)
abbrev qy3:Ty:=.slice (.slice .int)
abbrev qy4:Ty:=.st [.int,.int,.int]
abbrev qy5:Ty:=.st [.int,.int,.bool]
abbrev qy6:Ty:=.slice qy1
abbrev qy7:Ty:=.slice qy4
abbrev qy8:Ty:=.slice qy5
abbrev qy9:Ty:=.slice qy6
abbrev qy10:Ty:=.map .int qy4
abbrev qy11:Ty:=.st [.int,.int,.int,.int,.int]
abbrev qy12:Ty:=.st [.int,.int,.bool,.uint .u8]
abbrev qy13:Ty:=.st [.int,.int,.int,.int,.int,.int]
abbrev qy14:Ty:=.slice qy11
abbrev qy15:Ty:=.slice qy13
abbrev qy16:Ty:=.st [.slice .int,.int,.int,.slice .int,.bool,.int]
abbrev qy17:Ty:=.map qy1 qy11
abbrev qy18:Ty:=.slice qy16
abbrev qy19:Ty:=.st [qy13,.int,.int,.int]
abbrev qy20:Ty:=.slice qy19
abbrev qy21:Ty:=.st [.int,.int,.int,.int,.int,.int,.int,.int,.slice .int,qy6]
abbrev qy22:Ty:=.st [.int,qy18,qy8]
abbrev qy23:Ty:=.st [qy22,qy13,qy5]
abbrev qy24:Ty:=.ptr qy23
abbrev qy25:Ty:=.st [qy19,qy21,.int,.int,.slice .int,.int,.int,.bool,.int]
abbrev qy26:Ty:=.ptr qy25
abbrev qy27:Ty:=.map .int qy26
abbrev qy28:Ty:=.st [qy22,qy9,qy20,.int,.int,qy14]
abbrev qy29:Ty:=.st [qy28,.slice .int,qy3,.slice .int]
abbrev qy30:Ty:=.ptr qy29
abbrev qy31:Ty:=.st [qy28,.slice .int,.slice .int,qy21,qy7]
abbrev qy32:Ty:=.st [qy31,qy27]
def rr (i:Nat)(t:Ty)(n:Nat)(a:Bool)(f:List (Nat×Nat))(s:Bool)(e b:Nat)(z:List Value)(c m:Bool)(k:Nat)(q:Bool):TI:=⟨i,t,n,a,f,s,e,b,z,c,m,k,q,false,false,false⟩
def rf (i:Nat):TI:=⟨i,.unit,1,false,[],false,0,8,[.nilFunc],false,false,0,false,false,false,true⟩
def rq (i:Nat):TI:=⟨i,.unit,1,false,[],false,0,8,[.pointer none],false,false,0,false,false,true,false⟩
def ti:List TI:=[
 rf 1,
 rr 2 .int 1 bF [] bF 0 8 [vO] bF bF 0 bT,
 rr 3 .int 1 bF [] bF 0 8 [vO] bF bF 0 bT,
 rr 4 .bool 1 bF [] bF 0 1 [.bool false] bT bF 0 bF,
 rr 5 (.uint .u8) 1 bF [] bF 0 1 [.int .u8 0] bF bF 0 bF,
 rr 6 (.uint .u8) 1 bF [] bF 0 1 [.int .u8 0] bF bF 0 bF,
 rr 7 qy12 4 bT [(0,2),(1,3),(2,4),(3,6)] bF 0 24 [vO,vO,.bool false,.int .u8 0] bT bF 0 bT,
 rr 8 qy12 4 bT [(0,2),(1,3),(2,4),(3,6)] bF 0 24 [vO,vO,.bool false,.int .u8 0] bT bF 0 bT,
 rr 12 (.uint .u64) 1 bF [] bF 0 8 [.int .u64 0] bF bF 0 bF,
 rq 15,
 rq 16,
 rq 17,
 rr 18 .unit 1 bT [(0,17)] bF 0 8 [.pointer none] bF bF 0 bF,
 rr 19 .unit 1 bT [(0,17)] bF 0 8 [.pointer none] bF bF 0 bF,
 rr 21 (.uint .i32) 1 bF [] bF 0 4 [.int .i32 0] bF bF 0 bF,
 rr 22 qy18 1 bF [] bT 136 24 [.slice none 0 0] bF bF 0 bF,
 rr 23 qy8 1 bF [] bT 145 24 [.slice none 0 0] bF bF 0 bF,
 rr 24 qy22 3 bT [(0,3),(1,22),(2,23)] bF 0 56 [vO,.slice none 0 0,.slice none 0 0] bF bF 0 bF,
 rr 25 qy22 3 bT [(0,3),(1,22),(2,23)] bF 0 56 [vO,.slice none 0 0,.slice none 0 0] bF bF 0 bF,
 rr 26 qy9 1 bF [] bT 107 24 [.slice none 0 0] bF bF 0 bF,
 rr 27 qy20 1 bF [] bT 65 24 [.slice none 0 0] bF bF 0 bF,
 rr 28 qy14 1 bF [] bT 134 24 [.slice none 0 0] bF bF 0 bF,
 rr 29 qy28 8 bT [(0,25),(3,26),(4,27),(5,3),(6,3),(7,28)] bF 0 144 [vO,.slice none 0 0,.slice none 0 0,.slice none 0 0,.slice none 0 0,vO,vO,.slice none 0 0] bF bF 0 bF,
 rr 30 qy28 8 bT [(0,25),(3,26),(4,27),(5,3),(6,3),(7,28)] bF 0 144 [vO,.slice none 0 0,.slice none 0 0,.slice none 0 0,.slice none 0 0,vO,vO,.slice none 0 0] bF bF 0 bF,
 rr 31 (.slice .int) 1 bF [] bT 3 24 [.slice none 0 0] bF bF 0 bF,
 rr 32 qy6 1 bF [] bT 87 24 [.slice none 0 0] bF bF 0 bF,
 rr 33 qy21 10 bT [(0,3),(1,3),(2,3),(3,3),(4,3),(5,3),(6,3),(7,3),(8,31),(9,32)] bF 0 112 [vO,vO,vO,vO,vO,vO,vO,vO,.slice none 0 0,.slice none 0 0] bF bF 0 bF,
 rr 34 qy21 10 bT [(0,3),(1,3),(2,3),(3,3),(4,3),(5,3),(6,3),(7,3),(8,31),(9,32)] bF 0 112 [vO,vO,vO,vO,vO,vO,vO,vO,.slice none 0 0,.slice none 0 0] bF bF 0 bF,
 rr 35 qy7 1 bF [] bT 95 24 [.slice none 0 0] bF bF 0 bF,
 rr 36 qy31 21 bT [(0,30),(8,31),(9,31),(10,34),(20,35)] bF 0 328 [vO,.slice none 0 0,.slice none 0 0,.slice none 0 0,.slice none 0 0,vO,vO,.slice none 0 0,.slice none 0 0,.slice none 0 0,vO,vO,vO,vO,vO,vO,vO,vO,.slice none 0 0,.slice none 0 0,.slice none 0 0] bF bF 0 bF,
 rr 37 qy31 21 bT [(0,30),(8,31),(9,31),(10,34),(20,35)] bF 0 328 [vO,.slice none 0 0,.slice none 0 0,.slice none 0 0,.slice none 0 0,vO,vO,.slice none 0 0,.slice none 0 0,.slice none 0 0,vO,vO,vO,vO,vO,vO,vO,vO,.slice none 0 0,.slice none 0 0,.slice none 0 0] bF bF 0 bF,
 rr 38 qy4 3 bT [(0,3),(1,3),(2,3)] bF 0 24 [vO,vO,vO] bT bF 0 bT,
 rr 39 qy4 3 bT [(0,3),(1,3),(2,3)] bF 0 24 [vO,vO,vO] bT bF 0 bT,
 rf 40,
 rf 41,
 rf 42,
 rr 43 .int 1 bF [] bF 0 8 [vO] bF bF 0 bT,
 rf 45,
 rf 46,
 rf 47,
 rf 49,
 rf 51,
 rf 52,
 rf 53,
 rr 54 qy15 1 bF [] bT 61 24 [.slice none 0 0] bF bF 0 bF,
 rf 56,
 rf 57,
 rf 58,
 rf 59,
 rr 60 qy13 6 bT [(0,3),(1,3),(2,3),(3,3),(4,3),(5,3)] bF 0 48 [vO,vO,vO,vO,vO,vO] bT bF 0 bT,
 rr 61 qy13 6 bT [(0,3),(1,3),(2,3),(3,3),(4,3),(5,3)] bF 0 48 [vO,vO,vO,vO,vO,vO] bT bF 0 bT,
 rr 62 qy13 6 bT [(0,3),(1,3),(2,3),(3,3),(4,3),(5,3)] bF 0 48 [vO,vO,vO,vO,vO,vO] bT bF 0 bT,
 rr 63 qy13 6 bT [(0,3),(1,3),(2,3),(3,3),(4,3),(5,3)] bF 0 48 [vO,vO,vO,vO,vO,vO] bT bF 0 bT,
 rr 64 qy19 9 bT [(0,63),(6,3),(7,3),(8,3)] bF 0 72 [vO,vO,vO,vO,vO,vO,vO,vO,vO] bT bF 0 bT,
 rr 65 qy19 9 bT [(0,63),(6,3),(7,3),(8,3)] bF 0 72 [vO,vO,vO,vO,vO,vO,vO,vO,vO] bT bF 0 bT,
 rf 67,
 rf 68,
 rf 69,
 rf 70,
 rr 71 qy27 1 bF [] bF 79 8 [.map none] bF bT 3 bF,
 rr 72 qy32 22 bT [(0,37),(21,71)] bF 0 336 [vO,.slice none 0 0,.slice none 0 0,.slice none 0 0,.slice none 0 0,vO,vO,.slice none 0 0,.slice none 0 0,.slice none 0 0,vO,vO,vO,vO,vO,vO,vO,vO,.slice none 0 0,.slice none 0 0,.slice none 0 0,.map none] bF bF 0 bF,
 rr 73 qy32 22 bT [(0,37),(21,71)] bF 0 336 [vO,.slice none 0 0,.slice none 0 0,.slice none 0 0,.slice none 0 0,vO,vO,.slice none 0 0,.slice none 0 0,.slice none 0 0,vO,vO,vO,vO,vO,vO,vO,vO,.slice none 0 0,.slice none 0 0,.slice none 0 0,.map none] bF bF 0 bF,
 rf 75,
 rf 76,
 rf 77,
 rf 78,
 {rr 79 qy26 1 bF [] bF 0 8 [.pointer none] bF bF 0 bF with pt:=true},
 rf 80,
 rf 81,
 rf 82,
 rf 83,
 rr 84 qy25 26 bT [(0,65),(9,34),(19,3),(20,3),(21,31),(22,3),(23,3),(24,4),(25,3)] bF 0 256 [vO,vO,vO,vO,vO,vO,vO,vO,vO,vO,vO,vO,vO,vO,vO,vO,vO,.slice none 0 0,.slice none 0 0,vO,vO,.slice none 0 0,vO,vO,.bool false,vO] bF bF 0 bF,
 rr 85 qy25 26 bT [(0,65),(9,34),(19,3),(20,3),(21,31),(22,3),(23,3),(24,4),(25,3)] bF 0 256 [vO,vO,vO,vO,vO,vO,vO,vO,vO,vO,vO,vO,vO,vO,vO,vO,vO,.slice none 0 0,.slice none 0 0,vO,vO,.slice none 0 0,vO,vO,.bool false,vO] bF bF 0 bF,
 rr 86 qy1 2 bT [(0,3),(1,3)] bF 0 16 [vO,vO] bT bF 0 bT,
 rr 87 qy1 2 bT [(0,3),(1,3)] bF 0 16 [vO,vO] bT bF 0 bT,
 rf 88,
 rf 89,
 rf 90,
 rf 91,
 rr 92 (.uint .u64) 1 bF [] bF 0 8 [.int .u64 0] bF bF 0 bF,
 rf 93,
 rr 94 qy4 3 bT [(0,3),(1,3),(2,3)] bF 0 24 [vO,vO,vO] bT bF 0 bT,
 rr 95 qy4 3 bT [(0,3),(1,3),(2,3)] bF 0 24 [vO,vO,vO] bT bF 0 bT,
 rf 96,
 rf 97,
 rf 98,
 rf 99,
 rr 100 qy10 1 bF [] bF 95 8 [.map none] bF bT 3 bF,
 rf 102,
 rf 103,
 rf 104,
 rf 105,
 rf 106,
 rr 107 qy6 1 bF [] bT 131 24 [.slice none 0 0] bF bF 0 bF,
 rf 108,
 rf 109,
 rf 110,
 rf 111,
 rf 112,
 rf 113,
 rf 115,
 rf 116,
 rf 117,
 rf 118,
 rf 119,
 rf 120,
 rf 121,
 rf 122,
 rf 123,
 rf 124,
 rf 125,
 rf 126,
 rr 127 qy15 1 bF [] bT 63 24 [.slice none 0 0] bF bF 0 bF,
 rf 129,
 rr 130 qy1 2 bT [(0,3),(1,3)] bF 0 16 [vO,vO] bT bF 0 bT,
 rr 131 qy1 2 bT [(0,3),(1,3)] bF 0 16 [vO,vO] bT bF 0 bT,
 rf 132,
 rr 133 qy11 5 bT [(0,3),(1,3),(2,3),(3,3),(4,3)] bF 0 40 [vO,vO,vO,vO,vO] bT bF 0 bT,
 rr 134 qy11 5 bT [(0,3),(1,3),(2,3),(3,3),(4,3)] bF 0 40 [vO,vO,vO,vO,vO] bT bF 0 bT,
 rr 135 qy16 6 bT [(0,31),(1,3),(2,3),(3,31),(4,4),(5,3)] bF 0 80 [.slice none 0 0,vO,vO,.slice none 0 0,.bool false,vO] bF bF 0 bF,
 rr 136 qy16 6 bT [(0,31),(1,3),(2,3),(3,31),(4,4),(5,3)] bF 0 80 [.slice none 0 0,vO,vO,.slice none 0 0,.bool false,vO] bF bF 0 bF,
 {rr 137 qy30 1 bF [] bF 0 8 [.pointer none] bF bF 0 bF with pt:=true},
 rf 139,
 rf 140,
 rf 141,
 rf 142,
 rf 143,
 rr 144 qy5 3 bT [(0,3),(1,3),(2,4)] bF 0 24 [vO,vO,.bool false] bT bF 0 bT,
 rr 145 qy5 3 bT [(0,3),(1,3),(2,4)] bF 0 24 [vO,vO,.bool false] bT bF 0 bT,
 rf 146,
 rf 147,
 rf 148,
 rf 149,
 rf 150,
 rf 151,
 rf 152,
 rf 153,
 rf 154,
 rf 155,
 rf 156,
 rr 157 (.map .int .int) 1 bF [] bF 3 8 [.map none] bF bT 3 bF,
 rf 158,
 rf 159,
 rf 160,
 rf 161,
 rf 162,
 rf 163,
 rf 164,
 rf 165,
 rr 166 qy3 1 bF [] bT 31 24 [.slice none 0 0] bF bF 0 bF,
 rr 167 qy29 11 bT [(0,30),(8,31),(9,166),(10,31)] bF 0 216 [vO,.slice none 0 0,.slice none 0 0,.slice none 0 0,.slice none 0 0,vO,vO,.slice none 0 0,.slice none 0 0,.slice none 0 0,.slice none 0 0] bF bF 0 bF,
 rr 168 qy29 11 bT [(0,30),(8,31),(9,166),(10,31)] bF 0 216 [vO,.slice none 0 0,.slice none 0 0,.slice none 0 0,.slice none 0 0,vO,vO,.slice none 0 0,.slice none 0 0,.slice none 0 0,.slice none 0 0] bF bF 0 bF,
 rf 169,
 rf 170,
 rf 171,
 rf 172,
 rf 173,
 rf 174,
 rf 175,
 rf 176,
 rf 177,
 rf 178,
 rf 179,
 rf 180,
 rf 181,
 rr 182 .int 1 bF [] bF 0 8 [vO] bF bF 0 bT,
 rf 184,
 rf 185,
 rf 186,
 rf 187,
 rf 188,
 rr 189 (.uint .u32) 1 bF [] bF 0 4 [.int .u32 0] bF bF 0 bF,
 rf 190,
 rr 191 (.uint .u64) 1 bF [] bF 0 8 [.int .u64 0] bF bF 0 bF,
 {rr 192 qy24 1 bF [] bF 0 8 [.pointer none] bF bF 0 bF with pt:=true},
 rf 194,
 rr 195 (.uint .u64) 1 bF [] bF 0 8 [.int .u64 0] bF bF 0 bF,
 rf 196,
 rr 197 qy17 1 bF [] bF 134 8 [.map none] bF bT 199 bF,
 rr 198 qy1 2 bT [(0,3),(1,3)] bF 0 16 [vO,vO] bT bF 0 bT,
 rr 199 qy1 2 bT [(0,3),(1,3)] bF 0 16 [vO,vO] bT bF 0 bT,
 rf 200,
 rf 201,
 rf 202,
 rf 203,
 rf 204,
 rf 205,
 rf 206,
 rf 207,
 rf 208,
 rf 209,
 rf 210,
 rf 211,
 rf 212,
 rr 213 (.uint .u64) 1 bF [] bF 0 8 [.int .u64 0] bF bF 0 bF,
 rf 214,
 rf 215,
 rf 216,
 {rr 217 (.ptr .int) 1 bF [] bF 0 8 [.pointer none] bF bF 0 bF with pt:=true},
 rf 218,
 rr 219 qy23 12 bT [(0,25),(3,63),(9,145)] bF 0 128 [vO,.slice none 0 0,.slice none 0 0,vO,vO,vO,vO,vO,vO,vO,vO,.bool false] bF bF 0 bF,
 rr 220 qy23 12 bT [(0,25),(3,63),(9,145)] bF 0 128 [vO,.slice none 0 0,.slice none 0 0,vO,vO,vO,vO,vO,vO,vO,vO,.bool false] bF bF 0 bF,
 rf 221,
 rf 222,
 rf 223,
 rf 224,
 rf 225,
 rf 226,
 rf 227,
 rf 228,
 rf 229,
 rf 230,
 {rr 231 qy2 1 bF [] bF 0 8 [.pointer none] bF bF 0 bF with pt:=true},
 rf 233,
 rf 234,
 rf 235,
 rf 236,
 rf 237,
 rf 238,
 rf 239,
 rf 240,
 rf 241,
 rf 242,
 rf 243,
 rf 244,
 rf 245,
 rf 246,
 rf 247,
 rf 248,
 rf 249,
 rf 251,
 rf 252,
 rf 253,
 rf 254,
 rf 256,
 rf 258,
 rf 259,
 rf 260,
 rf 261,
 rf 262,
 rf 263,
 rf 264,
 rf 265,
 rf 266,
 rf 267,
 rr 271 .unit 0 bT [(0,270)] bF 0 0 [] bF bF 0 bF,
 rr 272 .unit 0 bT [(0,270)] bF 0 0 [] bF bF 0 bF,
 rr 273 (.uint .u8) 1 bF [] bF 0 1 [.int .u8 0] bF bF 0 bF,
 rr 274 (.uint .u8) 1 bF [] bF 0 1 [.int .u8 0] bF bF 0 bF,
 rf 275,
 {rr 276 qy0 1 bF [] bF 0 8 [.pointer none] bF bF 0 bF with pt:=true},
 rr 277 (.uint .i32) 1 bF [] bF 0 4 [.int .i32 0] bF bF 0 bF,
 rr 278 (.uint .i32) 1 bF [] bF 0 4 [.int .i32 0] bF bF 0 bF,
 rr 279 .unit 11 bT [(0,12),(1,12),(2,189),(3,273),(4,5),(5,5),(6,274),(7,275),(8,276),(9,277),(10,278)] bF 0 48 [.int .u64 0,.int .u64 0,.int .u32 0,.int .u8 0,.int .u8 0,.int .u8 0,.int .u8 0,.nilFunc,.pointer none,.int .i32 0,.int .i32 0] bF bF 0 bF,
 rr 280 .unit 11 bT [(0,12),(1,12),(2,189),(3,273),(4,5),(5,5),(6,274),(7,275),(8,276),(9,277),(10,278)] bF 0 48 [.int .u64 0,.int .u64 0,.int .u32 0,.int .u8 0,.int .u8 0,.int .u8 0,.int .u8 0,.nilFunc,.pointer none,.int .i32 0,.int .i32 0] bF bF 0 bF,
 rf 281,
 rf 283]
def strs:List Nat:=[9,10,11]
noncomputable abbrev PR:Program:=Tryz.prog
theorem XC:ti.all (jc7 PR)=true:=by kernel_rfl
def jap (P:Program) (k:Nat):Bool:=match P.underlying k with|some .string=>true|_=>false
theorem Ut {P:Program} {l:List Nat} (a:l.all (jap P)=true) (T:Nat) (h:bG l T=true):P.underlying T=some .string:=by
 have:=jT.1 a T ((vY _ _).1 h);unfold jap at this
 split at this
 assumption
 cases this
theorem jaq:strs.all (jap PR)=true:=by kernel_rfl
theorem PH:∀T,bG strs T=true->PR.underlying T=some .string:=Ut jaq
theorem mixed:PR.follows .mixedOrders=true:=by kernel_rfl
def jdu (n:Nat) (fs:List (Nat×wO)):Ctx:=⟨n,ti,fs,fun _ _ _ _=>none,strs,false⟩
def ctx (n:Nat) (fs:List (Nat×wO)) (os:List (Nat×qS)):Ctx:=⟨n,ti,fs,jdo (jdu n fs) os,strs,false⟩
def nu:List (Nat×wO)->Prop
 |[]=>True
 |p::r=>(p.2.own=false->wX PR p.1 p.2)/\nu r
def cW:List (Nat×qS)->Prop
 |[]=>True
 |p::r=>gE PR p.1 p.2/\cW r
theorem d6:∀{l:List (Nat×wO)},nu l->∀f s,wF l f=some s->s.own=false->wX PR f s
 |[],_,f,s,h,_=>by simp[wF] at h
 | (j,x)::r,hk,f,s,h,ho=>by
  simp only[wF] at h
  cases a:Nat.beq j f with
  |true=>rw[a] at h;simp at h;subst h;have:=jb a;subst this;exact hk.1 ho
  |false=>rw[a] at h;exact d6 hk.2 f s h ho
theorem oY:∀{l:List (Nat×qS)},cW l->∀f s,wF l f=some s->gE PR f s
 |[],_,f,s,h=>by simp[wF] at h
 | (j,x)::r,hk,f,s,h=>by
  simp only[wF] at h
  cases a:Nat.beq j f with
  |true=>rw[a] at h;simp at h;subst h;have:=jb a;subst this;exact hk.1
  |false=>rw[a] at h;exact oY hk.2 f s h
theorem Uu {n:Nat} {fs:List (Nat×wO)} (h:nu fs):(jdu n fs).ok PR:=
 ⟨Po XC,d6 h,PH,rfl,fun _ _ _ _ _ a=>by cases a⟩
theorem od {n:Nat} {fs:List (Nat×wO)} {os:List (Nat×qS)} (h:nu fs) (b:cW os):(ctx n fs os).ok PR:=
 ⟨Po XC,d6 h,PH,rfl,fun _ _ _ _ _ a=>QT (Uu h) (oY b) a⟩
def gd (t:Ty) (σ:St) (s:Nat):t.Data:=match σ.get s with
 | .dat a d=>(match qA a t d with|some x=>x|none=>t.dflt)
 |_=>t.dflt
def gr (t:Ty) (σ:St) (o:Nat):List t.Data:=match σ.obj o with
 |some (.row _ a _ _ l)=>(match qA (.slice a) (.slice t) l with|some l'=>l'|none=>[])
 |_=>[]
def gfn (ps rs:List Ty) (σ:St) (s:Nat):(Ty.st ps).Data->(Ty.st rs).Data:=match σ.get s with
 | .fn a b _ F=>if h:a=ps/\b=rs then h.1▸h.2▸F else fun _=>(Ty.st rs).dflt
 |_=>fun _=>(Ty.st rs).dflt
def w6 (fn:Func):Code:=match fn.body with|some c=>c|none=> .skip
theorem jdW {f:Nat} {fn:Func} {n:Nat} {fs:List (Nat×wO)} {os:List (Nat×qS)} {s:wO} {A:Ann} (h:jbF (ctx n fs os) A fn (w6 fn) s) (d:PR.funcs[f]? =some fn) (c:fn.body=some (w6 fn)) (a:(fn.name== "runtime.NumGoroutine")=false)
 (e:fn.ntmps=n) (b:Nat.ble s.ps.length n=true) (hk:nu fs) (g:cW os):wX PR f s:=
 jb1 (od hk g) mixed d c a e (jz b) A h
theorem jcd {f:Nat} {fn:Func} {n:Nat} {fs:List (Nat×wO)} {os:List (Nat×qS)} {s:qS} {A:Ann} (h:T8 (ctx n fs os) A fn (w6 fn) s) (e:PR.funcs[f]? =some fn) (d:fn.body=some (w6 fn)) (a:(fn.name== "runtime.NumGoroutine")=false)
 (g:fn.ntmps=n) (c:Nat.ble s.ps.length n=true) (b:gM (Mh s.ps 0)=true) (hk:nu fs) (i:cW os):gE PR f s:=
 jb4 (od hk i) mixed e d a g (jz c) b A h
abbrev qF:Prop:=false=false
theorem tZ:True:=True.intro
theorem iZ6 {x:Int} (a: -9223372036854775808<=x:=by omega) (b:x<=9223372036854775807:=by omega):wn x:=⟨a,b⟩
theorem kcC {f:Nat} {s:wO} {fs:List (Nat×wO)} (h:wX PR f s) (hk:nu fs):nu ((f,s)::fs):=⟨fun _=>h,hk⟩
theorem kcN:nu []:=trivial
theorem koC {f:Nat} {s:qS} {fs:List (Nat×qS)} (h:gE PR f s) (hk:cW fs):cW ((f,s)::fs):=⟨h,hk⟩
theorem koN:cW []:=trivial
theorem vF (A:Ann) {f:Nat} {fn:Func} {fs:List (Nat×wO)} {os:List (Nat×qS)} {s:wO} {P:Prop} (h:P) (e:PR.funcs[f]? =some fn) (hk:nu fs) (g:cW os) (d:jbF (ctx fn.ntmps fs os) A fn (w6 fn) s=P:=by kernel_rfl) (c:fn.body=some (w6 fn):=by kernel_rfl) (a:(fn.name== "runtime.NumGoroutine")=false:=by kernel_rfl) (b:Nat.ble s.ps.length fn.ntmps=true:=by kernel_rfl):wX PR f s:=jdW (d.mpr h) e c a rfl b hk g
theorem wJ {f:Nat} {fn:Func} {fs:List (Nat×wO)} {os:List (Nat×qS)} {s:wO} {P:Prop} (h:P) (e:PR.funcs[f]? =some fn) (hk:nu fs) (g:cW os) (d:jbF (ctx fn.ntmps fs os) (fun _=>none) fn (w6 fn) s=P:=by kernel_rfl) (c:fn.body=some (w6 fn):=by kernel_rfl) (a:(fn.name== "runtime.NumGoroutine")=false:=by kernel_rfl) (b:Nat.ble s.ps.length fn.ntmps=true:=by kernel_rfl):wX PR f s:=jdW (d.mpr h) e c a rfl b hk g
theorem rX (A:Ann) {f:Nat} {fn:Func} {fs:List (Nat×wO)} {os:List (Nat×qS)} {s:qS} {P:Prop} (h:P) (g:PR.funcs[f]? =some fn) (hk:nu fs) (i:cW os) (e:T8 (ctx fn.ntmps fs os) A fn (w6 fn) s=P:=by kernel_rfl) (d:fn.body=some (w6 fn):=by kernel_rfl) (a:(fn.name== "runtime.NumGoroutine")=false:=by kernel_rfl) (c:Nat.ble s.ps.length fn.ntmps=true:=by kernel_rfl) (b:gM (Mh s.ps 0)=true:=by kernel_rfl):gE PR f s:=jcd (e.mpr h) g d a rfl c b hk i
theorem Cg {f:Nat} {fn:Func} {fs:List (Nat×wO)} {os:List (Nat×qS)} {s:qS} {P:Prop} (h:P) (g:PR.funcs[f]? =some fn) (hk:nu fs) (i:cW os) (e:T8 (ctx fn.ntmps fs os) (fun _=>none) fn (w6 fn) s=P:=by kernel_rfl) (d:fn.body=some (w6 fn):=by kernel_rfl) (a:(fn.name== "runtime.NumGoroutine")=false:=by kernel_rfl) (c:Nat.ble s.ps.length fn.ntmps=true:=by kernel_rfl) (b:gM (Mh s.ps 0)=true:=by kernel_rfl):gE PR f s:=jcd (e.mpr h) g d a rfl c b hk i
def Lw (n:Nat) (fs:List (Nat×wO)) (os:List (Nat×qS)) (cs:List (Nat×oU)) (vs:List (Nat×G4)):Ctx:=⟨n,ti,fs,jdt (jdu n fs) os cs vs,strs,false⟩
def Uv:List (Nat×oU)->Prop
 |[]=>True
 |p::r=>Jc PR p.1 p.2/\Uv r
def Uw:List (Nat×G4)->Prop
 |[]=>True
 |p::r=>VOK PR p.1 p.2/\Uw r
theorem Ch:∀{l:List (Nat×oU)},Uv l->∀f s,wF l f=some s->Jc PR f s
 |[],_,f,s,h=>by simp[wF] at h
 | (j,x)::r,hk,f,s,h=>by
  simp only[wF] at h
  cases a:Nat.beq j f with
  |true=>rw[a] at h;simp at h;subst h;have:=jb a;subst this;exact hk.1
  |false=>rw[a] at h;exact Ch hk.2 f s h
theorem Ci:∀{l:List (Nat×G4)},Uw l->∀f s,wF l f=some s->VOK PR f s
 |[],_,f,s,h=>by simp[wF] at h
 | (j,x)::r,hk,f,s,h=>by
  simp only[wF] at h
  cases a:Nat.beq j f with
  |true=>rw[a] at h;simp at h;subst h;have:=jb a;subst this;exact hk.1
  |false=>rw[a] at h;exact Ci hk.2 f s h
theorem Mx {n:Nat} {fs:List (Nat×wO)} {os:List (Nat×qS)} {cs:List (Nat×oU)} {vs:List (Nat×G4)} (h:nu fs) (c:cW os) (a:Uv cs) (d:Uw vs):(Lw n fs os cs vs).ok PR:=
 ⟨Po XC,d6 h,PH,rfl,fun _ _ _ _ _ b=>QV (Uu h) (oY c) (Ch a) (Ci d) b⟩
theorem jce {f:Nat} {fn:Func} {n:Nat} {fs:List (Nat×wO)} {os:List (Nat×qS)} {s:oU} {A:Ann} (h:Um (ctx n fs os) A fn (w6 fn) s) (d:PR.funcs[f]? =some fn) (c:fn.body=some (w6 fn)) (a:(fn.name== "runtime.NumGoroutine")=false)
 (e:fn.ntmps=n) (b:Nat.ble s.ps.length n=true) (hk:nu fs) (g:cW os):Jc PR f s:=
 jca (od hk g) mixed d c a e (jz b) A h
end Go.X
namespace Go.X
open U
namespace L
theorem qb {α:Type} [Inhabited α] {l:List α} {i:Nat} (h:i<l.length):nth l i=l[i]:=by
 unfold nth;simp[h]
theorem wN {α:Type} [Inhabited α] {l:List α} {i:Nat} (h:i<l.length):l.take (i+1)=l.take i++[nth l i]:=by
 rw[qb h];exact List.take_succ_eq_append_getElem h
theorem we {α:Type} [Inhabited α] {l:List α} {i:Nat} (h:i<l.length):nth l i∈l:=by
 rw[qb h];exact kN h
theorem mem_iff {α:Type} [Inhabited α] {l:List α} {x:α}:x∈l↔∃i,i<l.length/\nth l i=x:=by
 constructor;intro h;obtain⟨i,hi,e⟩:=List.getElem_of_mem h;exact⟨i,hi,by rw[qb hi,e]⟩;rintro⟨i,hi,rfl⟩;exact we hi
theorem all_false {α:Type} [Inhabited α] {l:List α} {i:Nat} {p:α->Bool} (h:i<l.length) (a:p (nth l i)=false):l.all p=false:=by
 rw[zU];exact⟨nth l i,we h,by simp[a]⟩
theorem E9 {x:Int} (a: -9223372036854775808<=x) (b:x<=9223372036854775807):wn x:=⟨a,b⟩
end L
namespace BT
theorem AY (k:Nat):(2:Int)^k=((2^k:Nat):Int):=by simp
theorem div_nat (n k:Nat):(n:Int)/2^k=((n/2^k:Nat):Int):=by simp
theorem pow63 {k:Nat} (h:k<=62):2^k<2^63:=Nat.pow_lt_pow_right (by decide) (by omega)
theorem ofInt_nat {n:Nat} (a:n<2^63):(BitVec.ofInt 64 (n:Int)).toNat=n:=by
 simp only[BitVec.toNat_ofInt];omega
theorem wrap_nat {n:Nat} (h:n<2^63):IntKind.i64.wrap (n:Int)=(n:Int):=by
 unfold IntKind.wrap;simp[IntKind.signed,IntKind.bits];omega
theorem wrapU_nat {n:Nat} (h:n<2^63):IntKind.u64.wrap (n:Int)=(n:Int):=by
 unfold IntKind.wrap;simp[IntKind.signed,IntKind.bits];omega
theorem band_nat {a b:Nat} (c:a<2^63) (d:b<2^63):iP (a:Int) (b:Int)=((a&&&b:Nat):Int):=by
 unfold iP;rw[BitVec.toNat_and,ofInt_nat c,ofInt_nat d];exact wrap_nat (kD Nat.and_le_left c)
theorem uand_nat {a b:Nat} (c:a<2^63) (d:b<2^63):gm (a:Int) (b:Int)=((a&&&b:Nat):Int):=by
 unfold gm;rw[BitVec.toNat_and,ofInt_nat c,ofInt_nat d];exact wrapU_nat (kD Nat.and_le_left c)
theorem bor_nat {a b:Nat} (c:a<2^63) (d:b<2^63):bor (a:Int) (b:Int)=((a|||b:Nat):Int):=by
 unfold bor;rw[BitVec.toNat_or,ofInt_nat c,ofInt_nat d,wrap_nat (kr c d)]
def qz (s:Int):Prop:=0<=s/\s<2^62
def has (s:Int) (p:Nat):Bool:=s.toNat.testBit p
theorem nat_of {s:Int} (h:qz s):∃n:Nat,s=(n:Int)/\n<2^62:=⟨s.toNat,by unfold qz at h;omega,by unfold qz at h;omega⟩
theorem lt63 {n:Nat} (h:n<2^62):n<2^63:=by omega
theorem has_shr {s:Int} (h:qz s) (p:Nat):decide (iP (s/2^p) 1=1)=has s p:=by
 obtain⟨n,rfl,b⟩:=nat_of h;unfold has;rw[jw,div_nat];have a:n/2^p<2^63:=kD (Nat.div_le_self _ _) (lt63 b);rw[show(1:Int)=((1:Nat):Int) from rfl,band_nat a (by decide),kE,ky];exact decide_eq_decide.2 ⟨fun h=>by omega,fun h=>by omega⟩
theorem has_ushr {s:Int} (h:qz s) (p:Nat):decide (gm (s/2^p) 1=1)=has s p:=by
 obtain⟨n,rfl,b⟩:=nat_of h;unfold has;rw[jw,div_nat];have a:n/2^p<2^63:=kD (Nat.div_le_self _ _) (lt63 b);rw[show(1:Int)=((1:Nat):Int) from rfl,uand_nat a (by decide),kE,ky];exact decide_eq_decide.2 ⟨fun h=>by omega,fun h=>by omega⟩
theorem bit_num {s:Int} (h:qz s) (p:Nat):iP (s/2^p) 1=if has s p=true then 1 else 0:=by
 obtain⟨n,rfl,b⟩:=nat_of h;unfold has;rw[jw,div_nat];have a:n/2^p<2^63:=kD (Nat.div_le_self _ _) (lt63 b);rw[show(1:Int)=((1:Nat):Int) from rfl,band_nat a (by decide),kE,ky]
 split
 rename_i h;have:=ja h;omega;rename_i h;have:¬(n/2^p%2=1):=fun e=>h (jL e);omega
theorem tn (p:Nat):has 0 p=false:=by unfold has;simp
theorem AZ (k p:Nat):has ((2:Int)^k) p=decide (k=p):=by
 unfold has;rw[AY,jw,Nat.testBit_two_pow]
theorem has_bor {a b:Int} (c:qz a) (d:qz b) (p:Nat):has (bor a b) p=(has a p||has b p):=by
 obtain⟨n,rfl,f⟩:=nat_of c;obtain⟨m,rfl,e⟩:=nat_of d;unfold has;rw[bor_nat (lt63 f) (lt63 e)];simp only[jw,kW]
theorem bor_set {a b:Int} (e:qz a) (f:qz b):qz (bor a b):=by
 obtain⟨n,rfl,d⟩:=nat_of e;obtain⟨m,rfl,c⟩:=nat_of f;rw[bor_nat (lt63 d) (lt63 c)];have:n|||m<2^62:=kr d c;unfold qz;omega
theorem DO:qz 0:=by unfold qz;omega
theorem iw {k:Nat} (h:k<=61):qz ((2:Int)^k):=by
 rw[AY];have:2^k<2^62:=Nat.pow_lt_pow_right (by decide) (by omega);obtain⟨q,a⟩:∃q,q=2^k:=⟨_,rfl⟩;rw[<-a] at this⊢;unfold qz;omega
theorem ext {a b:Int} (c:qz a) (d:qz b) (h:∀p,has a p=has b p):a=b:=by
 obtain⟨n,rfl,f⟩:=nat_of c;obtain⟨m,rfl,e⟩:=nat_of d;have:n=m:=kf (fun i=>by have:=h i;unfold has at this;simpa using this);rw[this]
theorem has_lt {s:Int} {k:Nat} (c:0<=s) (h:s<2^k) {p:Nat} (b:has s p=true):p<k:=by
 obtain⟨n,rfl⟩:∃n:Nat,s=(n:Int):=⟨s.toNat,by omega⟩;rw[AY] at h;unfold has at b;rw[jw] at b;have d:=Nat.ge_two_pow_of_testBit b;rcases Nat.lt_or_ge p k with a|a;exact a;have:=Nat.pow_le_pow_right (n:=2) (by decide) a;omega
theorem lt_of_has {s:Int} {k:Nat} (a:qz s) (h:∀p,has s p=true->p<k):s<2^k:=by
 obtain⟨n,rfl,b⟩:=nat_of a;rw[AY];have:n<2^k:=Nat.lt_pow_two_of_testBit n (fun i hi=>by
  cases e:n.testBit i with
  |false=>rfl
  |true=>have:=h i (by unfold has;simpa using e);omega)
 omega
theorem or_two {n p:Nat} (h:n.testBit p=false):n+2^p=n|||2^p:=by
 have f:n=2^(p+1)*(n/2^(p+1))+n%2^(p+1):=(Nat.div_add_mod _ _).symm;have c:n%2^(p+1)<2^p:=by
  have b:n%2^(p+1)<2^(p+1):=Nat.mod_lt _ (Nat.pow_pos (by decide));rcases Nat.lt_or_ge (n%2^(p+1)) (2^p) with a|a
  .exact a
  .exfalso;have:(n%2^(p+1)).testBit p=true:=Nat.testBit_of_two_pow_le_and_two_pow_add_one_gt a b;rw[Nat.testBit_mod_two_pow,h] at this;simp at this
 apply kf;intro i;rw[kW,Nat.testBit_two_pow];have e:n+2^p=2^(p+1)*(n/2^(p+1))+(2^p+n%2^(p+1)):=(by omega);have g:2^p+n%2^(p+1)<2^(p+1):=zC (Nat.add_lt_add_left c _) (by rw[Nat.pow_succ];omega);rw[e,kL _ g]
 conv=>rhs;rw[f,kL _ (Nat.mod_lt _ (Nat.pow_pos (by decide)))]
 have e2:2^p+n%2^(p+1)=2^p*1+n%2^(p+1):=(by omega);by_cases hi:i<p+1
 .rw[je hi,je hi,e2,kL _ c];by_cases d:i<p
  .rw[je d,zm (by omega),kO]
  .have:i=p:=(by omega);subst this;rw[jd d,Nat.sub_self,jL rfl,Bool.or_true];simp
 .rw[jd hi,jd hi,zm (by omega),kO]
theorem add_two {s:Int} (b:qz s) {p:Nat} (c:p<=61) (h:has s p=false):s+2^p=bor s (2^p):=by
 obtain⟨n,rfl,a⟩:=nat_of b;rw[AY,bor_nat (lt63 a) (pow63 (by omega))];unfold has at h;rw[jw] at h;rw[<-or_two h];omega
def size (s:Int):Int:=(((List.range 62).countP (fun p=>has s p):Nat):Int)
theorem size_zero:size 0=0:=by
 unfold size;have:(List.range 62).countP (fun p=>has 0 p)=0:=zX.2 (fun p _=>by rw[tn];simp);rw[this];rfl
theorem size_le (s:Int):0<=size s/\size s<=62:=by
 have:=List.countP_le_length (l:=List.range 62) (p:=fun p=>has s p);rw[zI] at this;unfold size;omega
theorem has_half {s:Int} (a:qz s) (p:Nat):has (s/2) p=has s (p+1):=by
 obtain⟨n,rfl,b⟩:=nat_of a;unfold has;have:((n:Int)/2).toNat=n/2:=(by omega);rw[this,jw,kz]
theorem size_half {s:Int} (d:qz s):size s=s%2+size (s/2):=by
 obtain⟨n,e,i⟩:=nat_of d;have b:has (s/2) 61=false:=by
  rw[has_half d];subst e;unfold has;rw[jw];exact Nat.testBit_lt_two_pow i
 have j:(List.range 62)=0::(List.range 61).map (·+1):=by
  rw[show(62:Nat)=61+1 from rfl,List.range_succ_eq_map]
 have c:(List.range 62)=List.range 61++[61]:=(by rw[show(62:Nat)=61+1 from rfl,zg]);have f:(has s 0=true)↔s%2=1:=by
  subst e;unfold has;rw[jw,Nat.testBit_zero];simp only[jo];omega
 have g:(List.range 62).countP (fun p=>has (s/2) p)=(List.range 61).countP (fun p=>has s (p+1)):=by
  rw[c,zQ];simp only[kh,List.countP_nil,b];simp only[has_half d];simp
 unfold size;rw[g]
 conv=>lhs;rw[j]
 rw[kh,List.countP_map];have h:((fun p=>has s p)∘fun(x:Nat)=>x+1)=fun p=>has s (p+1):=rfl
 rw[h];by_cases a:has s 0=true
 .rw[je a];have:=f.1 a;omega
 .rw[jd a];have:¬s%2=1:=fun e=>a (f.2 e);omega
end BT
namespace BT
theorem uor_nat {a b:Nat} (c:a<2^63) (d:b<2^63):uor (a:Int) (b:Int)=((a|||b:Nat):Int):=by
 unfold uor;rw[BitVec.toNat_or,ofInt_nat c,ofInt_nat d,wrapU_nat (kr c d)]
theorem has_uor {a b:Int} (c:qz a) (d:qz b) (p:Nat):has (uor a b) p=(has a p||has b p):=by
 obtain⟨n,rfl,f⟩:=nat_of c;obtain⟨m,rfl,e⟩:=nat_of d;unfold has;rw[uor_nat (lt63 f) (lt63 e)];simp only[jw,kW]
theorem uor_set {a b:Int} (e:qz a) (f:qz b):qz (uor a b):=by
 obtain⟨n,rfl,d⟩:=nat_of e;obtain⟨m,rfl,c⟩:=nat_of f;rw[uor_nat (lt63 d) (lt63 c)];have:n|||m<2^62:=kr d c;unfold qz;omega
theorem pred_odd (k:Nat):(2*k+1)&&&(2*k+1-1)=2*k:=by
 apply kf;intro i;rw[Nat.testBit_and,Nat.add_sub_cancel];cases i with
 |zero=>simp
 |succ i=>
  rw[kz,kz];have:(2*k+1)/2=k:=(by omega);have a:(2*k)/2=k:=(by omega);rw[this,a,Bool.and_self]
theorem pred_even (k:Nat) (_:k≠0):(2*k)&&&(2*k-1)=2*(k&&&(k-1)):=by
 apply kf;intro i;rw[Nat.testBit_and];cases i with
 |zero=>simp
 |succ i=>
  rw[kz,kz,kz];have:(2*k)/2=k:=(by omega);have a:(2*k-1)/2=k-1:=(by omega);have b:(2*(k&&&(k-1)))/2=k&&&(k-1):=(by omega);rw[this,a,b,Nat.testBit_and]
theorem size_dbl {k:Nat} (h:k<2^61):size ((2*k:Nat):Int)=size (k:Int):=by
 rw[size_half (s:=((2*k:Nat):Int)) (by unfold qz;omega)];have a:((2*k:Nat):Int)%2=0:=(by omega);have b:((2*k:Nat):Int)/2=(k:Int):=(by omega);rw[a,b];omega
theorem size_odd {k:Nat} (h:k<2^61):size ((2*k+1:Nat):Int)=1+size (k:Int):=by
 rw[size_half (s:=((2*k+1:Nat):Int)) (by unfold qz;omega)];have a:((2*k+1:Nat):Int)%2=1:=(by omega);have b:((2*k+1:Nat):Int)/2=(k:Int):=(by omega);rw[a,b]
theorem pred_nat:∀(n:Nat),n≠0->n<2^62->(n&&&(n-1))<n/\size ((n&&&(n-1):Nat):Int)+1=size (n:Int)
 |n,b,d=>by
  rcases Nat.mod_two_eq_zero_or_one n with e|e
  obtain⟨k,rfl⟩:∃k,n=2*k:=⟨n/2,by omega⟩
  have hk:k≠0:=by omega
  obtain⟨c,a⟩:=pred_nat k hk (by omega)
  rw[pred_even k hk]
  exact⟨by omega,by rw[size_dbl (by omega),size_dbl (by omega)];exact a⟩
  obtain⟨k,rfl⟩:∃k,n=2*k+1:=⟨n/2,by omega⟩
  rw[pred_odd]
  exact⟨by omega,by rw[size_dbl (by omega),size_odd (by omega)];omega⟩
termination_by n=>n
theorem pred {s:Int} (d:qz s) (h:s≠0):qz (gm s (s-1))/\gm s (s-1)<s/\size (gm s (s-1))+1=size s:=by
 obtain⟨n,rfl,a⟩:=nat_of d;have b:n≠0:=(by omega);have e:(n:Int)-1=((n-1:Nat):Int):=(by omega);rw[e,uand_nat (lt63 a) (by omega)];obtain⟨f,c⟩:=pred_nat n b a;exact⟨by unfold qz;omega,by omega,c⟩
end BT
namespace U
def eV {α:Type} (eq:α->α->Bool) (p:α):List α->List α
 |[]=>[]
 |y::r=>if eq y p=true then eV eq y r else y::eV eq y r
def bu {α:Type} (eq:α->α->Bool):List α->List α
 |[]=>[]
 |x::r=>x::eV eq x r
def jbu {α:Type} (eq:α->α->Bool) (l:List α) (i:Nat):Prop:=1<=i/\i<=l.length/\bu eq (l.take i)=l.take i
def oi {α:Type} (eq:α->α->Bool) (l:List α) (n:Nat):Int:=((bu eq (l.take n)).length:Int)
def OL {α:Type} (eq:α->α->Bool) (l:List α) (i k:Nat) (r:List α):Prop:=1<=k/\i+k<=l.length/\r.length=l.length/\bu eq (l.take (i+k))=r.take (bu eq (l.take (i+k))).length/\r.drop (i+k-1)=l.drop (i+k-1)/\(bu eq (l.take (i+k))).length<i+k
end U
namespace L
theorem nodup_len {α:Type}:∀(a b:List α),a.Nodup->(∀x∈a,x∈b)->a.length<=b.length
 |[],_,_,_=>by simp
 |x::a,b,hn,h=>by
  obtain⟨e,f,rfl⟩:=List.append_of_mem (h x (by simp))
  rw[zu] at hn
  have:=nodup_len a (e++f) hn.2 (fun y d=>by
   have:=h y (by simp[d])
   rw[jr,jk] at this
   rw[jr]
   rcases this with c|c|c
   exact .inl c
   subst c;exact absurd d hn.1
   exact .inr c)
  simp at this⊢
  omega
theorem Fa {α:Type} [DecidableEq α]:∀{a b:List α},a.Nodup->b.Nodup->(∀n,n∈a↔n∈b)->a.Perm b
 |[],b,_,_,h=>by
  have:b=[]:=by
   cases b with
   |nil=>rfl
   |cons x r=>exact absurd ((h x).2 (by simp)) (by simp)
  rw[this]
 |x::r,b,ha,hb,h=>by
  have i:x∈b:=(h x).1 (by simp);have f:=List.perm_cons_erase i;refine(List.Perm.cons x (Fa (zu.1 ha).2 (hb.erase x) (fun n=> ?_))).trans f.symm;rw[hb.mem_erase_iff];constructor;intro c;exact⟨fun e=>by subst e;exact(zu.1 ha).1 c,(h n).1 (jl _ c)⟩;rintro⟨d,c⟩;rcases jk.1 ((h n).2 c) with e|g;exact absurd e d;exact g
theorem nodup_inj {α β:Type} {f:α->β}:∀{l:List α},(l.map f).Nodup->∀{x y:α},x∈l->y∈l->f x=f y->x=y
 |[],_,_,_,h,_,_=>by simp at h
 |a::r,hn,x,y,hx,hy,e=>by
  simp only[zx,zu] at hn
  rcases jk.1 hx with rfl|c
  rcases jk.1 hy with rfl|b
  rfl
  exact absurd (jZ.2 ⟨y,b,e.symm⟩) hn.1
  rcases jk.1 hy with rfl|b
  exact absurd (jZ.2 ⟨x,c,e⟩) hn.1
  exact nodup_inj hn.2 c b e
theorem nth_take {α:Type} [Inhabited α] {l:List α} {i n:Nat} (h:i<n):nth (l.take n) i=nth l i:=by
 unfold nth;rw[zf,zf,jP h]
theorem nth_drop {α:Type} [Inhabited α] {l r:List α} {a n:Nat} (h:l.drop a=r.drop a) (b:a<=n):nth l n=nth r n:=by
 have e:=jF (fun x=>x[n-a]?) h;simp only[zi] at e;rw[show a+(n-a)=n by omega] at e;unfold nth;rw[zf,zf,e]
theorem nth_map {α β:Type} [Inhabited α] [Inhabited β] {f:α->β} {l:List α} {i:Nat} (h:i<l.length):nth (l.map f) i=f (nth l i):=by
 rw[qb (by simpa using h),qb h];simp
theorem gj {α:Type} [Inhabited α] {l:List α} {i j:Nat} {x:α} (h:i<l.length):nth (l.set i x) j=if i=j then x else nth l j:=by
 unfold nth;rw[zf,zf,ko]
 split
 rename_i e;subst e;simp[h];rfl
theorem bN {α:Type} [Inhabited α] {n i:Nat} {x:α} (h:i<n):nth (List.replicate n x) i=x:=by
 unfold nth;rw[zf,kB,je h];rfl
theorem ext_nth {α:Type} [Inhabited α] {a b:List α} (h:a.length=b.length) (d:∀i,i<a.length->nth a i=nth b i):a=b:=by
 apply List.ext_getElem h;intro i c e;rw[<-qb c,<-qb e];exact d i c
theorem range_map_nth {α:Type} [Inhabited α] (l:List α):(List.range l.length).map (nth l)=l:=by
 apply ext_nth;simp;intro i hi;rw[nth_map (by simpa using hi)];congr 1;rw[qb (by simpa using hi)];simp
section
variable {α:Type} [Inhabited α] {eq:α->α->Bool}
theorem compT_snoc (y:α):∀(r:List α) (p:α),eV eq p (r++[y])=eV eq p r++(if eq y (nth (p::r) r.length)=true then[] else[y])
 |[],p=>rfl
 |z::r,p=>by
  have e:nth (p::z::r) (z::r).length=nth (z::r) r.length:=rfl
  rw[e]
  simp only[j0,eV]
  split
  exact compT_snoc y r z
  rw[compT_snoc y r z];rfl
theorem comp_snoc (y:α) {l:List α} (h:l≠[]):bu eq (l++[y])=bu eq l++(if eq y (nth l (l.length-1))=true then[] else[y]):=by
 cases l with
 |nil=>exact absurd rfl h
 |cons x r=>
  show x::eV eq x (r++[y])=_;rw[compT_snoc];have:(x::r).length-1=r.length:=(by simp);rw[this];rfl
theorem comp_take {l:List α} {n:Nat} (b:1<=n) (a:n<l.length):bu eq (l.take (n+1))=bu eq (l.take n)++(if eq (nth l n) (nth l (n-1))=true then[] else[nth l n]):=by
 rw[L.wN a,comp_snoc];have e:(l.take n).length-1=n-1:=(by rw[jY];omega);rw[e,nth_take (by omega)];intro e;have:=jF List.length e;rw[jY,zt] at this;omega
end
theorem comp_short {α:Type} {eq:α->α->Bool} {l:List α} (h:l.length<2):bu eq l=l:=by
 match l,h with
 |[],_=>rfl
 |[x],_=>rfl
theorem comp_len {α:Type} {eq:α->α->Bool} (l:List α):(bu eq l).length<=l.length:=by
 have:∀(r:List α) (p:α),(eV eq p r).length<=r.length:=by
  intro r
  induction r with
  |nil=>intro p;simp[eV]
  |cons y r a=>
   intro p;unfold eV
   split
   have:=a y;simp;omega;have:=a y;simp;omega
 cases l with
 |nil=>simp[bu]
 |cons x r=>have:=this r x;simp[bu];omega
theorem inv9_next {α:Type} [Inhabited α] {eq:α->α->Bool} {l r:List α} {i k:Nat} (hi:1<=i) (h:OL eq l i k r) (g:i+k<l.length):
 (eq (nth r (i+k)) (nth r (i+k-1))=false->oi eq l (i+(k+1))=oi eq l (i+k)+1/\OL eq l i (k+1) (r.set (oi eq l (i+k)).toNat (nth r (i+k))))/\
 (eq (nth r (i+k)) (nth r (i+k-1))=true->oi eq l (i+(k+1))=oi eq l (i+k)/\OL eq l i (k+1) r):=by
 obtain⟨s,t,j,d,e,p⟩:=h;have o:nth r (i+k)=nth l (i+k):=nth_drop e (by omega);have e2:nth r (i+k-1)=nth l (i+k-1):=nth_drop e (by omega);have a:=comp_take (eq:=eq) (l:=l) (n:=i+k) (by omega) g;rw[show i+k+1=i+(k+1) by omega] at a;have m:r.drop (i+k)=l.drop (i+k):=by
  have:=jF (List.drop 1) e;rw[List.drop_drop,List.drop_drop,show i+k-1+1=i+k by omega] at this;exact this
 rw[o,e2];obtain⟨c,b⟩:∃c,c=bu eq (l.take (i+k)):=⟨_,rfl⟩;rw[<-b] at a d p;have q:(oi eq l (i+k))=(c.length:Int):=(by unfold oi;rw[<-b]);rw[q];refine⟨fun f=> ?_,fun f=> ?_⟩;rw[jd (by rw[f];simp)] at a;refine⟨by unfold oi;rw[a];simp,by omega,by omega,by simpa using j,?_,?_,?_⟩;rw[a];simp only[jw,jG,j6,zt];rw[List.take_add_one,List.getElem?_set_self (by omega)];rw[List.take_set_of_le (by omega),<-d];rfl;rw[show i+(k+1)-1=i+k by omega];simp only[jw];rw[List.drop_set_of_lt (by omega)];exact m;rw[a];simp;omega;rw[je f,j8] at a;refine⟨by unfold oi;rw[a],by omega,by omega,j,?_,?_,?_⟩;rw[a];exact d;rw[show i+(k+1)-1=i+k by omega];exact m;rw[a];omega
theorem compT_sub {α:Type} {eq:α->α->Bool}:∀(r:List α) (p x:α),x∈eV eq p r->x∈r
 |[],_,_,h=>by simp[eV] at h
 |y::r,p,x,h=>by
  unfold eV at h
  split at h
  exact jl _ (compT_sub r y x h)
  rcases jk.1 h with rfl|h
  simp
  exact jl _ (compT_sub r y x h)
theorem comp_sub {α:Type} {eq:α->α->Bool} {l:List α} {x:α} (h:x∈bu eq l):x∈l:=by
 cases l with
 |nil=>simp[bu] at h
 |cons y r=>
  unfold bu at h;rcases jk.1 h with rfl|h;simp;exact jl _ (compT_sub r y x h)
theorem compT_mem {α:Type} [DecidableEq α]:∀(r:List α) (p x:α),x∈r->x=p\/x∈eV (fun a b=>decide (a=b)) p r
 |y::r,p,x,h=>by
  unfold eV
  rcases jk.1 h with rfl|h
  by_cases e:x=p
  exact .inl e
  rw[jd (by simpa using e)];right;simp
  rcases compT_mem r y x h with rfl|c
  by_cases e:x=p
  exact .inl e
  rw[jd (by simpa using e)];right;simp
  right
  split
  exact c
  exact jl _ c
theorem comp_mem {α:Type} [DecidableEq α] {l:List α} {x:α}:x∈bu (fun a b=>decide (a=b)) l↔x∈l:=by
 refine⟨comp_sub,fun h=> ?_⟩;cases l with
 |nil=>simp at h
 |cons y r=>
  unfold bu;rcases jk.1 h with rfl|h;simp;rcases compT_mem r y x h with rfl|c;simp;exact jl _ c
theorem comp_asc {α:Type} [DecidableEq α] {lt:α->α->Bool}:∀{l:List α},vN lt l->QW lt l->(bu (fun a b=>decide (a=b)) l).Pairwise (fun a b=>lt a b=true):=by
 have i:∀(r:List α) (p:α),vN lt (p::r)->QW lt (p::r)->(p::eV (fun a b=>decide (a=b)) p r).Pairwise (fun a b=>lt a b=true):=by
  intro r
  induction r with
  |nil=>intro p _ _;exact List.pairwise_singleton _ _
  |cons y r n=>
   intro p f j;have d:=zz.1 j;have k:vN lt (y::r):=f.sub (fun z c=>jl _ c);have hi:=n y k d.2;unfold eV;by_cases e:y=p;rw[je (by simpa using e)];subst e;exact hi;rw[jd (by simpa using e)];refine zz.2 ⟨fun z c=> ?_,hi⟩;have g:lt p y=true:=by
    cases h:lt p y with
    |true=>rfl
    |false=>exact absurd (f.total p y (by simp) (by simp) h (d.1 y (by simp))).symm e
   rcases jk.1 c with rfl|c;exact g;have m:=compT_sub r y z c;exact f.trans p y z (by simp) (by simp) (by simp[m]) g ((zz.1 hi).1 z c)
 intro l f j;cases l with
 |nil=>exact List.Pairwise.nil
 |cons p r=>exact i r p f j
theorem asc_nodup {α:Type} {lt:α->α->Bool} {l:List α} (hi:∀x,lt x x=false) (h:l.Pairwise (fun a b=>lt a b=true)):l.Nodup:=
 h.imp (fun{a b} h e=>by subst e;rw[hi] at h;cases h)
theorem filter_take {α:Type} [Inhabited α] {p:α->Bool} {l:List α} {i:Nat} (h:i<l.length):(l.take (i+1)).filter p=(l.take i).filter p++(if p (nth l i)=true then[nth l i] else[]):=by
 rw[wN h,kC];congr 1;by_cases e:p (nth l i)=true<;>simp[e]
theorem vQ {p:Nat->Bool} {n:Nat}:(List.range (n+1)).filter p=(List.range n).filter p++(if p n=true then[n] else[]):=by
 rw[zg,kC];congr 1;by_cases e:p n=true<;>simp[e]
end L
end Go.X
namespace Go.X
open U
abbrev tSp:Ty:= .st [.int,.int]
abbrev tPe:Ty:= .st [.slice .int,.int,.int,.slice .int,.bool,.int]
abbrev tLw:Ty:= .st [.int,.int,.bool]
abbrev tCr:Ty:= .st [.int,.slice tPe,.slice tLw]
abbrev tJb:Ty:= .st [.int,.int,.int,.int,.int,.int]
abbrev tBk:Ty:= .st [tJb,.int,.int,.int]
abbrev tSh:Ty:= .st [.int,.int,.int,.int,.int]
abbrev tDy:Ty:= .st [tCr,.slice (.slice tSp),.slice tBk,.int,.int,.slice tSh]
abbrev SpD:Type:=Int×Int×Unit
abbrev PeD:Type:=List Int×Int×Int×List Int×Bool×Int×Unit
abbrev LwD:Type:=Int×Int×Bool×Unit
abbrev CrD:Type:=Int×List PeD×List LwD×Unit
abbrev JbD:Type:=Int×Int×Int×Int×Int×Int×Unit
abbrev BkD:Type:=JbD×Int×Int×Int×Unit
abbrev ShD:Type:=Int×Int×Int×Int×Int×Unit
abbrev DyD:Type:=CrD×List (List SpD)×List BkD×Int×Int×List ShD×Unit
namespace U
def lo (s:SpD):Int:=s.1
def hi (s:SpD):Int:=s.2.1
def kX (n a b:Int):Bool:=decide (a<=n)&&decide (n<=b)
def lv (p:PeD):List Int:=p.1
def fd (p:PeD):Int:=p.2.1
def cl (p:PeD):Int:=p.2.2.1
def qT (p:PeD):List Int:=p.2.2.2.1
def jbv (p:PeD):Bool:=p.2.2.2.2.1
def fe (p:PeD):Int:=p.2.2.2.2.2.1
def S1 (l:LwD):Int:=l.1
def jbw (l:LwD):Int:=l.2.1
def jdf (l:LwD):Bool:=l.2.2.1
def la (c:CrD):Int:=c.1
def wd (c:CrD):List PeD:=c.2.1
def yB (c:CrD):List LwD:=c.2.2.1
def Lx (j:JbD):Int:=j.1
def Ge (j:JbD):Int:=j.2.1
def WP (j:JbD):Int:=j.2.2.1
def OM (j:JbD):Int:=j.2.2.2.1
def mB (j:JbD):Int:=j.2.2.2.2.1
def YL (j:JbD):Int:=j.2.2.2.2.2.1
def gN (b:BkD):JbD:=b.1
def SI (b:BkD):Int:=b.2.1
def qP (b:BkD):Int:=b.2.2.1
def dI (b:BkD):Int:=b.2.2.2.1
def yY (s:ShD):Int:=s.1
def DR (s:ShD):Int:=s.2.1
def Ww (s:ShD):Int:=s.2.2.1
def lm (s:ShD):Int:=s.2.2.2.1
def gP (s:ShD):Int:=s.2.2.2.2.1
def wj (d:DyD):CrD:=d.1
def wY (d:DyD):List (List SpD):=d.2.1
def wm (d:DyD):List BkD:=d.2.2.1
def AB (d:DyD):Int:=d.2.2.2.1
def YM (d:DyD):Int:=d.2.2.2.2.1
def w4 (d:DyD):List ShD:=d.2.2.2.2.2.1
def eX (L:Int) (p:PeD):Bool:=decide (((lv p).length:Int)=L/\0<=fd p/\fd p<=255/\0<=cl p/\cl p<=255/\(qT p).length<=10/\0<=fe p/\fe p<=1000)&&((lv p).all (fun n=>kX n 0 5)&&(qT p).all (fun n=>kX n 0 99))
def eY (l:LwD):Bool:=kX (S1 l) 1 5&&kX (jbw l) 1 8
def wo (c:CrD):Bool:=decide (2<=la c/\la c<=5/\(wd c).length<=8/\(yB c).length=4)&&((wd c).all (eX (la c))&&(yB c).all eY)
def wZ (c:CrD) (j:JbD):Bool:=decide (0<=Lx j/\Lx j<=la c-1/\0<=Ge j/\Ge j<=la c-1/\Lx j≠Ge j/\0<=WP j/\WP j<=99/\0<=OM j/\OM j<=7/\0<=mB j/\mB j<=3/\1<=YL j/\YL j<=8)
def vl (c:CrD) (j:JbD):Int:=if wo c=false then 30 else if wZ c j=false then 31 else 0
def sZ (s:SpD):Bool:=decide (0<=lo s/\lo s<=hi s/\hi s<=300)
def cq (n:Nat) (r:List SpD):Bool:=decide (r.length=n)&&r.all sZ
def mC (n:Nat) (b:BkD):Bool:=decide (0<=SI b/\SI b<=(n:Int)-1/\0<=qP b/\qP b<dI b/\dI b<=1440)
def mD (nb a:Nat) (s:ShD):Bool:=decide (0<=yY s/\yY s<=99/\0<=DR s/\DR s<=9999/\1<=Ww s/\Ww s<=2/\0<=lm s/\lm s<=(nb:Int)-1/\0<=gP s/\gP s<=(a:Int)-1)
def qn (d:DyD):Bool:=decide ((wm d).length<=4/\1<=(wY d).length/\(wY d).length<=5/\0<=AB d/\AB d<=300/\0<=YM d/\YM d<=1440/\(w4 d).length<=30)&&
 ((wY d).all (cq (wY d).length)&&((wm d).all (mC (wY d).length)&&(w4 d).all (mD (wm d).length (wd (wj d)).length)))
def DF (a b:ShD):Bool:=decide (yY a=yY b)&& !decide (a=b)
def AW (l:List ShD) (i:Nat):Bool:=(l.take i).any (DF (nth l i))
def aa (l:List ShD) (n:Nat):Bool:=(List.range n).any (AW l)
def bD (l:List ShD):Bool:=aa l l.length
def Ii (d:DyD):Bool:=(wm d).all (fun b=>wZ (wj d) (gN b))
def gQ (d:DyD):Int:=if wo (wj d)=false then 30 else if Ii d=false then 31 else if qn d=false then 50 else if bD (w4 d)=true then 51 else 0
def mE (l:List ShD) (i:Nat):Bool:= !((l.take i).any (fun x=>decide (x=nth l i)))
def cr (l:List ShD) (n m:Nat):List ShD:=((List.range n).filter (fun i=>decide (yY (nth l i)=(m:Int))&&mE l i)).map (nth l)
def vB (l:List ShD) (n:Nat):List ShD:=(List.range n).flatMap (cr l l.length)
def wb (l:List ShD):List ShD:=vB l 100
def ct (p:PeD) (a:Int):Bool:=(qT p).any (fun t=>decide (t=a))
def wD (s n:Int):Bool:=decide (iP (s/2^n.toNat) 1=1)
def qy (c:CrD) (j:JbD) (p:Int):Bool:= !(ct (nth (wd c) p.toNat) (WP j))&&wD (fd (nth (wd c) p.toNat)) (OM j)&&wD (cl (nth (wd c) p.toNat)) (mB j)
def bk (d:DyD) (b:Int):BkD:=nth (wm d) b.toNat
def ON (d:DyD) (a b:Int):Int:=hi (nth (nth (wY d) (SI (bk d a)).toNat) (SI (bk d b)).toNat)
def gO (d:DyD) (a b:Int):Bool:=decide (qP (bk d a)<qP (bk d b)\/(qP (bk d a)=qP (bk d b)/\a<b))
def bi (d:DyD) (a b:Int):Int:=qP (bk d b)-dI (bk d a)-AB d-ON d a b
def wV (d:DyD) (a b:Int):Bool:=if gO d b a=true then decide (0<=bi d b a) else decide (0<=bi d a b)
def Ij (d:DyD) (l:List Int):Int:=(l.map (fun b=>dI (bk d b)-qP (bk d b))).foldl (·+·) 0
def Zw (d:DyD) (l:List Int):Bool:=(List.range l.length).all (fun i=>(l.take i).all (fun b=>wV d (nth l i) b))
def yU (d:DyD) (p:Int) (l:List Int):Bool:=l.all (fun b=>qy (wj d) (gN (bk d b)) p)&&(Zw d l&&decide (Ij d l<=YM d))
def qN (a b:ShD):Bool:=decide (DR b<DR a\/(DR a=DR b/\yY b<yY a))
def AX (l:List ShD) (s:ShD):Bool:=decide (Ww s=1)&& !(l.any (fun t=>decide (lm t=lm s)&&decide (gP t=gP s)&&qN t s))
def jbx (a b:ShD):Bool:=qN b a
def nS (t:List Int) (p:Int) (n:Nat):List Int:=((List.range n).filter (fun b=>wD (nth t b) p)).map (fun(b:Nat)=>(b:Int))
def on (t:List Int) (p:Int):List Int:=nS t p t.length
def bW (d:DyD) (x:List Int×List Int) (s:ShD):List Int×List Int:=
 if yU d (gP s) (on x.1 (gP s)++[lm s])=true then(x.1.set (lm s).toNat (nth x.1 (lm s).toNat+2^(gP s).toNat),x.2) else(x.1,x.2++[yY s])
def iK (c:CrD) (t:Int) (d a b:Int):Bool:=(List.range (wd c).length).any (fun i=>wD t (i:Int)&&decide (d<=nth (lv (nth (wd c) i)) a.toNat)&&decide (d<=nth (lv (nth (wd c) i)) b.toNat))
def cG (c:CrD) (j:JbD):LwD:=nth (yB c) (mB j).toNat
end U
inductive Rch (J:Nat->Nat->Bool) (n s:Nat):Nat->Prop where
 |base:Rch J n s s
 |step {a b:Nat}:Rch J n s a->b<n->J a b=true->Rch J n s b
theorem Rch.lt {J:Nat->Nat->Bool} {n s t:Nat} (a:s<n) (h:Rch J n s t):t<n:=by
 cases h with
 |base=>exact a
 |step _ h _=>exact h
theorem Rch.trans {J:Nat->Nat->Bool} {n s t u:Nat} (a:Rch J n s t) (b:Rch J n t u):Rch J n s u:=by
 induction b with
 |base=>exact a
 |step _ c d e=>exact .step e c d
theorem Rch.symm {J:Nat->Nat->Bool} {n s t:Nat} (c:∀a b,J a b=J b a) (f:s<n) (h:Rch J n s t):Rch J n t s:=by
 induction h with
 |base=>exact .base
 |step d i e g=>
  rename_i a b;have:Rch J n b a:= .step .base (d.lt f) (by rw[c];exact e);exact this.trans g
theorem Rch.closed {J:Nat->Nat->Bool} {n s t:Nat} {S:Nat->Prop} (i:s<n) (c:S s) (f:∀a b,a<n->S a->b<n->J a b=true->S b) (h:Rch J n s t):S t:=by
 induction h with
 |base=>exact c
 |step d e g j=>exact f _ _ (d.lt i) j e g
namespace U
def nh (J:Nat->Nat->Bool) (r a:Nat) (out:List Int) (b:Nat):List Int:=if nth out a=(r:Int)/\nth out b<0/\J a b=true then out.set b ((r:Int)+1) else out
def yh (J:Nat->Nat->Bool) (r a:Nat) (out:List Int) (k:Nat):List Int:=(List.range k).foldl (nh J r a) out
def vJ (J:Nat->Nat->Bool) (n r:Nat) (out:List Int) (k:Nat):List Int:=(List.range k).foldl (fun o a=>yh J r a o n) out
def yL (n s:Nat):List Int:=(List.replicate n (-1:Int)).set s 0
def qB (J:Nat->Nat->Bool) (n s k:Nat):List Int:=(List.range k).foldl (fun o r=>vJ J n r o n) (yL n s)
def s0 (J:Nat->Nat->Bool) (q:Nat) (x:List Int×List Int) (b:Nat):List Int×List Int:=if nth x.1 b<0/\J q b=true then(x.1.set b (nth x.1 q+1),x.2++[(b:Int)]) else x
def s7 (J:Nat->Nat->Bool) (q:Nat) (x:List Int×List Int) (k:Nat):List Int×List Int:=(List.range k).foldl (s0 J q) x
def ab (J:Nat->Nat->Bool) (n:Nat) (x:List Int×List Int):List Int×List Int:=match x.2 with
 |[]=>x
 |q::_=>((s7 J q.toNat x n).1,(s7 J q.toNat x n).2.drop 1)
def ar (J:Nat->Nat->Bool) (n s:Nat):Nat->List Int×List Int
 |0=>(yL n s,[(s:Int)])
 |k+1=>ab J n (ar J n s k)
def jcW (J:Nat->Nat->Bool) (n s:Nat):List Int:=(ar J n s (n+1)).1
end U
theorem oZ (n s:Nat):(yL n s).length=n:=by unfold yL;simp
theorem Cj {n s x:Nat} (a:s<n) (b:x<n):nth (yL n s) x=if s=x then 0 else-1:=by
 unfold yL;rw[L.gj (by simpa using a),L.bN b]
structure SZ (J:Nat->Nat->Bool) (n s r a b:Nat) (out:List Int):Prop where
 len:out.length=n
 val:∀x,x<n->nth out x= -1\/(0<=nth out x/\nth out x<=(r:Int)+1)
 top:(a=0/\b=0)->∀x,x<n->nth out x<=(r:Int)
 zero:0<=nth out s
 rch:∀x,x<n->0<=nth out x->Rch J n s x
 lev:∀x,x<n->0<nth out x->∃y,y<n/\nth out y=nth out x-1
 cls:∀x y,x<n->y<n->0<=nth out x->(nth out x<(r:Int)\/(nth out x=(r:Int)/\(x<a\/(x=a/\y<b))))->J x y=true->0<=nth out y
theorem Ux {J:Nat->Nat->Bool} {n s r a b:Nat} {out:List Int} (_:s<n) (t:a<n) (u:b<n) (h:SZ J n s r a b out):SZ J n s r a (b+1) (nh J r a out b):=by
 unfold nh
 split
 rename_i q;obtain⟨c1,c2,v⟩:=q;have p:b<out.length:=(by rw[h.len];exact u);have c:∀j,nth (out.set b ((r:Int)+1)) j=if b=j then(r:Int)+1 else nth out j:=fun j=>L.gj p
 have o:b≠a:=fun e=>by subst e;omega
 refine⟨by simpa using h.len,fun x g=> ?_,fun e=>by omega,?_,fun x g f=> ?_,fun x g f=> ?_,fun x y g k f d l=> ?_⟩;rw[c];split;right;omega;exact h.val x g;rw[c];split;omega;exact h.zero;rw[c] at f
 split at f
 rename_i e;subst e;exact .step (h.rch a t (by omega)) u v;exact h.rch x g f;rw[c] at f⊢
 split at f
 rename_i e;subst e;rw[je rfl];exact⟨a,t,by rw[c,jd o];omega⟩;rename_i e;rw[jd e];obtain⟨y,k,e2⟩:=h.lev x g f;refine⟨y,k,?_⟩;rw[c,jd (fun e=>by subst e;omega)];exact e2;rw[c] at f d⊢
 split
 omega;rename_i z
 split at f
 rename_i e;rw[je e] at d;omega;rename_i e;rw[jd e] at d;refine h.cls x y g k f ?_ l;rcases d with d|⟨d,i|⟨i,w⟩⟩;exact .inl d;exact .inr ⟨d,.inl i⟩;exact .inr ⟨d,.inr ⟨i,by omega⟩⟩;rename_i q;refine⟨h.len,h.val,fun e=>by omega,h.zero,h.rch,h.lev,fun x y g k f d l=> ?_⟩;rcases d with d|⟨d,i|⟨i,w⟩⟩;exact h.cls x y g k f (.inl d) l;exact h.cls x y g k f (.inr ⟨d,.inl i⟩) l;by_cases e:y=b;subst e;subst i;rcases Int.lt_or_le (nth out y) 0 with m|m;exact absurd ⟨d,m,l⟩ q;exact m;exact h.cls x y g k f (.inr ⟨d,.inr ⟨i,by omega⟩⟩) l
theorem Zc {J:Nat->Nat->Bool} {n s r a:Nat} {out:List Int} (c:s<n) (b:a<n) (h:SZ J n s r a 0 out):∀k,k<=n->SZ J n s r a k (yh J r a out k)
 |0,_=>h
 |k+1,hk=>by
  have:=Ux c b (show k<n by omega) (Zc c b h k (by omega))
  unfold yh at this⊢
  rw[zg,jU];exact this
theorem jar {J:Nat->Nat->Bool} {n s r a:Nat} {out:List Int} (_:0<n) (h:SZ J n s r a n out):SZ J n s r (a+1) 0 out:=by
 refine⟨h.len,h.val,fun e=>by omega,h.zero,h.rch,h.lev,fun x y i c d b g=>h.cls x y i c d ?_ g⟩;rcases b with b|⟨b,f|⟨f,j⟩⟩;exact .inl b;by_cases e:x=a;exact .inr ⟨b,.inr ⟨e,c⟩⟩;exact .inr ⟨b,.inl (by omega)⟩;omega
theorem Zd {J:Nat->Nat->Bool} {n s r:Nat} {out:List Int} (a:s<n) (h:SZ J n s r 0 0 out):∀k,k<=n->SZ J n s r k 0 (vJ J n r out k)
 |0,_=>h
 |k+1,hk=>by
  have:=jar (by omega) (Zc a (show k<n by omega) (Zd a h k (by omega)) n (jj _))
  unfold vJ at this⊢
  rw[zg,jU];exact this
theorem jas {J:Nat->Nat->Bool} {n s r:Nat} {out:List Int} (h:SZ J n s r n 0 out):SZ J n s (r+1) 0 0 out:=by
 refine⟨h.len,fun x a=> ?_,fun _ x a=> ?_,h.zero,h.rch,h.lev,fun x y a i d b g=>h.cls x y a i d ?_ g⟩;rcases h.val x a with e|⟨c,e2⟩;exact .inl e;exact .inr ⟨c,by omega⟩;rcases h.val x a with e|⟨c,e2⟩<;>omega
 rcases b with b|⟨b,f|⟨f,j⟩⟩;by_cases e:nth out x=(r:Int);exact .inr ⟨e,.inl a⟩;exact .inl (by omega);omega;omega
theorem Ze {J:Nat->Nat->Bool} {n s:Nat} (c:s<n):∀k,SZ J n s k 0 0 (qB J n s k)
 |0=>by
  have hi:∀x,x<n->nth (qB J n s 0) x=if s=x then 0 else-1:=fun x a=>Cj c a
  refine⟨oZ n s,fun x a=> ?_,fun _ x a=> ?_,by rw[hi s c,je rfl];omega,fun x a b=> ?_,fun x a b=> ?_,fun x y a g b f d=> ?_⟩
  rw[hi x a];split<;>simp
  rw[hi x a];split<;>simp
  rw[hi x a] at b
  split at b
  rename_i e;subst e;exact .base
  omega
  rw[hi x a] at b;split at b<;>omega
  omega
 |k+1=>by
  have:=jas (Zd c (Ze (J:=J) c k) n (jj _))
  unfold qB at this⊢
  rw[zg,jU];exact this
theorem Uy {J:Nat->Nat->Bool} {n s r a b:Nat} {out:List Int} (h:SZ J n s r a b out):∀(k:Nat) x,x<n->nth out x=(k:Int)->∀j,j<=k->∃y,y<n/\nth out y=(j:Int)
 |0,x,c,e,j,d=>⟨x,c,by rw[e];omega⟩
 |k+1,x,c,e,j,d=>by
  by_cases f:j=k+1
  exact⟨x,c,by rw[e];omega⟩
  obtain⟨y,g,e2⟩:=h.lev x c (by omega)
  exact Uy h k y g (by rw[e2];omega) j (by omega)
theorem jcf {J:Nat->Nat->Bool} {n s x:Nat} (o:s<n) (u:x<n):nth (qB J n s n) x<0↔¬Rch J n s x:=by
 have h:=Ze (J:=J) o n;have i:∀y,y<n->nth (qB J n s n) y<(n:Int):=by
  intro y p;have c:=h.top ⟨rfl,rfl⟩ y p;rcases Int.lt_or_le (nth (qB J n s n) y) (n:Int) with l|l;exact l;exfalso;have e:nth (qB J n s n) y=(n:Int):=(by omega);have d:=Uy h n y p e;have:=L.nodup_len ((List.range (n+1)).map (fun(j:Nat)=>(j:Int))) (qB J n s n) (List.Pairwise.map _ (fun a b f=>by intro e2;exact f (by omega)) List.nodup_range) (fun z v=>by
   obtain⟨j,g,rfl⟩:=jZ.1 v;obtain⟨w,t,q⟩:=d j (by have:=jE.1 g;omega);rw[<-q];exact L.we (by rw[h.len];exact t))
  rw[h.len] at this;simp at this;omega
 constructor;intro A k;have:=k.closed (S:=fun y=>0<=nth (qB J n s n) y) o h.zero (fun a b m c r g=>h.cls a b m r c (.inl (i a m)) g);have this:0<=nth (qB J n s n) x:=this;omega;intro k;rcases Int.lt_or_le (nth (qB J n s n) x) 0 with c|c;exact c;exact absurd (h.rch x u c) k
def Ji (out:List Int):Nat:=out.countP (fun z=>decide (z<0))
theorem G6:∀{out:List Int} {b:Nat} {v:Int},b<out.length->nth out b<0->0<=v->Ji (out.set b v)+1=Ji out
 |[],b,v,h,_,_=>by simp at h
 |z::r,0,v,_,a,h2=>by
  have a:z<0:=a
  unfold Ji
  rw[List.set_cons_zero,kh,kh,jd (by simpa using h2),je (by simpa using a)]
 |z::r,b+1,v,h,a,h2=>by
  have:=G6 (out:=r) (b:=b) (v:=v) (by simpa using h) a h2
  unfold Ji at this⊢
  rw[List.set_cons_succ,kh,kh]
  omega
structure jdv (J:Nat->Nat->Bool) (n s:Nat) (ex:Nat->Nat->Prop) (x:List Int×List Int):Prop where
 len:x.1.length=n
 low:∀y,y<n->-1<=nth x.1 y/\nth x.1 y<=(n:Int)*2
 zero:0<=nth x.1 s
 rch:∀y,y<n->0<=nth x.1 y->Rch J n s y
 que:∀q,q∈x.2->0<=q/\q<(n:Int)/\0<=nth x.1 q.toNat
 cls:∀y z,y<n->z<n->0<=nth x.1 y->(y:Int)∉x.2\/ex y z->J y z=true->0<=nth x.1 z
def My (n:Nat) (x:List Int×List Int):Prop:=∀y,y<n->nth x.1 y+(Ji x.1:Int)<=(n:Int)-1
theorem FV (J:Nat->Nat->Bool) (q:Nat) (x:List Int×List Int) (k:Nat):s7 J q x (k+1)=s0 J q (s7 J q x k) k:=by
 unfold s7;rw[zg,jU];rfl
structure InI (J:Nat->Nat->Bool) (n s q k:Nat) (x0 x:List Int×List Int):Prop where
 i:jdv J n s (fun y z=>y=q/\z<k) x
 le:My n x
 mu:Ji x.1+x.2.length=Ji x0.1+x0.2.length
 pre:∃l,x.2=x0.2++l
 keep:∀y,y<n->0<=nth x0.1 y->nth x.1 y=nth x0.1 y
theorem jat {J:Nat->Nat->Bool} {n s q k:Nat} {x0 x:List Int×List Int} (M:s<n) (p:q<n) (w:0<=nth x0.1 q) (hk:k<n) (h:InI J n s q k x0 x):InI J n s q (k+1) x0 (s0 J q x k):=by
 have G:nth x.1 q=nth x0.1 q:=h.keep q p w;unfold s0
 split
 rename_i t;obtain⟨c1,c2⟩:=t;have m:k<x.1.length:=(by rw[h.i.len];exact hk);have b:∀j,nth (x.1.set k (nth x.1 q+1)) j=if k=j then nth x.1 q+1 else nth x.1 j:=fun j=>L.gj m
 have E:=G6 (v:=nth x.1 q+1) m c1 (by omega);have F:=h.le q p;have u:k≠q:=fun e=>by subst e;omega
 obtain⟨l,C⟩:=h.pre;refine⟨⟨by simpa using h.i.len,fun y d=> ?_,?_,fun y d c=> ?_,fun z f=> ?_,fun y z d f c a g=> ?_⟩,fun y d=> ?_,?_,⟨l++[(k:Int)],by simp only[C,jM]⟩,fun y d c=> ?_⟩;simp only;rw[b];split;have:=h.i.low q p;omega;exact h.i.low y d;simp only;rw[b];split;omega;exact h.i.zero;simp only at c⊢;rw[b] at c
 split at c
 rename_i e;subst e;exact .step (h.i.rch q p (by omega)) hk c2;exact h.i.rch y d c;simp only at f⊢;rcases jr.1 f with f|f;obtain⟨H,I,K⟩:=h.i.que z f;refine⟨H,I,?_⟩;rw[b];split;omega;exact K;simp at f;subst f;refine⟨by omega,by omega,?_⟩;rw[jw,b,je rfl];omega;simp only at c a⊢;rw[b] at c⊢
 split
 omega;rename_i B;by_cases e:k=y;subst e;rcases a with a|⟨a,_⟩;exact absurd (jg _ (by simp)) a;exact absurd a u;rw[jd e] at c;refine h.i.cls y z d f c ?_ g;rcases a with a|⟨o,A⟩;exact .inl (fun D=>a (jh _ D));exact .inr ⟨o,by omega⟩;simp only;rw[b];split;omega;have:=h.le y d;omega;have:=h.mu;simp only[jG,j6,zt];omega;have:=h.keep y d c;simp only;rw[b,jd (fun e=>by subst e;omega)];exact this;rename_i t;refine⟨⟨h.i.len,h.i.low,h.i.zero,h.i.rch,h.i.que,fun y z d f c a g=> ?_⟩,h.le,h.mu,h.pre,h.keep⟩;rcases a with a|⟨o,A⟩;exact h.i.cls y z d f c (.inl a) g;by_cases e:z=k;subst e;subst o;rcases Int.lt_or_le (nth x.1 z) 0 with r|r;exact absurd ⟨r,g⟩ t;exact r;exact h.i.cls y z d f c (.inr ⟨o,by omega⟩) g
theorem Uz {J:Nat->Nat->Bool} {n s q:Nat} {x:List Int×List Int} (e:s<n) (d:q<n) (b:0<=nth x.1 q) (hi:jdv J n s (fun _ _=>False) x) (a:My n x):∀k,k<=n->InI J n s q k x (s7 J q x k)
 |0,_=>⟨⟨hi.len,hi.low,hi.zero,hi.rch,hi.que,fun y z i j f c g=>hi.cls y z i j f (by rcases c with h|⟨_,h⟩;exact .inl h;omega) g⟩,a,rfl,⟨[],by simp[s7]⟩,fun _ _ _=>rfl⟩
 |k+1,hk=>by rw[FV];exact jat e d b (by omega) (Uz e d b hi a k (by omega))
structure jbI (J:Nat->Nat->Bool) (n s:Nat) (x:List Int×List Int):Prop where
 i:jdv J n s (fun _ _=>False) x
 le:My n x
theorem XD {J:Nat->Nat->Bool} {n s:Nat} {x:List Int×List Int} (k:s<n) (h:jbI J n s x):jbI J n s (ab J n x)/\(x.2≠[]->Ji (ab J n x).1+(ab J n x).2.length+1=Ji x.1+x.2.length):=by
 obtain⟨st,o⟩:=x;cases o with
 |nil=>exact⟨h,fun h=>absurd rfl h⟩
 |cons q r=>
  obtain⟨p,t,m⟩:=h.i.que q (by simp);have hi:=Uz k (q:=q.toNat) (by omega) m h.i h.le n (jj _);obtain⟨l,d⟩:=hi.pre;have e2:(ab J n (st,q::r))=((s7 J q.toNat (st,q::r) n).1,r++l):=by
   show((s7 J q.toNat (st,q::r) n).1,(s7 J q.toNat (st,q::r) n).2.drop 1)=_;rw[d];rfl
  rw[e2];have b:=hi.mu;rw[d] at b;refine⟨⟨⟨hi.i.len,hi.i.low,hi.i.zero,hi.i.rch,fun z c=>hi.i.que z (by rw[d];simp only at c⊢;exact jl _ c),fun y z j c f a g=> ?_⟩,hi.le⟩,fun _=> ?_⟩;rcases a with a|a;by_cases e:y=q.toNat;exact hi.i.cls y z j c f (.inr ⟨e,c⟩) g;refine hi.i.cls y z j c f (.inl ?_) g;rw[d];intro b;rcases jk.1 b with e2|b;omega;exact a b;exact a.elim;simp only[j0,j6] at b⊢;omega
theorem PI {J:Nat->Nat->Bool} {n s:Nat} (f:s<n):jbI J n s (ar J n s 0)/\Ji (ar J n s 0).1+(ar J n s 0).2.length=n:=by
 have hi:∀x,x<n->nth (yL n s) x=if s=x then 0 else-1:=fun x i=>Cj f i
 have h:Ji (yL n s)+1=n:=by
  have:=G6 (out:=List.replicate n (-1:Int)) (b:=s) (v:=0) (by simpa using f) (by rw[L.bN f];decide) (by decide);unfold yL;rw[this];unfold Ji;rw[List.countP_replicate];simp
 refine⟨⟨⟨oZ n s,fun y d=> ?_,?_,fun y d c=> ?_,fun q g=> ?_,fun y z d k c a j=> ?_⟩,fun y d=> ?_⟩,?_⟩;show-1<=nth (yL n s) y/\_;rw[show nth (ar J n s 0).1 y=_ from hi y d,hi y d];split<;>omega
 show 0<=nth (yL n s) s;rw[hi s f,je rfl];omega;have c:0<=nth (yL n s) y:=c;rw[hi y d] at c
 split at c
 rename_i e;subst e;exact .base;omega;have g:q∈[(s:Int)]:=g;simp at g;subst g;refine⟨by omega,by omega,?_⟩;show 0<=nth (yL n s) (s:Int).toNat;rw[jw,hi s f,je rfl];omega;have c:0<=nth (yL n s) y:=c;rw[hi y d] at c
 split at c
 rename_i e;subst e;rcases a with a|a;exact absurd (show(s:Int)∈[(s:Int)] by simp) a;exact a.elim;omega;show nth (yL n s) y+(Ji (yL n s):Int)<=(n:Int)-1;rw[hi y d];split<;>omega
 show Ji (yL n s)+1=n;exact h
theorem Cm {J:Nat->Nat->Bool} {n s:Nat} (b:s<n):∀k,jbI J n s (ar J n s k)/\((ar J n s k).2=[]\/Ji (ar J n s k).1+(ar J n s k).2.length+k=n)
 |0=>⟨(PI b).1,.inr (PI b).2⟩
 |k+1=>by
  obtain⟨d,a⟩:=Cm b k
  obtain⟨f,g⟩:=XD b d
  refine⟨f,?_⟩
  by_cases e:(ar J n s k).2=[]
  left
  show(ab J n (ar J n s k)).2=[]
  unfold ab
  split
  exact e
  rename_i c;rw[e] at c;cases c
  right
  have:=g e
  rcases a with a|a
  exact absurd a e
  show Ji (ab J n (ar J n s k)).1+(ab J n (ar J n s k)).2.length+(k+1)=n
  omega
theorem jau {J:Nat->Nat->Bool} {n s:Nat} (a:s<n):(ar J n s (n+1)).2=[]:=by
 rcases(Cm (J:=J) a (n+1)).2 with h|h;exact h;omega
theorem XE {J:Nat->Nat->Bool} {n s k:Nat} (h:(ar J n s k).2=[]):∀m,k<=m->ar J n s m=ar J n s k:=by
 intro m c
 induction m with
 |zero=>have:k=0:=by omega
        subst this;rfl
 |succ m b=>
  by_cases e:k=m+1;rw[e];have e2:=b (by omega);show ab J n (ar J n s m)=_;rw[e2];unfold ab
  split
  rfl;rename_i a;rw[h] at a;cases a
theorem jcg {J:Nat->Nat->Bool} {n s x:Nat} (e:s<n) (l:x<n):nth (jcW J n s) x<0↔¬Rch J n s x:=by
 have h:=(Cm (J:=J) e (n+1)).1;have j:=jau (J:=J) e;constructor;intro m d;have:=d.closed (S:=fun y=>0<=nth (jcW J n s) y) e h.i.zero (fun a b f c g k=>h.i.cls a b f g c (.inl (by rw[j];simp)) k);have this:0<=nth (jcW J n s) x:=this;omega;intro d;rcases Int.lt_or_le (nth (jcW J n s) x) 0 with c|c;exact c;exact absurd (h.i.rch x l c) d
theorem jav {J:Nat->Nat->Bool} {n a b:Nat} (e:∀x y,J x y=J y x) (c:a<n) (d:b<n):nth (qB J n a n) b<0↔nth (jcW J n b) a<0:=by
 rw[jcf c d,jcg d c];exact not_congr ⟨fun h=>h.symm e c,fun h=>h.symm e d⟩
namespace U
def yZ {α:Type} (p:α->Bool) (l:List α):Int:=match l.findIdx? p with|some i=>(i:Int)|none=> -1
def kZ {α:Type} (F:α×Unit->Bool×Unit) (g:α):Bool:=(F (g,())).1
end U
def gfb (t:Ty) (σ:St) (s:Nat):(Ty.st [t]).Data->(Ty.st [.bool]).Data:=gfn [t] [.bool] σ s
theorem vI:∀(l:List Prop) {k:Prop},wu l->k->asks l k
 |[],_,_,hk=>hk
 |_::r,_,h,hk=>⟨h.1,vI r h.2 hk⟩
theorem yE {α:Type} [Inhabited α] {l:List α} {p:α->Bool} {i:Nat} (h:i<l.length) (a:∀b:Nat,b<i->p (nth l b)=false) (c:p (nth l i)=true):yZ p l=i:=by
 have:l.findIdx? p=some i:=by
  rw[zY];refine⟨h,by rw[<-L.qb h];exact c,fun j d=> ?_⟩;have:=a j d;rw[L.qb (by omega)] at this;simp[this]
 unfold yZ;rw[this]
theorem vn {α:Type} [Inhabited α] {l:List α} {p:α->Bool} {i:Nat} (h:l.length<=i) (a:∀b:Nat,b<i->p (nth l b)=false):yZ p l= -1:=by
 have:l.findIdx? p=none:=by
  rw[ku];intro x c;obtain⟨k,hk,rfl⟩:=L.mem_iff.1 c;exact a k (by omega)
 unfold yZ;rw[this]
theorem fV {α:Type} (p:α->Bool) (l:List α):decide (0<=yZ p l)=l.any p:=by
 rw[jX];unfold yZ;simp only[jo]
 split
 rename_i i e;rw[zY] at e;obtain⟨h,a,_⟩:=e;exact⟨fun _=>zb.2 ⟨_,kN h,a⟩,fun _=>by omega⟩;rename_i e;rw[ku] at e;refine⟨fun h=>by omega,fun h=> ?_⟩;obtain⟨x,b,a⟩:=zb.1 h;have:=e x b;exact absurd (a.symm.trans this) (by simp)
theorem rY {α:Type} (F:α×Unit->Bool×Unit) (l:List α):(!l.any (kZ fun(x:α×Unit)=>(!kZ F x.fst,())))=l.all (kZ F):=by
 induction l with
 |nil=>rfl
 |cons a r b=>
  simp only[List.any_cons,List.all_cons,Bool.not_or,b];have:(!kZ (fun(x:α×Unit)=>(!kZ F x.fst,())) a)=kZ F a:=by
   show(!(!kZ F a))=_;rw[Bool.not_not]
  rw[this]
open Go.Proofs
namespace U
def s8 (s n:Int):Bool:=decide (gm (s/2^n.toNat) 1=1)
def jbK (b:Bool):Int:=if b=true then 1 else 0
def Lf (c:CrD) (f g:Int->Bool) (p:PeD):Bool:=((((((decide (((lv p).length:Int)=la c)&&(lv p).all f)&&kX (fd p) 0 255)&&kX (cl p) 0 255)&&decide (((qT p).length:Int)<=10))&&(qT p).all g)&&kX (fe p) 0 1000)
end U
def Mz:wO:=⟨[.val .int,.val .int,.val .int],[.bool],false,fun _=>[],fun d=>(kX d.1 d.2.1 d.2.2.1,())⟩
def MA:Prop:=∀(d:Int×Int×Int×Unit),(decide (d.2.1<=d.1)&&decide (d.1<=d.2.2.1),())=(kX d.1 d.2.1 d.2.2.1,())
def lT:wO:=⟨[.val (.uint .u64),.val .int],[.bool],false,fun d=>[0<=d.2.1,d.2.1<=64],fun d=>(s8 d.1 d.2.1,())⟩
def Jj:Prop:=∀(d:Int×Int×Unit),0<=d.2.1->d.2.1<=64->0<=d.2.1/\d.2.1<=64/\(decide (gm (d.1/(2:Int)^d.2.1.toNat) (1:Int)=1),())=(s8 d.1 d.2.1,())
def gg:wO:=⟨[.val (.uint .u64)],[.int],false,fun d=>[BT.qz d.1],fun d=>(BT.size d.1,())⟩
def G7:Ann:=fun r=>match r with
 |1=>some fun σ=>{X:=Int×Int,sl:=fun x=>[(0,.dat (.uint .u64) x.1),(2,.dat .int x.2)],ob:=fun _=>[],inv:=fun x=>BT.qz x.1/\x.2+BT.size x.1=BT.size (gd (.uint .u64) σ 0),mu:=fun x=>x.1.toNat}
 |_=>none
def G8:Prop:=∀(d:Int×Unit),BT.qz d.1->(∃(x:Int×Int),((d.1=x.1/\0=x.2/\True)/\True)/\BT.qz x.1/\x.2+BT.size x.1=BT.size d.1)/\∀(x:Int×Int),BT.qz x.1/\x.2+BT.size x.1=BT.size d.1->(decide (x.1≠0)=true->wn (x.2+1)/\0<=x.1-1/\x.1-1<=18446744073709551615/\∃(a:Int×Int),((gm x.1 (x.1-1)=a.1/\x.2+1=a.2/\True)/\True)/\(BT.qz a.1/\a.2+BT.size a.1=BT.size d.1)/\a.1.toNat<x.1.toNat)/\(decide (x.1≠0)=false->(x.2,())=(BT.size d.1,()))
def QX:wO:=⟨[.val .bool],[.int],false,fun _=>[],fun d=>(jbK d.1,())⟩
def QY:Prop:=∀(d:Bool×Unit),(d.1=true->((1:Int),())=(jbK d.1,()))/\(d.1=false->((0:Int),())=(jbK d.1,()))
def o4:wO:=⟨[.val (.slice .int),.fn [.int] [.bool]],[.int],false,fun d=>[∀g∈d.1,wu (d.2.1.pre (g,()))],fun d=>(yZ (kZ (α:=Int) d.2.1.F) d.1,())⟩
def o6:Ann:=fun r=>match r with
 |2=>some fun σ=>{X:=Nat,sl:=fun i=>[(8,.dat .int (i:Int))],ob:=fun _=>[],inv:=fun i=>i<=(gd (.slice .int) σ 0).length/\∀b:Nat,b<i->kZ (gfb .int σ 1) (nth (gd (.slice .int) σ 0) b)=false,mu:=fun i=>(gd (.slice .int) σ 0).length-i}
 |_=>none
def o7:Prop:=∀(d:List Int×FnD [Ty.int] [Ty.bool]×Unit),(∀(g:Int),g∈d.1->wu (d.2.1.1 (g,())))->d.1.length<4611686018427387904->(∃(x:Nat),((0=(x:Int)/\True)/\True)/\x<=d.1.length/\∀(b:Nat),b<x->kZ d.2.1.2 (nth d.1 b)=false)/\∀(x:Nat),(x<=d.1.length/\∀(b:Nat),b<x->kZ d.2.1.2 (nth d.1 b)=false)->(decide ((x:Int)<d.1.length)=true->0<=(x:Int)/\(x:Int)<d.1.length/\asks (d.2.1.1 (nth d.1 (x:Int).toNat,())) (((d.2.1.2 (nth d.1 (x:Int).toNat,())).1=true->((x:Int),())=(yZ (kZ d.2.1.2) d.1,()))/\((d.2.1.2 (nth d.1 (x:Int).toNat,())).1=false->wn ((x:Int)+1)/\∃(a:Nat),(((x:Int)+1=(a:Int)/\True)/\True)/\(a<=d.1.length/\∀(b:Nat),b<a->kZ d.2.1.2 (nth d.1 b)=false)/\d.1.length-a<d.1.length-x)))/\(decide ((x:Int)<d.1.length)=false->((-1:Int),())=(yZ (kZ d.2.1.2) d.1,()))
def iR:wO:=⟨[.val (.slice .int),.fn [.int] [.bool]],[.bool],false,fun d=>[∀g∈d.1,wu (d.2.1.pre (g,()))],fun d=>(d.1.any (kZ (α:=Int) d.2.1.F),())⟩
def iS:Prop:=∀(d:List Int×FnD [Ty.int] [Ty.bool]×Unit),(∀(g:Int),g∈d.1->wu (d.2.1.1 (g,())))->(∀(g:Int),g∈d.1->wu (d.2.1.1 (g,())))/\(decide (0<=yZ (kZ d.2.1.2) d.1),())=(d.1.any (kZ d.2.1.2),())
def o8:wO:=⟨[.val (.slice tLw),.fn [tLw] [.bool]],[.int],false,fun d=>[∀g∈d.1,wu (d.2.1.pre (g,()))],fun d=>(yZ (kZ (α:=LwD) d.2.1.F) d.1,())⟩
def o9:Ann:=fun r=>match r with
 |2=>some fun σ=>{X:=Nat,sl:=fun i=>[(8,.dat .int (i:Int))],ob:=fun _=>[],inv:=fun i=>i<=(gd (.slice tLw) σ 0).length/\∀b:Nat,b<i->kZ (gfb tLw σ 1) (nth (gd (.slice tLw) σ 0) b)=false,mu:=fun i=>(gd (.slice tLw) σ 0).length-i}
 |_=>none
def pa:Prop:=∀(d:List LwD×FnD [tLw] [Ty.bool]×Unit),(∀(g:LwD),g∈d.1->wu (d.2.1.1 (g,())))->d.1.length<4611686018427387904->(∃(x:Nat),((0=(x:Int)/\True)/\True)/\x<=d.1.length/\∀(b:Nat),b<x->kZ d.2.1.2 (nth d.1 b)=false)/\∀(x:Nat),(x<=d.1.length/\∀(b:Nat),b<x->kZ d.2.1.2 (nth d.1 b)=false)->(decide ((x:Int)<d.1.length)=true->0<=(x:Int)/\(x:Int)<d.1.length/\asks (d.2.1.1 (nth d.1 (x:Int).toNat,())) (((d.2.1.2 (nth d.1 (x:Int).toNat,())).1=true->((x:Int),())=(yZ (kZ d.2.1.2) d.1,()))/\((d.2.1.2 (nth d.1 (x:Int).toNat,())).1=false->wn ((x:Int)+1)/\∃(a:Nat),(((x:Int)+1=(a:Int)/\True)/\True)/\(a<=d.1.length/\∀(b:Nat),b<a->kZ d.2.1.2 (nth d.1 b)=false)/\d.1.length-a<d.1.length-x)))/\(decide ((x:Int)<d.1.length)=false->((-1:Int),())=(yZ (kZ d.2.1.2) d.1,()))
def iT:wO:=⟨[.val (.slice tLw),.fn [tLw] [.bool]],[.bool],false,fun d=>[∀g∈d.1,wu (d.2.1.pre (g,()))],fun d=>(d.1.any (kZ (α:=LwD) d.2.1.F),())⟩
def iU:Prop:=∀(d:List LwD×FnD [tLw] [Ty.bool]×Unit),(∀(g:LwD),g∈d.1->wu (d.2.1.1 (g,())))->(∀(g:LwD),g∈d.1->wu (d.2.1.1 (g,())))/\(decide (0<=yZ (kZ d.2.1.2) d.1),())=(d.1.any (kZ d.2.1.2),())
def iV:wO:=⟨[.val (.slice tPe),.fn [tPe] [.bool]],[.int],false,fun d=>[∀g∈d.1,wu (d.2.1.pre (g,()))],fun d=>(yZ (kZ (α:=PeD) d.2.1.F) d.1,())⟩
def iW:Ann:=fun r=>match r with
 |2=>some fun σ=>{X:=Nat,sl:=fun i=>[(8,.dat .int (i:Int))],ob:=fun _=>[],inv:=fun i=>i<=(gd (.slice tPe) σ 0).length/\∀b:Nat,b<i->kZ (gfb tPe σ 1) (nth (gd (.slice tPe) σ 0) b)=false,mu:=fun i=>(gd (.slice tPe) σ 0).length-i}
 |_=>none
def iX:Prop:=∀(d:List PeD×FnD [tPe] [Ty.bool]×Unit),(∀(g:PeD),g∈d.1->wu (d.2.1.1 (g,())))->d.1.length<4611686018427387904->(∃(x:Nat),((0=(x:Int)/\True)/\True)/\x<=d.1.length/\∀(b:Nat),b<x->kZ d.2.1.2 (nth d.1 b)=false)/\∀(x:Nat),(x<=d.1.length/\∀(b:Nat),b<x->kZ d.2.1.2 (nth d.1 b)=false)->(decide ((x:Int)<d.1.length)=true->0<=(x:Int)/\(x:Int)<d.1.length/\asks (d.2.1.1 (nth d.1 (x:Int).toNat,())) (((d.2.1.2 (nth d.1 (x:Int).toNat,())).1=true->((x:Int),())=(yZ (kZ d.2.1.2) d.1,()))/\((d.2.1.2 (nth d.1 (x:Int).toNat,())).1=false->wn ((x:Int)+1)/\∃(a:Nat),(((x:Int)+1=(a:Int)/\True)/\True)/\(a<=d.1.length/\∀(b:Nat),b<a->kZ d.2.1.2 (nth d.1 b)=false)/\d.1.length-a<d.1.length-x)))/\(decide ((x:Int)<d.1.length)=false->((-1:Int),())=(yZ (kZ d.2.1.2) d.1,()))
def dt:wO:=⟨[.val (.slice tPe),.fn [tPe] [.bool]],[.bool],false,fun d=>[∀g∈d.1,wu (d.2.1.pre (g,()))],fun d=>(d.1.any (kZ (α:=PeD) d.2.1.F),())⟩
def du:Prop:=∀(d:List PeD×FnD [tPe] [Ty.bool]×Unit),(∀(g:PeD),g∈d.1->wu (d.2.1.1 (g,())))->(∀(g:PeD),g∈d.1->wu (d.2.1.1 (g,())))/\(decide (0<=yZ (kZ d.2.1.2) d.1),())=(d.1.any (kZ d.2.1.2),())
def xu:wO:=⟨[.val .int,.rfn [.int] [.bool]],[.bool],false,fun d=>[wu (d.2.1.pre (d.1,()))],fun d=>(!(kZ (α:=Int) d.2.1.F d.1),())⟩
def xv:Prop:=∀(d:Int×FnD [Ty.int] [Ty.bool]×Unit),wu (d.2.1.1 (d.1,()))->asks (d.2.1.1 (d.1,())) ((!(d.2.1.2 (d.1,())).1,())=(!kZ d.2.1.2 d.1,()))
def D6:wO:=⟨[.val (.slice .int),.fn [.int] [.bool]],[.bool],false,fun d=>[∀g∈d.1,wu (d.2.1.pre (g,()))],fun d=>(d.1.all (kZ (α:=Int) d.2.1.F),())⟩
def D7:Prop:=∀(d:List Int×FnD [Ty.int] [Ty.bool]×Unit),(∀(g:Int),g∈d.1->wu (d.2.1.1 (g,())))->(∀(g:Int),g∈d.1->wu [wu (d.2.1.1 (g,()))])/\(!d.1.any (kZ fun(a:Int×Unit)=>(!kZ d.2.1.2 a.1,())),())=(d.1.all (kZ d.2.1.2),())
def xw:wO:=⟨[.val tLw,.rfn [tLw] [.bool]],[.bool],false,fun d=>[wu (d.2.1.pre (d.1,()))],fun d=>(!(kZ (α:=LwD) d.2.1.F d.1),())⟩
def xy:Prop:=∀(d:LwD×FnD [tLw] [Ty.bool]×Unit),wu (d.2.1.1 (d.1,()))->asks (d.2.1.1 (d.1,())) ((!(d.2.1.2 (d.1,())).1,())=(!kZ d.2.1.2 d.1,()))
def D8:wO:=⟨[.val (.slice tLw),.fn [tLw] [.bool]],[.bool],false,fun d=>[∀g∈d.1,wu (d.2.1.pre (g,()))],fun d=>(d.1.all (kZ (α:=LwD) d.2.1.F),())⟩
def D9:Prop:=∀(d:List LwD×FnD [tLw] [Ty.bool]×Unit),(∀(g:LwD),g∈d.1->wu (d.2.1.1 (g,())))->(∀(g:LwD),g∈d.1->wu [wu (d.2.1.1 (g,()))])/\(!d.1.any (kZ fun(a:LwD×Unit)=>(!kZ d.2.1.2 a.1,())),())=(d.1.all (kZ d.2.1.2),())
def pb:wO:=⟨[.val tPe,.rfn [tPe] [.bool]],[.bool],false,fun d=>[wu (d.2.1.pre (d.1,()))],fun d=>(!(kZ (α:=PeD) d.2.1.F d.1),())⟩
def pd:Prop:=∀(d:PeD×FnD [tPe] [Ty.bool]×Unit),wu (d.2.1.1 (d.1,()))->asks (d.2.1.1 (d.1,())) ((!(d.2.1.2 (d.1,())).1,())=(!kZ d.2.1.2 d.1,()))
def tO:wO:=⟨[.val (.slice tPe),.fn [tPe] [.bool]],[.bool],false,fun d=>[∀g∈d.1,wu (d.2.1.pre (g,()))],fun d=>(d.1.all (kZ (α:=PeD) d.2.1.F),())⟩
def tP:Prop:=∀(d:List PeD×FnD [tPe] [Ty.bool]×Unit),(∀(g:PeD),g∈d.1->wu (d.2.1.1 (g,())))->(∀(g:PeD),g∈d.1->wu [wu (d.2.1.1 (g,()))])/\(!d.1.any (kZ fun(a:PeD×Unit)=>(!kZ d.2.1.2 a.1,())),())=(d.1.all (kZ d.2.1.2),())
def Jk:wO:=⟨[.val .int],[.bool],false,fun _=>[],fun d=>(kX d.1 0 5,())⟩
def Jl:Prop:=∀(d:Int×Unit),(kX d.1 (0:Int) (5:Int),())=(kX d.1 (0:Int) (5:Int),())
def Jm:wO:=⟨[.val .int],[.bool],false,fun _=>[],fun d=>(kX d.1 0 99,())⟩
def Jn:Prop:=∀(d:Int×Unit),(kX d.1 (0:Int) (99:Int),())=(kX d.1 (0:Int) (99:Int),())
def Jo:wO:=⟨[.val tPe,.ref tCr,.rfn [.int] [.bool],.rfn [.int] [.bool]],[.bool],false,fun d=>[∀g∈U.lv d.1,wu (d.2.2.1.pre (g,())),∀g∈qT d.1,wu (d.2.2.2.1.pre (g,()))],fun d=>(Lf d.2.1 (kZ d.2.2.1.F) (kZ d.2.2.2.1.F) d.1,())⟩
def Jp:Prop:=∀(d:PeD×CrD×FnD [Ty.int] [Ty.bool]×FnD [Ty.int] [Ty.bool]×Unit),(∀(g:Int),g∈U.lv d.1->wu (d.2.2.1.1 (g,())))->(∀(g:Int),g∈qT d.1->wu (d.2.2.2.1.1 (g,())))->d.1.1.length<4611686018427387904->(decide ((d.1.1.length:Int)=d.2.1.1)=true->∀(g:Int),g∈d.1.1->wu (d.2.2.1.1 (g,())))/\(((decide ((d.1.1.length:Int)=d.2.1.1)&&d.1.1.all (kZ d.2.2.1.2)&&kX d.1.2.1 (0:Int) (255:Int)&&kX d.1.2.2.1 (0:Int) (255:Int))=true->d.1.2.2.2.1.length<4611686018427387904)->((decide ((d.1.1.length:Int)=d.2.1.1)&&d.1.1.all (kZ d.2.2.1.2)&&kX d.1.2.1 (0:Int) (255:Int)&&kX d.1.2.2.1 (0:Int) (255:Int)&&decide ((d.1.2.2.2.1.length:Int)<=10))=true->∀(g:Int),g∈d.1.2.2.2.1->wu (d.2.2.2.1.1 (g,())))/\(decide ((d.1.1.length:Int)=d.2.1.1)&&d.1.1.all (kZ d.2.2.1.2)&&kX d.1.2.1 (0:Int) (255:Int)&&kX d.1.2.2.1 (0:Int) (255:Int)&&decide ((d.1.2.2.2.1.length:Int)<=10)&&d.1.2.2.2.1.all (kZ d.2.2.2.1.2)&&kX d.1.q4.2.1 (0:Int) (1000:Int),())=(Lf d.2.1 (kZ d.2.2.1.2) (kZ d.2.2.2.1.2) d.1,()))
def Jq:wO:=⟨[.val tLw],[.bool],false,fun _=>[],fun d=>(eY d.1,())⟩
def Jr:Prop:=∀(d:LwD×Unit),(kX d.1.1 (1:Int) (5:Int)&&kX d.1.2.1 (1:Int) (8:Int),())=(eY d.1,())
def Js:wO:=⟨[.val .int,.ref tCr],[.bool],false,fun d=>[wn (U.la d.2.1-1)],fun d=>(kX d.1 0 (U.la d.2.1-1),())⟩
def Jt:Prop:=∀(d:Int×CrD×Unit),wn (U.la d.2.1-1)->wn (d.2.1.1-1)/\(kX d.1 (0:Int) (d.2.1.1-1),())=(kX d.1 (0:Int) (U.la d.2.1-1),())
def QZ:wO:=⟨[.val tCr,.val tJb],[.int],false,fun _=>[],fun d=>(vl d.1 d.2.1,())⟩
abbrev jh8 (d:CrD×JbD×Unit):=(!kX d.2.1.1 (0:Int) (U.la d.1-1)|| !kX d.2.1.2.1 (0:Int) (U.la d.1-1)||decide (d.2.1.1=d.2.1.2.1)|| !kX d.2.1.2.2.1 (0:Int) (99:Int)|| !kX d.2.1.2.2.2.1 (0:Int) (7:Int)|| !kX d.2.1.q4.1 (0:Int) (3:Int)|| !kX d.2.1.q4.2.1 (1:Int) (8:Int))
abbrev jgn (d:CrD×JbD×Unit):=(8<(d.1.2.1.length:Int))
abbrev jh9:=(kZ fun(a:LwD×Unit)=>(eY a.1,()))
def Q1:Prop:=∀(d:CrD×JbD×Unit),((!!kX d.1.1 (2:Int) (5:Int))=true->d.1.2.1.length<4611686018427387904)->((!(!kX d.1.1 (2:Int) (5:Int)||decide (jgn d)))=true->∀(g:PeD),g∈d.1.2.1->wu [∀(c:Int),c∈U.lv g->wu [],∀(c:Int),c∈qT g->wu []])/\(((!(!kX d.1.1 (2:Int) (5:Int)||decide (jgn d)|| !d.1.2.1.all (kZ fun(b:PeD×Unit)=>(Lf d.1 (kZ fun(b:Int×Unit)=>(kX b.1 (0:Int) (5:Int),())) (kZ fun(b:Int×Unit)=>(kX b.1 (0:Int) (99:Int),())) b.1,()))))=true->d.1.2.2.1.length<4611686018427387904)->((!(!kX d.1.1 (2:Int) (5:Int)||decide (jgn d)|| !d.1.2.1.all (kZ fun(a:PeD×Unit)=>(Lf d.1 (kZ fun(a:Int×Unit)=>(kX a.1 (0:Int) (5:Int),())) (kZ fun(a:Int×Unit)=>(kX a.1 (0:Int) (99:Int),())) a.1,()))||decide ((d.1.2.2.1.length:Int)≠4)))=true->∀(g:LwD),g∈d.1.2.2.1->wu [])/\((!kX d.1.1 (2:Int) (5:Int)||decide (jgn d)|| !d.1.2.1.all (kZ fun(a:PeD×Unit)=>(Lf d.1 (kZ fun(a:Int×Unit)=>(kX a.1 (0:Int) (5:Int),())) (kZ fun(a:Int×Unit)=>(kX a.1 (0:Int) (99:Int),())) a.1,()))||decide ((d.1.2.2.1.length:Int)≠4)|| !d.1.2.2.1.all jh9)=true->((30:Int),())=(vl d.1 d.2.1,()))/\((!kX d.1.1 (2:Int) (5:Int)||decide (jgn d)|| !d.1.2.1.all (kZ fun(a:PeD×Unit)=>(Lf d.1 (kZ fun(a:Int×Unit)=>(kX a.1 (0:Int) (5:Int),())) (kZ fun(a:Int×Unit)=>(kX a.1 (0:Int) (99:Int),())) a.1,()))||decide ((d.1.2.2.1.length:Int)≠4)|| !d.1.2.2.1.all jh9)=false->wn (U.la d.1-1)/\((!!kX d.2.1.1 (0:Int) (U.la d.1-1))=true->wn (U.la d.1-1))/\((jh8 d)=true->((31:Int),())=(vl d.1 d.2.1,()))/\((jh8 d)=false->((0:Int),())=(vl d.1 d.2.1,()))))
theorem Q2:MA:=by
 intro d;rfl
theorem gF:wX PR 152 Mz:=wJ Q2 Tryz.func152 kcN koN
theorem MB:Jj:=by
 intro d a b;exact⟨a,b,rfl⟩
theorem Ju:wX PR 235 lT:=wJ MB Tryz.func235 kcN koN
theorem Jv:G8:=by
 rintro⟨s,⟨⟩⟩ e;refine⟨⟨(s,0),⟨⟨rfl,rfl,tZ⟩,tZ⟩,e,by simp⟩,?_⟩;rintro⟨x,n⟩ ⟨a,b⟩;have a:BT.qz x:=a;have g:=BT.size_le s;have f:=BT.size_le x;refine⟨fun h=> ?_,fun h=> ?_⟩;have h:x≠0:=ja h;obtain⟨d,i,j⟩:=BT.pred a h;have c:=a;unfold BT.qz at c;simp only at b⊢;exact⟨iZ6,by omega,by omega,(gm x (x-1),n+1),⟨⟨rfl,rfl,tZ⟩,tZ⟩,⟨d,(by omega:n+1+BT.size (gm x (x-1))=BT.size s)⟩,(by unfold BT.qz at d;omega:(gm x (x-1)).toNat<x.toNat)⟩;have h:x=0:=(by simpa using h);subst h;simp only[BT.size_zero] at b;simp only at b⊢;rw[show n=BT.size s by omega]
theorem G9:wX PR 214 gg:=vF G7 Jv Tryz.func214 kcN koN
theorem UA:QY:=by
 rintro⟨b,⟨⟩⟩;exact⟨fun h=>by simp only at h;subst h;rfl,fun h=>by simp only at h;subst h;rfl⟩
theorem Q3:wX PR 208 QX:=wJ UA Tryz.func208 kcN koN
theorem rZ:o7:=by
 rintro⟨l,f,⟨⟩⟩ a g;refine⟨⟨0,⟨⟨rfl,tZ⟩,tZ⟩,jp _,fun b c=>by omega⟩,fun i hi=>⟨fun h=> ?_,fun h=> ?_⟩⟩;have h:i<l.length:=(by simpa using h);simp only[jw] at*;refine⟨by omega,by omega,vI _ (a _ (L.we h)) ⟨fun c=> ?_,fun c=>⟨iZ6,i+1,⟨⟨by simp,tZ⟩,tZ⟩,⟨by omega,fun b d=> ?_⟩,by omega⟩⟩⟩;rw[yE (p:=kZ (α:=Int) f.F) h hi.2 c];by_cases e:b=i;subst e;exact c;exact hi.2 b (by omega);have h:l.length<=i:=(by simpa using h);rw[vn (p:=kZ (α:=Int) f.F) h hi.2]
theorem pe:wX PR 131 o4:=vF o6 rZ Tryz.func131 kcN koN
theorem lU:iS:=by
 rintro⟨l,f,⟨⟩⟩ a;refine⟨a,?_⟩;exact jF (·,()) (fV (kZ (α:=Int) f.F) l)
theorem yG:wX PR 84 iR:=wJ lU Tryz.func84 (kcC pe kcN) koN
theorem r8:pa:=by
 rintro⟨l,f,⟨⟩⟩ a g;refine⟨⟨0,⟨⟨rfl,tZ⟩,tZ⟩,jp _,fun b c=>by omega⟩,fun i hi=>⟨fun h=> ?_,fun h=> ?_⟩⟩;have h:i<l.length:=(by simpa using h);simp only[jw] at*;refine⟨by omega,by omega,vI _ (a _ (L.we h)) ⟨fun c=> ?_,fun c=>⟨iZ6,i+1,⟨⟨by simp,tZ⟩,tZ⟩,⟨by omega,fun b d=> ?_⟩,by omega⟩⟩⟩;rw[yE (p:=kZ (α:=LwD) f.F) h hi.2 c];by_cases e:b=i;subst e;exact c;exact hi.2 b (by omega);have h:l.length<=i:=(by simpa using h);rw[vn (p:=kZ (α:=LwD) f.F) h hi.2]
theorem pf:wX PR 217 o8:=vF o9 r8 Tryz.func217 kcN koN
theorem lV:iU:=by
 rintro⟨l,f,⟨⟩⟩ a;refine⟨a,?_⟩;exact jF (·,()) (fV (kZ (α:=LwD) f.F) l)
theorem iY:wX PR 190 iT:=wJ lV Tryz.func190 (kcC pf kcN) koN
theorem lW:iX:=by
 rintro⟨l,f,⟨⟩⟩ a g;refine⟨⟨0,⟨⟨rfl,tZ⟩,tZ⟩,jp _,fun b c=>by omega⟩,fun i hi=>⟨fun h=> ?_,fun h=> ?_⟩⟩;have h:i<l.length:=(by simpa using h);simp only[jw] at*;refine⟨by omega,by omega,vI _ (a _ (L.we h)) ⟨fun c=> ?_,fun c=>⟨iZ6,i+1,⟨⟨by simp,tZ⟩,tZ⟩,⟨by omega,fun b d=> ?_⟩,by omega⟩⟩⟩;rw[yE (p:=kZ (α:=PeD) f.F) h hi.2 c];by_cases e:b=i;subst e;exact c;exact hi.2 b (by omega);have h:l.length<=i:=(by simpa using h);rw[vn (p:=kZ (α:=PeD) f.F) h hi.2]
theorem iZ:wX PR 216 iV:=vF iW lW Tryz.func216 kcN koN
theorem d7:du:=by
 rintro⟨l,f,⟨⟩⟩ a;refine⟨a,?_⟩;exact jF (·,()) (fV (kZ (α:=PeD) f.F) l)
theorem dx:wX PR 188 dt:=wJ d7 Tryz.func188 (kcC iZ kcN) koN
theorem Cn:xv:=by
 intro d h;exact vI _ h rfl
theorem xz:wX PR 187 xu:=wJ Cn Tryz.func187 kcN koN
theorem Ha:D7:=by
 intro d h;exact⟨fun g a=>⟨h g a,tZ⟩,jF (·,()) (rY d.snd.fst.2 d.fst)⟩
theorem Ea:wX PR 155 D6:=wJ Ha Tryz.func155 (kcC yG (kcC xz kcN)) koN
theorem Co:xy:=by
 intro d h;exact vI _ h rfl
theorem xA:wX PR 191 xw:=wJ Co Tryz.func191 kcN koN
theorem Hb:D9:=by
 intro d h;exact⟨fun g a=>⟨h g a,tZ⟩,jF (·,()) (rY d.snd.fst.2 d.fst)⟩
theorem Eb:wX PR 159 D8:=wJ Hb Tryz.func159 (kcC iY (kcC xA kcN)) koN
theorem r9:pd:=by
 intro d h;exact vI _ h rfl
theorem pg:wX PR 189 pb:=wJ r9 Tryz.func189 kcN koN
theorem xB:tP:=by
 intro d h;exact⟨fun g a=>⟨h g a,tZ⟩,jF (·,()) (rY d.snd.fst.2 d.fst)⟩
theorem tQ:wX PR 158 tO:=wJ xB Tryz.func158 (kcC dx (kcC pg kcN)) koN
theorem MC:Jl:=fun _=>rfl
theorem Jw:wX PR 151 Jk:=wJ MC Tryz.func151 (kcC gF kcN) koN
theorem MD:Jn:=fun _=>rfl
theorem Jx:wX PR 153 Jm:=wJ MD Tryz.func153 (kcC gF kcN) koN
theorem ME:Jp:=by
 unfold Jp Prod.q4;rintro⟨p,c,f,g,⟨⟩⟩ a b _;exact⟨fun _=>a,fun _=>⟨fun _=>b,rfl⟩⟩
theorem Jy:wX PR 154 Jo:=wJ ME Tryz.func154 (kcC gF (kcC Ea kcN)) koN
theorem MF:Jr:=fun _=>rfl
theorem Jz:wX PR 156 Jq:=wJ MF Tryz.func156 (kcC gF kcN) koN
theorem MG:Jt:=fun _ h=>⟨h,rfl⟩
theorem JA:wX PR 157 Js:=wJ MG Tryz.func157 (kcC gF kcN) koN
theorem jaw (c:CrD) (p:PeD):Lf c (fun x=>kX x 0 5) (fun x=>kX x 0 99) p=eX (U.la c) p:=by
 rw[jX];simp only[Lf,eX,kX,ji,jo];constructor;rintro⟨⟨⟨⟨⟨⟨e,f⟩,a⟩,b⟩,k⟩,i⟩,d⟩;exact⟨⟨e,a.1,a.2,b.1,b.2,by omega,d.1,d.2⟩,f,i⟩;rintro⟨⟨e,a,g,b,h,k,d,j⟩,f,i⟩;exact⟨⟨⟨⟨⟨⟨e,f⟩,a,g⟩,b,h⟩,by omega⟩,i⟩,d,j⟩
theorem jax (c:CrD):(((((!kX c.1 2 5||decide (8<((c.2.1.length:Nat):Int)))|| !c.2.1.all (eX (U.la c)))||decide (((c.2.2.1.length:Nat):Int)≠4))|| !c.2.2.1.all eY))= !wo c:=by
 unfold wo;show _= !(decide (2<=c.1/\c.1<=5/\c.2.1.length<=8/\c.2.2.1.length=4)&&(c.2.1.all (eX (U.la c))&&c.2.2.1.all eY));cases c.2.1.all (eX (U.la c))<;>cases c.2.2.1.all eY<;>simp only[kX,Bool.not_true,Bool.not_false,Bool.or_true,kO,Bool.and_true,kw,Bool.true_or]
 rw[jX];simp only[zr,jQ,kl,jo,jH];omega
theorem jch (c:CrD) (j:JbD):((((((!kX j.1 0 (U.la c-1)|| !kX j.2.1 0 (U.la c-1))||decide (j.1=j.2.1))|| !kX j.2.2.1 0 99)|| !kX j.2.2.2.1 0 7)|| !kX j.2.2.2.2.1 0 3)|| !kX j.2.2.2.2.2.1 1 8)= !wZ c j:=by
 have key:(wZ c j=false)↔¬(0<=j.1/\j.1<=U.la c-1/\0<=j.2.1/\j.2.1<=U.la c-1/\j.1≠j.2.1/\0<=j.2.2.1/\j.2.2.1<=99/\0<=j.2.2.2.1/\j.2.2.2.1<=7/\0<=j.2.2.2.2.1/\j.2.2.2.2.1<=3/\1<=j.2.2.2.2.2.1/\j.2.2.2.2.2.1<=8):=by
  unfold wZ;exact jH
 rw[jX,jQ,key];simp only[kX,zr,jQ,kl,jo,jH];omega
theorem UB:Q1:=by
 unfold Q1 jh9 jgn jh8 Prod.q4;rintro⟨c,j,⟨⟩⟩;have f:∀p,kZ (fun(x:PeD×Unit)=>(Lf c (kZ fun(x:Int×Unit)=>(kX x.fst 0 5,())) (kZ fun(x:Int×Unit)=>(kX x.fst 0 99,())) x.fst,())) p=eX (U.la c) p:=fun p=>jaw c p
 have e2:(kZ fun(x:LwD×Unit)=>(eY x.fst,()))=eY:=rfl;have d:=jax c;have e:=jch c j;intro _;refine⟨fun _ g _=>⟨fun _ _=>tZ,fun _ _=>tZ,tZ⟩,fun _=> ?_⟩;simp only at d e⊢;rw[funext f,e2,d,e];refine⟨fun _ _ _=>tZ,fun h=> ?_,fun h=> ?_⟩;have h:wo c=false:=(by simpa using h);unfold vl;rw[je h];have h:wo c=true:=(by simpa using h);have i:2<=U.la c/\U.la c<=5:=by
  unfold wo at h;simp only[ji,jo] at h;exact⟨h.1.1,h.1.2.1⟩
 have b:wn (U.la c-1):=iZ6;refine⟨b,fun _=>b,fun a=> ?_,fun a=> ?_⟩;have a:wZ c j=false:=(by simpa using a);unfold vl;rw[jd (by rw[h];simp),je a];have a:wZ c j=true:=(by simpa using a);unfold vl;rw[jd (by rw[h];simp),jd (by rw[a];simp)]
theorem FW:wX PR 115 QZ:=wJ UB Tryz.func115 (kcC gF (kcC tQ (kcC Eb (kcC Jw (kcC Jx (kcC Jy (kcC Jz (kcC JA kcN)))))))) koN
abbrev tTk:Ty:= .st [tCr,tJb,tLw]
abbrev TkD:Type:=CrD×JbD×LwD×Unit
namespace U
def tk (o:Option TkD):TkD:=wE (Ty.dflt tTk) o
def tc (t:TkD):CrD:=t.1
def tj (t:TkD):JbD:=t.2.1
def tl (t:TkD):LwD:=t.2.2.1
def Gf (c:CrD) (j:JbD):Option TkD:=if vl c j=0 then some (c,j,cG c j,()) else none
def cu (t:TkD):Prop:=wo (tc t)=true/\wZ (tc t) (tj t)=true/\tl t=cG (tc t) (tj t)
def SJ (a b c:Bool):Int:=jbK a+2*jbK b+4*jbK c
def yc (t:TkD) (p:PeD):Int:=SJ (ct p (WP (tj t))) (!wD (fd p) (OM (tj t))) (!wD (cl p) (mB (tj t)))
def s9 (t:TkD) (p:PeD):List (Int×Int):=[(0,jbK (!ct p (WP (tj t)))),(1,iP (fd p/2^(OM (tj t)).toNat) 1),(2,iP (cl p/2^(mB (tj t)).toNat) 1)]
def bj (all left:List (Int×Int)) (out:Int):Prop:=BT.qz out/\left.Nodup/\(∀e∈left,e∈all)/\∀p:Nat,BT.has out p=true↔∃e∈all,e∉left/\e.2=0/\e.1.toNat=p
def yV (t:TkD) (s:Int) (n:Nat):List (Int×PeD×Unit):=((List.range n).filter (fun(i:Nat)=>s8 s (i:Int))).map (fun(i:Nat)=>((i:Int),nth (wd (tc t)) i,()))
def xi (t:TkD) (s:Int):List (Int×PeD×Unit):=yV t s (wd (tc t)).length
def jn (t:TkD) (a b:Int) (x:Int×PeD×Unit):Bool:=decide (S1 (tl t)<=min (nth (lv x.2.1) a.toNat) (nth (lv x.2.1) b.toNat))
def mF (t:TkD) (s a b:Int):Bool:=(xi t s).any (jn t a b)
def ac (t:TkD) (a b:Int) (q:List (Int×PeD×Unit)):Bool:=match q.getLast? with|some x=>jn t a b x|none=>false
end U
def Cq:wO:=⟨[.val (.slice .int),.val .int],[.int],false,fun _=>[],fun d=>(yZ (fun x=>decide (x=d.2.1)) d.1,())⟩
def Cr:Ann:=fun r=>match r with
 |2=>some fun σ=>{X:=Nat,sl:=fun i=>[(8,.dat .int (i:Int))],ob:=fun _=>[],inv:=fun i=>i<=(gd (.slice .int) σ 0).length/\∀b:Nat,b<i->decide (nth (gd (.slice .int) σ 0) b=gd .int σ 1)=false,mu:=fun i=>(gd (.slice .int) σ 0).length-i}
 |_=>none
def Cs:Prop:=∀(d:List Int×Int×Unit),d.1.length<4611686018427387904->(∃(x:Nat),((0=(x:Int)/\True)/\True)/\x<=d.1.length/\∀(b:Nat),b<x->decide (nth d.1 b=d.2.1)=false)/\∀(x:Nat),(x<=d.1.length/\∀(b:Nat),b<x->decide (nth d.1 b=d.2.1)=false)->(decide ((x:Int)<d.1.length)=true->0<=(x:Int)/\(x:Int)<d.1.length/\(decide (d.2.1=nth d.1 (x:Int).toNat)=true->((x:Int),())=(yZ (fun(c:Int)=>decide (c=d.2.1)) d.1,()))/\(decide (d.2.1=nth d.1 (x:Int).toNat)=false->wn ((x:Int)+1)/\∃(a:Nat),(((x:Int)+1=(a:Int)/\True)/\True)/\(a<=d.1.length/\∀(b:Nat),b<a->decide (nth d.1 b=d.2.1)=false)/\d.1.length-a<d.1.length-x))/\(decide ((x:Int)<d.1.length)=false->((-1:Int),())=(yZ (fun(c:Int)=>decide (c=d.2.1)) d.1,()))
def sa:wO:=⟨[.val (.slice .int),.val .int],[.bool],false,fun _=>[],fun d=>(d.1.any (fun x=>decide (x=d.2.1)),())⟩
def sd:Prop:=∀(d:List Int×Int×Unit),(decide (0<=yZ (fun(a:Int)=>decide (a=d.2.1)) d.1),())=(d.1.any fun(b:Int)=>decide (b=d.2.1),())
def UC:wO:=⟨[.val tCr,.val tJb],[.ptr tTk,.int],false,fun _=>[],fun d=>(Gf d.1 d.2.1,vl d.1 d.2.1,())⟩
def UD:Prop:=∀(d:CrD×JbD×Unit),(decide (vl d.1 d.2.1≠0)=true->(none,vl d.1 d.2.1,())=(Gf d.1 d.2.1,vl d.1 d.2.1,()))/\(decide (vl d.1 d.2.1≠0)=false->0<=d.2.1.q4.1/\d.2.1.q4.1<(d.1.2.2.1.length:Int)/\(some (d.1,d.2.1,nth d.1.2.2.1 d.2.1.q4.1.toNat,()),(0:Int),())=(Gf d.1 d.2.1,vl d.1 d.2.1,()))
def LM (d:PD [.ref (.ptr tTk),.ref (.uint .u64)]) (xs:List (Ty.st [.int,tPe]).Data):Prop:=xs=xi (U.tk d.1) d.2.1
def Q4 (d:PD [.ref (.ptr tTk),.ref (.uint .u64)]):AR (YS [.int,tPe]):=fun r=>match r with
 |1=>some fun _ _=>{X:=Nat,sl:=fun i=>[(12,.dat .int (i:Int))],ob:=fun _=>[],ys:=fun i=>(yV (U.tk d.1) d.2.1 i,true),inv:=fun i=>i<=(wd (U.tc (U.tk d.1))).length,mu:=fun i=>(wd (U.tc (U.tk d.1))).length-i}
 |_=>none
abbrev jgo (d:Option (CrD×JbD×LwD×Unit)×Int×Unit):=(wE (((0:Int),[],[],()),((0:Int),(0:Int),(0:Int),(0:Int),(0:Int),(0:Int),()),((0:Int),(0:Int),false,()),()) d.1)
abbrev jeV (d:Option (CrD×JbD×LwD×Unit)×Int×Unit):=(wd (U.tc (U.tk d.1)))
abbrev jgp (x:Nat)(d:Option (CrD×JbD×LwD×Unit)×Int×Unit):=((x:Int),nth (jgo d).1.2.1 (x:Int).toNat,())
abbrev jhw (x:Nat)(a:Nat):=(((x:Int)+1=(a:Int)/\True)/\True)
def ce:Prop:=∀(d:Option (CrD×JbD×LwD×Unit)×Int×Unit) (l:Nat),d.1.isSome=true->(jeV d).length<=60->d.1.isSome=true/\((jgo d).1.2.1.length<4611686018427387904->(∃(x:Nat),((0=(x:Int)/\True)/\True)/\([],true)=(yV (U.tk d.1) d.2.1 x,true)/\x<=(jeV d).length)/\∀(x:Nat),x<=(jeV d).length->(decide ((x:Int)<(jgo d).1.2.1.length)=true->0<=(x:Int)/\(x:Int)<(jgo d).1.2.1.length/\0<=(x:Int)/\(x:Int)<=64/\(s8 d.2.1 (x:Int)=true->l=l/\(∃(rest:List (Int×PeD×Unit)),yV (U.tk d.1) d.2.1 x++[(jgp x d)]++rest=xi (U.tk d.1) d.2.1)/\(((s8 d.2.1 (x:Int)&& !true)=true->true=true->yV (U.tk d.1) d.2.1 x++[(jgp x d)]=xi (U.tk d.1) d.2.1)/\((s8 d.2.1 (x:Int)&& !true)=false->wn ((x:Int)+1)/\∃(a:Nat),(jhw x a)/\(yV (U.tk d.1) d.2.1 x++[(jgp x d)],true)=(yV (U.tk d.1) d.2.1 a,true)/\a<=(jeV d).length/\(jeV d).length-a<(jeV d).length-x))/\((s8 d.2.1 (x:Int)&& !false)=true->false=true->yV (U.tk d.1) d.2.1 x++[(jgp x d)]=xi (U.tk d.1) d.2.1)/\((s8 d.2.1 (x:Int)&& !false)=false->wn ((x:Int)+1)/\∃(a:Nat),(jhw x a)/\(yV (U.tk d.1) d.2.1 x++[(jgp x d)],false)=(yV (U.tk d.1) d.2.1 a,true)/\a<=(jeV d).length/\(jeV d).length-a<(jeV d).length-x))/\(s8 d.2.1 (x:Int)=false->((s8 d.2.1 (x:Int)&& !false)=true->true=true->yV (U.tk d.1) d.2.1 x=xi (U.tk d.1) d.2.1)/\((s8 d.2.1 (x:Int)&& !false)=false->wn ((x:Int)+1)/\∃(a:Nat),(jhw x a)/\(yV (U.tk d.1) d.2.1 x,true)=(yV (U.tk d.1) d.2.1 a,true)/\a<=(jeV d).length/\(jeV d).length-a<(jeV d).length-x)))/\(decide ((x:Int)<(jgo d).1.2.1.length)=false->true=true->yV (U.tk d.1) d.2.1 x=xi (U.tk d.1) d.2.1))
theorem i7:(Xu (ctx 28 [(235,lT)] []) (w6 Tryz.f234) [.int,tPe] [.ref (.ptr tTk),.ref (.uint .u64)] LM (fun d=>[d.1.isSome=true,(wd (U.tc (U.tk d.1))).length<=60]) (fun d _=>Q4 d) (fun d l=>hkY [.int,tPe] l [24] (fun q=>∃rest,LM d (q++rest)) (fun _=>none)))=ce:=by kernel_rfl
def wQ:oU:=⟨[.val (.ptr tTk),.val (.uint .u64)],fun _=>[],234,[.ptr tTk,.uint .u64],fun d=>(d.1,d.2.1,())⟩
def d8:Prop:=∀(d:Option (CrD×JbD×LwD×Unit)×Int×Unit),d=d
theorem nv:(Um (ctx 6 [] []) (fun _=>none) Tryz.f213 (w6 Tryz.f213) wQ)=d8:=by kernel_rfl
def PJ (sv:SV):Option (Prop×(List (Ty.st [.int,tPe]).Data->Prop)):=match sv with
 | .clo 234 [.ep b t,.ep c s]=>(match qA b (.ptr tTk) t,qA c (.uint .u64) s with
  |some a,some d=>some ((a.isSome=true/\(wd (U.tc (U.tk a))).length<=60),fun xs=>xs=xi (U.tk a) d)
  |_,_=>none)
 |_=>none
def UE:I8 [.int,tPe]:={ps:=[.ref (.ptr tTk),.ref .int,.ref .int,.own (.box 4 [.dat .bool]) true],slots:=[4,6,7,8],dst:=34,pre:=fun _=>[],G:=fun d q=>((d.2.2.2.1.1||ac (U.tk d.1) d.2.1 d.2.2.1 q,()),()),stop:=fun d q=>ac (U.tk d.1) d.2.1 d.2.2.1 q,seq:=PJ}
def Ct:Nat->Option ((ts:List Ty)×I8 ts):=fun r=>match r with
 |3=>some ⟨[.int,tPe],UE⟩
 |_=>none
def iC:wO:=⟨[.val (.ptr tTk),.val (.uint .u64),.val .int,.val .int],[.bool],false,
 fun d=>[d.1.isSome=true,cu (U.tk d.1),0<=d.2.2.1,d.2.2.1<U.la (U.tc (U.tk d.1)),0<=d.2.2.2.1,d.2.2.2.1<U.la (U.tc (U.tk d.1))],fun d=>(mF (U.tk d.1) d.2.1 d.2.2.1 d.2.2.2.1,())⟩
abbrev jia (d:Option (CrD×JbD×LwD×Unit)×Int×Int×Int×Unit)(x:Int×PeD×Unit):=((wE (((0:Int),[],[],()),((0:Int),(0:Int),(0:Int),(0:Int),(0:Int),(0:Int),()),((0:Int),(0:Int),false,()),()) d.1).2.2.1.1<=min (nth x.2.1.1 d.2.2.1.toNat) (nth x.2.1.1 d.2.2.2.1.toNat))
abbrev jhx (d:Option (CrD×JbD×LwD×Unit)×Int×Int×Int×Unit):=(fun(a:List (Int×PeD×Unit))=>ac (U.tk d.1) d.2.2.1 d.2.2.2.1 a)
def iD:Prop:=∀(d:Option (CrD×JbD×LwD×Unit)×Int×Int×Int×Unit),d.1.isSome=true->cu (U.tk d.1)->0<=d.2.2.1->d.2.2.1<U.la (U.tc (U.tk d.1))->0<=d.2.2.2.1->d.2.2.2.1<U.la (U.tc (U.tk d.1))->(d.1.isSome=true/\(wd (U.tc (U.tk d.1))).length<=60)/\True/\(d.1,d.2.2.1,d.2.2.2.1,(false||ac (U.tk d.1) d.2.2.1 d.2.2.2.1 [],()),())=(d.1,d.2.2.1,d.2.2.2.1,(false,()),())/\(∀(q:List (Int×PeD×Unit)) (x:Int×PeD×Unit) (rest:List (Int×PeD×Unit)),q++x::rest=xi (U.tk d.1) d.2.1->yF (jhx d) q->0<=d.2.2.1/\d.2.2.1<(x.2.1.1.length:Int)/\0<=d.2.2.2.1/\d.2.2.2.1<(x.2.1.1.length:Int)/\d.1.isSome=true/\(decide (jia d x)=true->ac (U.tk d.1) d.2.2.1 d.2.2.2.1 (q++[x])=true/\((true,()),())=((false||ac (U.tk d.1) d.2.2.1 d.2.2.2.1 (q++[x]),()),()))/\(decide (jia d x)=false->ac (U.tk d.1) d.2.2.1 d.2.2.2.1 (q++[x])=false/\((false||ac (U.tk d.1) d.2.2.1 d.2.2.2.1 q,()),())=((false||ac (U.tk d.1) d.2.2.1 d.2.2.2.1 (q++[x]),()),())))/\(∀(xs:List (Int×PeD×Unit)),xs=xi (U.tk d.1) d.2.1->yF (jhx d) xs->(false,())=(mF (U.tk d.1) d.2.1 d.2.2.1 d.2.2.2.1,()))/\∀(q:List (Int×PeD×Unit)) (x:Int×PeD×Unit) (rest:List (Int×PeD×Unit)),q++x::rest=xi (U.tk d.1) d.2.1->yF (jhx d) q->ac (U.tk d.1) d.2.2.1 d.2.2.2.1 (q++[x])=true->(false||ac (U.tk d.1) d.2.2.1 d.2.2.2.1 (q++[x]),())=(mF (U.tk d.1) d.2.1 d.2.2.1 d.2.2.2.1,())
theorem ph:(PG (Lw 33 [] [] [(213,wQ)] []) iC (fun _ _=>none) (hkC (Lw 33 [] [] [(213,wQ)] []) (fun _=>none) Ct [] []) Tryz.f237 (w6 Tryz.f237))=iD:=by kernel_rfl
theorem Ec:Cs:=by
 rintro⟨l,x,⟨⟩⟩ d;refine⟨⟨0,⟨⟨rfl,tZ⟩,tZ⟩,jp _,fun b a=>by omega⟩,fun i hi=>⟨fun h=> ?_,fun h=> ?_⟩⟩;have h:i<l.length:=(by simpa using h);simp only[jw] at*;refine⟨by omega,by omega,fun a=> ?_,fun a=>⟨iZ6,i+1,⟨⟨by simp,tZ⟩,tZ⟩,⟨by omega,fun b c=> ?_⟩,by omega⟩⟩;rw[yE (p:=fun y=>decide (y=x)) h hi.2 (by have:=ja a;rw[<-this];exact jL rfl)];by_cases e:b=i;subst e;exact zm (fun e=>jc a e.symm);exact hi.2 b (by omega);have h:l.length<=i:=(by simpa using h);rw[vn (p:=fun y=>decide (y=x)) h hi.2]
theorem Cu:wX PR 184 Cq:=vF Cr Ec Tryz.func184 kcN koN
theorem tR:sd:=by
 rintro⟨l,x,⟨⟩⟩;exact jF (·,()) (fV (fun y=>decide (y=x)) l)
theorem cX:wX PR 144 sa:=wJ tR Tryz.func144 (kcC Cu kcN) koN
theorem pi {c:CrD} {j:JbD} (h:vl c j=0):wo c=true/\wZ c j=true:=by
 unfold vl at h
 split at h
 omega
 split at h
 omega;rename_i a b;exact⟨by simpa using a,by simpa using b⟩
theorem wU {c:CrD} (h:wo c=true):2<=U.la c/\U.la c<=5/\(wd c).length<=8/\(yB c).length=4/\(∀p∈wd c,eX (U.la c) p=true)/\∀l∈yB c,eY l=true:=by
 unfold wo at h;simp only[ji,jo,jT] at h;exact⟨h.1.1,h.1.2.1,h.1.2.2.1,h.1.2.2.2,h.2.1,h.2.2⟩
theorem lX {c:CrD} {j:JbD} (h:wZ c j=true):(0<=Lx j/\Lx j<U.la c)/\(0<=Ge j/\Ge j<U.la c)/\Lx j≠Ge j/\(0<=OM j/\OM j<=7)/\(0<=mB j/\mB j<=3)/\(1<=YL j/\YL j<=8):=by
 unfold wZ at h;have h:=ja h;obtain⟨d,m,e,n,f,_,_,g,i,k,l,a,b⟩:=h;exact⟨⟨d,by omega⟩,⟨e,by omega⟩,f,⟨g,i⟩,⟨k,l⟩,a,b⟩
theorem UF {c:CrD} {j:JbD} (h:vl c j=0):Gf c j=some (c,j,cG c j,())/\cu (c,j,cG c j,()):=by
 obtain⟨a,b⟩:=pi h;exact⟨by unfold Gf;rw[je h],a,b,rfl⟩
theorem XF:UD:=by
 unfold UD Prod.q4;rintro⟨c,j,⟨⟩⟩;refine⟨fun h=> ?_,fun h=> ?_⟩;have h:vl c j≠0:=ja h;simp only;unfold Gf;rw[jd h];have h:vl c j=0:=(by simpa using h);obtain⟨b,d⟩:=pi h;obtain⟨_,_,_,a,_⟩:=wU b;obtain⟨_,_,_,_,hk,_⟩:=lX d;have hk:0<=j.2.2.2.2.1/\j.2.2.2.2.1<=3:=hk;have a:c.2.2.1.length=4:=a;refine⟨hk.1,by simp only;omega,?_⟩;simp only;rw[(UF h).1,h];rfl
theorem JB:wX PR 179 UC:=wJ XF Tryz.func179 (kcC FW kcN) koN
theorem tS (t:TkD) (s:Int) (n:Nat):yV t s (n+1)=yV t s n++(if s8 s (n:Int)=true then[((n:Int),nth (wd (U.tc t)) n,())] else[]):=by
 unfold yV;rw[L.vQ,zw]
 split<;>simp
theorem UG (t:TkD) (s:Int) {n m:Nat} (h:n<=m):∃rest,yV t s n++rest=yV t s m:=by
 induction m with
 |zero=>
  have:n=0:=(by omega);subst this;exact⟨[],by simp⟩
 |succ m b=>
  by_cases e:n=m+1;subst e;exact⟨[],by simp⟩;obtain⟨r,a⟩:=b (by omega);rw[tS,<-a];exact⟨r++_,by rw[jM]⟩
theorem se:ce:=by
 unfold ce jhw jgp jeV jgo;rintro⟨(_|t),s,⟨⟩⟩ l i e;cases i;have e:(wd (U.tc t)).length<=60:=e;refine⟨rfl,fun _=>⟨⟨0,⟨⟨rfl,tZ⟩,tZ⟩,rfl,jp _⟩,fun x g=> ?_⟩⟩;have g:x<=(wd (U.tc t)).length:=g;have c:U.tk (some t)=t:=rfl;refine⟨fun h=> ?_,fun h=> ?_⟩;have h:x<(wd (U.tc t)).length:=by
  have:=ja h;have this:(x:Int)<(wd (U.tc t)).length:=this;omega
 have j:(x:Int)<(wd (U.tc t)).length:=(by omega);refine⟨by omega,j,by omega,by omega,fun b=> ?_,fun b=> ?_⟩;have d:yV t s (x+1)=yV t s x++[((x:Int),nth (wd (U.tc t)) x,())]:=(by rw[tS,je b]);obtain⟨r,f⟩:=UG t s (show x+1<=(wd (U.tc t)).length by omega);refine⟨rfl,⟨r,by rw[d] at f;exact f⟩,⟨fun a=>absurd a (by rw[Bool.not_true,kw];simp),fun _=>⟨iZ6,x+1,⟨⟨by omega,tZ⟩,tZ⟩,?_,(show x+1<=(wd (U.tc t)).length by omega),(show(wd (U.tc t)).length-(x+1)<(wd (U.tc t)).length-x by omega)⟩⟩,
  fun _ a=>(by cases a),fun a=> ?_⟩
 rw[c,d];rfl;rw[Bool.not_false,Bool.and_true] at a;exact absurd b (by simp only at a⊢;rw[a];simp);have d:yV t s (x+1)=yV t s x:=by
  rw[tS,jd (by simp only at b⊢;rw[b];simp),j8]
 refine⟨fun a=> ?_,fun _=>⟨iZ6,x+1,⟨⟨by omega,tZ⟩,tZ⟩,?_,(show x+1<=(wd (U.tc t)).length by omega),(show(wd (U.tc t)).length-(x+1)<(wd (U.tc t)).length-x by omega)⟩⟩;rw[Bool.not_false,Bool.and_true] at a;exact absurd a (by simp only at b⊢;rw[b];simp);rw[c,d];have h:(wd (U.tc t)).length<=x:=by
  have:=jc h;have this:¬(x:Int)<(wd (U.tc t)).length:=this;omega
 intro _;rw[show x=(wd (U.tc t)).length by omega];rfl
theorem MH {H:Imm} {lb:Array Value} {d:PD [.ref (.ptr tTk),.ref (.uint .u64)]} (g:pvs PR H [.ref (.ptr tTk),.ref (.uint .u64)] lb.toList d) (a:d.1.isSome=true) (b:(wd (U.tc (U.tk d.1))).length<=60):Xs PR H [.int,tPe] (LM d) (.func (.func 234) #[] lb):=
 Zb (C:=ctx 28 [(235,lT)] []) (od ⟨fun _=>Ju,tZ⟩ trivial) mixed Tryz.func234 (by kernel_rfl) (by kernel_rfl) (by kernel_rfl) (by kernel_rfl) (by decide) (i7.mpr se) (fun d l B0 R h c e f=>jcb c f) g ⟨a,b,tZ⟩
theorem xC:d8:=by intro d;rfl
theorem d9:Jc PR 213 wQ:=jce (nv.mpr xC) Tryz.func213 (by kernel_rfl) (by kernel_rfl) (by kernel_rfl) (by kernel_rfl) trivial trivial
theorem jay:∀(f:Nat) (p:Nat×oW),wF ([]:List (Nat×Nat×oW)) f=some p->ROK PR f p.2:=fun _ _ h=>by cases h
theorem JC {sv:SV} {h:Prop} {L:List (Ty.st [.int,tPe]).Data->Prop} {v:Value} {ρ:Env} (a:PJ sv=some (h,L)) (b:h) (g:SV.den PR ρ sv v):Xs PR ρ.H [.int,tPe] L v:=by
 unfold PJ at a
 split at a
 case h_2=>cases a
 rename_i n t o s
 split at a
 case h_2=>cases a
 rename_i u q m f;simp only[jy,Prod.mk.injEq] at a;obtain⟨rfl,rfl⟩:=a;obtain⟨e,rfl⟩:=wi m;subst e;obtain⟨e2,rfl⟩:=wi f;subst e2;simp only[SV.den,SV.denL] at g;obtain⟨lb,rfl,x,r,l,i,y,p,c,j,k⟩:=g;exact MH (d:=(t,s,())) (by rw[l,c,k];exact⟨i,j,rfl⟩) b.1 b.2
theorem sf (t:TkD) (a b:Int) (q:List (Int×PeD×Unit)) (x:Int×PeD×Unit):ac t a b (q++[x])=U.jn t a b x:=by
 unfold ac;rw[List.getLast?_append];simp
theorem MI {t:TkD} {a b:Int} {q:List (Int×PeD×Unit)} (h:yF (fun q=>ac t a b q) q):q.any (U.jn t a b)=false:=by
 rw[zj];intro x c;obtain⟨u,v,rfl⟩:=List.append_of_mem c;have:=h u x v rfl;simp only[sf] at this;rw[this];simp
theorem Q5 {t:TkD} {s:Int} {x:Int×PeD×Unit} (h:x∈xi t s):x.2.1∈wd (U.tc t):=by
 unfold xi yV at h;obtain⟨i,hi,rfl⟩:=jZ.1 h;have:=jE.1 (jS.1 hi).1;exact L.we this
theorem jaz {n:Int} {p:PeD} (h:eX n p=true):((U.lv p).length:Int)=n:=by
 unfold eX at h;simp only[ji,jo] at h;exact h.1.1
theorem Cv:iD:=by
 unfold iD jhx jia;rintro⟨(_|t),s,a,b,⟨⟩⟩ r l v f w g;cases r;obtain⟨c1,c2,A⟩:=l;have c1:wo (U.tc t)=true:=c1;obtain⟨B,C,D,E,p,F⟩:=wU c1;have k:(wd (U.tc t)).length<=60:=(by omega);have c:U.tk (some t)=t:=rfl;refine⟨⟨rfl,k⟩,tZ,rfl,fun q x rest i e=> ?_,fun xs j e=> ?_,fun q x rest i e d=> ?_⟩;have z:x∈xi t s:=(by rw[c] at i;rw[<-i];simp);have o:=jaz (p _ (Q5 z));have o:((x.2.1.1.length:Nat):Int)=U.la (U.tc t):=o;have f:a<U.la (U.tc t):=f;have g:b<U.la (U.tc t):=g;have m:ac t a b q=false:=by
  cases n:q.getLast? with
  |none=>unfold ac;rw[n]
  |some y=>
   obtain⟨u,rfl⟩:=List.getLast?_eq_some_iff.1 n;have:=e u y [] rfl;exact this
 refine⟨v,by simp only;omega,w,by simp only;omega,rfl,fun h=> ?_,fun h=> ?_⟩;have h:U.jn t a b x=true:=h;have:ac t a b (q++[x])=true:=(by rw[sf];exact h);rw[c];simp only;exact⟨this,by rw[this];rfl⟩;have h:U.jn t a b x=false:=h;have:ac t a b (q++[x])=false:=(by rw[sf];exact h);rw[c];simp only;exact⟨this,by rw[this,m]⟩;rw[c] at j e;subst j;have:=MI e;simp only;rw[c];unfold mF;rw[this];rw[c] at i d⊢;simp only at d⊢;rw[d];unfold mF;rw[<-i];rw[sf] at d;simp[d]
theorem JD:(Lw 33 [] [] [(213,wQ)] []).ok PR:=Mx trivial trivial ⟨d9,tZ⟩ trivial
theorem xD:wX PR 237 iC:=
 Ur (body:=w6 Tryz.f237) (C:=Lw 33 [] [] [(213,wQ)] []) (hk:=hkC (Lw 33 [] [] [(213,wQ)] []) (fun _=>none) Ct [] []) JD mixed Tryz.func237 (by kernel_rfl) (by kernel_rfl) (by kernel_rfl) (by decide)
  (fun B=>FT JD mixed (fun k ts rs sv d L v ρ hk c a b=>by
   unfold Ct at hk
   split at hk
   case h_2=>cases hk
   simp only[jy] at hk
   cases hk
   exact JC c a b) jay B) (ph.mpr Cv)
namespace U
def am (x:Int) (N n:Nat):List Int:=List.replicate n x++List.replicate (N-n) 0
def Ly (t:TkD) (c:Int) (a b:Nat):Bool:=mF t c (a:Int) (b:Int)
def iv (t:TkD) (a:Int):List Int:=jcW (Ly t a) (la (tc t)).toNat (Ge (tj t)).toNat
def w7 (t:TkD) (a:Int) (k:Nat):List Int×List Int:=ar (Ly t a) (la (tc t)).toNat (Ge (tj t)).toNat k
def gB (t:TkD) (a:Int) (x:List Int×List Int) (i:Nat):List Int×List Int:=s7 (Ly t a) (nth x.2 0).toNat x i
def jbL (t:TkD) (a:Int) (x:List Int×List Int) (lo:Nat):Prop:=jbI (Ly t a) (la (tc t)).toNat (Ge (tj t)).toNat x/\x.2≠[]/\x.2.length<=10/\lo<=10
end U
def glo (σ:St) (s:Nat):Nat:=match σ.get s with
 | .osl _ _ lo _=>lo
 |_=>0
def Hc:wO:=⟨[.val (.uint .u64),.val (.uint .u64)],[.uint .u64,.uint .u64],false,fun d=>[0<=d.1,d.1<=1000,0<=d.2.1,d.2.1<=1000],fun d=>((0:Int),d.1*d.2.1,())⟩
abbrev jfv (d:Int×Int×Unit):=(d.1/(2:Int)^Int.toNat 32*gm d.2.1 (4294967295:Int)+gm d.1 (4294967295:Int)*gm d.2.1 (4294967295:Int)/(2:Int)^Int.toNat 32)
abbrev jeW (d:Int×Int×Unit):=(d.2.1/(2:Int)^Int.toNat 32)
abbrev jhy (d:Int×Int×Unit):=(gm (jfv d) (4294967295:Int)+gm d.1 (4294967295:Int)*(jeW d))
def Hd:Prop:=∀(d:Int×Int×Unit),0<=d.1->d.1<=1000->0<=d.2.1->d.2.1<=1000->(0:Int)<=32/\(32:Int)<=64/\(0:Int)<=32/\(32:Int)<=64/\0<=gm d.1 (4294967295:Int)*gm d.2.1 (4294967295:Int)/\gm d.1 (4294967295:Int)*gm d.2.1 (4294967295:Int)<=18446744073709551615/\0<=d.1/(2:Int)^Int.toNat 32*gm d.2.1 (4294967295:Int)/\d.1/(2:Int)^Int.toNat 32*gm d.2.1 (4294967295:Int)<=18446744073709551615/\(0:Int)<=32/\(32:Int)<=64/\0<=d.1/(2:Int)^Int.toNat 32*gm d.2.1 (4294967295:Int)+gm d.1 (4294967295:Int)*gm d.2.1 (4294967295:Int)/(2:Int)^Int.toNat 32/\d.1/(2:Int)^Int.toNat 32*gm d.2.1 (4294967295:Int)+gm d.1 (4294967295:Int)*gm d.2.1 (4294967295:Int)/(2:Int)^Int.toNat 32<=18446744073709551615/\(0:Int)<=32/\(32:Int)<=64/\0<=gm d.1 (4294967295:Int)*(jeW d)/\gm d.1 (4294967295:Int)*(jeW d)<=18446744073709551615/\0<=gm (jfv d) (4294967295:Int)+gm d.1 (4294967295:Int)*(jeW d)/\gm (jfv d) (4294967295:Int)+gm d.1 (4294967295:Int)*(jeW d)<=18446744073709551615/\0<=d.1/(2:Int)^Int.toNat 32*(jeW d)/\d.1/(2:Int)^Int.toNat 32*(jeW d)<=18446744073709551615/\0<=d.1/(2:Int)^Int.toNat 32*(jeW d)+(jfv d)/(2:Int)^Int.toNat 32/\d.1/(2:Int)^Int.toNat 32*(jeW d)+(jfv d)/(2:Int)^Int.toNat 32<=18446744073709551615/\(0:Int)<=32/\(32:Int)<=64/\0<=d.1/(2:Int)^Int.toNat 32*(jeW d)+(jfv d)/(2:Int)^Int.toNat 32+(jhy d)/(2:Int)^Int.toNat 32/\d.1/(2:Int)^Int.toNat 32*(jeW d)+(jfv d)/(2:Int)^Int.toNat 32+(jhy d)/(2:Int)^Int.toNat 32<=18446744073709551615/\0<=d.1*d.2.1/\d.1*d.2.1<=18446744073709551615/\(d.1/(2:Int)^Int.toNat 32*(jeW d)+(jfv d)/(2:Int)^Int.toNat 32+(jhy d)/(2:Int)^Int.toNat 32,d.1*d.2.1,())=((0:Int),d.1*d.2.1,())
def MJ:wO:=⟨[.val (.uint .u64),.val (.uint .u64)],[.uint .u64,.uint .u64],false,fun d=>[0<=d.1,d.1<=1000,0<=d.2.1,d.2.1<=1000],fun d=>((0:Int),d.1*d.2.1,())⟩
def MK:Prop:=∀(d:Int×Int×Unit),0<=d.1->d.1<=1000->0<=d.2.1->d.2.1<=1000->(false=true->False)/\(qF->0<=d.1/\d.1<=1000/\0<=d.2.1/\d.2.1<=1000/\((0:Int),d.1*d.2.1,())=((0:Int),d.1*d.2.1,()))
def xE:qS:=⟨[.val (.slice .int),.val .int],[.cl (.row 3 .int .no)],fun d=>[d.1.length=1,0<=d.2.1,d.2.1<=1000],fun d=>((List.replicate d.2.1.toNat (nth d.1 0),()),())⟩
def xF:Ann:=fun r=>match r with
 |8=>some fun σ=>{X:=Nat,sl:=fun n=>[(8,.dat .int (n:Int))],ob:=fun n=>[(7,some (.row 3 .int false .no (am (nth (gd (.slice .int) σ 0) 0) (gd .int σ 1).toNat n)))],inv:=fun n=>n<=(gd .int σ 1).toNat/\(1<=n\/(gd .int σ 1).toNat=0),mu:=fun n=>(gd .int σ 1).toNat-n}
 |_=>none
abbrev je2 (d:List Int×Int×Unit):=(d.1.length:Int)
abbrev jgq (d:List Int×Int×Unit):=(List.replicate ((je2 d)*d.2.1).toNat (0:Int))
abbrev jgr (d:List Int×Int×Unit)(x:Nat):=(am (nth d.1 0) d.2.1.toNat x)
abbrev jfP (d:List Int×Int×Unit)(x:Nat):=(↑(jgr d x).length:Int)
abbrev jhz (x:Nat)(d:List Int×Int×Unit):=(List.take ((x:Int).toNat-Int.toNat 0) (List.drop (Int.toNat 0) (jgr d x)))
abbrev jg0 (d:List Int×Int×Unit)(x:Nat):=((jfP d x).toNat-(x:Int).toNat)
abbrev jib (d:List Int×Int×Unit):=(decide ((0:Int)<0)||decide (9223372036854775807<(je2 d)*d.2.1))
def xG:Prop:=∀(d:List Int×Int×Unit),d.1.length=1->0<=d.2.1->d.2.1<=1000->(decide (d.2.1<0)=true->False)/\(decide (d.2.1<0)=false->d.1.length<4611686018427387904->0<=(je2 d)/\(je2 d)<=18446744073709551615/\0<=d.2.1/\d.2.1<=18446744073709551615/\0<=(je2 d)/\(je2 d)<=1000/\0<=d.2.1/\d.2.1<=1000/\((jib d)=true->False)/\((jib d)=false->wn ((je2 d)*d.2.1)/\0<=(je2 d)*d.2.1/\(je2 d)*d.2.1=(je2 d)*d.2.1/\((je2 d)*d.2.1).toNat*8<=140737488355328/\0+(jgq d).length<=(jgq d).length/\(∃(x:Nat),(((↑(List.take (jgq d).length d.1).length:Int)=(x:Int)/\True)/\SX (jgq d) 0 (jgq d).length d.1=am (nth d.1 0) d.2.1.toNat x/\True)/\x<=d.2.1.toNat/\(1<=x\/d.2.1.toNat=0))/\∀(x:Nat),x<=d.2.1.toNat/\(1<=x\/d.2.1.toNat=0)->(jgr d x).length<4611686018427387904->(decide ((x:Int)<(jfP d x))=true->0<=(x:Int)/\(x:Int)<=(jfP d x)/\(jfP d x)<=(jfP d x)/\(0:Int)<=0/\0<=(x:Int)/\(x:Int)<=(jfP d x)/\(x:Int).toNat+(jg0 d x)<=(jgr d x).length/\wn ((x:Int)+(List.take (jg0 d x) (jhz x d)).length)/\∃(a:Nat),(((x:Int)+(List.take (jg0 d x) (jhz x d)).length=(a:Int)/\True)/\SX (jgr d x) (x:Int).toNat (jg0 d x) (jhz x d)=am (nth d.1 0) d.2.1.toNat a/\True)/\(a<=d.2.1.toNat/\(1<=a\/d.2.1.toNat=0))/\d.2.1.toNat-a<d.2.1.toNat-x)/\(decide ((x:Int)<(jfP d x))=false->(am (nth d.1 0) d.2.1.toNat x,())=(List.replicate d.2.1.toNat (nth d.1 0),())/\()=())))
def gh:wO:=⟨[.val (.ptr tTk),.val (.uint .u64)],[.slice .int],false,fun d=>[d.1.isSome=true,cu (U.tk d.1)],fun d=>(iv (U.tk d.1) d.2.1,())⟩
def He:Ann:=fun r=>match r with
 |4=>some fun σ=>{X:=Nat×List Int,sl:=fun x=>[(6,.osl 6 .int x.2.length (w7 (U.tk (gd (.ptr tTk) σ 0)) (gd (.uint .u64) σ 1) x.1).2.length)],ob:=fun x=>[(5,some (.row 3 .int false .no (w7 (U.tk (gd (.ptr tTk) σ 0)) (gd (.uint .u64) σ 1) x.1).1)),(6,some (.row 3 .int false .no (x.2++(w7 (U.tk (gd (.ptr tTk) σ 0)) (gd (.uint .u64) σ 1) x.1).2)))],inv:=fun x=>x.2.length<=x.1/\x.1<=(U.la (U.tc (U.tk (gd (.ptr tTk) σ 0)))).toNat,mu:=fun x=>(U.la (U.tc (U.tk (gd (.ptr tTk) σ 0)))).toNat+1-x.1}
 |7=>some fun σ=>{X:=Nat×List Int,sl:=fun x=>[(28,.any),(35,.dat .int (x.1:Int)),(6,.osl 6 .int x.2.length (gB (U.tk (gd (.ptr tTk) σ 0)) (gd (.uint .u64) σ 1) (gr .int σ 5,(gr .int σ 6).drop (glo σ 6)) x.1).2.length)],ob:=fun x=>[(5,some (.row 3 .int false .no (gB (U.tk (gd (.ptr tTk) σ 0)) (gd (.uint .u64) σ 1) (gr .int σ 5,(gr .int σ 6).drop (glo σ 6)) x.1).1)),(6,some (.row 3 .int false .no (x.2++(gB (U.tk (gd (.ptr tTk) σ 0)) (gd (.uint .u64) σ 1) (gr .int σ 5,(gr .int σ 6).drop (glo σ 6)) x.1).2)))],inv:=fun x=>x.1<=(gr .int σ 5).length/\x.2.length<=glo σ 6/\jbL (U.tk (gd (.ptr tTk) σ 0)) (gd (.uint .u64) σ 1) (gr .int σ 5,(gr .int σ 6).drop (glo σ 6)) (glo σ 6),mu:=fun x=>(gr .int σ 5).length-x.1}
 |2000011=>some fun _=>{X:=Unit,sl:=fun _=>[],ob:=fun _=>[],inv:=fun _=>True,mu:=fun _=>0}
 |_=>none
abbrev jfl (d:Option (CrD×JbD×LwD×Unit)×Int×Unit):=(wE (((0:Int),[],[],()),((0:Int),(0:Int),(0:Int),(0:Int),(0:Int),(0:Int),()),((0:Int),(0:Int),false,()),()) d.1)
abbrev jeB (d:Option (CrD×JbD×LwD×Unit)×Int×Unit)(x:Nat×List Int):=(w7 (U.tk d.1) d.2.1 x.1)
abbrev jf2 (d:Option (CrD×JbD×LwD×Unit)×Int×Unit)(x:Nat×List Int):=((jeB d x).1,List.drop x.2.length (x.2++(jeB d x).2))
abbrev jes (d:Option (CrD×JbD×LwD×Unit)×Int×Unit)(x:Nat×List Int)(a:Nat×List Int):=(gB (U.tk d.1) d.2.1 (jf2 d x) a.1)
abbrev je9 (d:Option (CrD×JbD×LwD×Unit)×Int×Unit)(x:Nat×List Int)(a:Nat×List Int):=(nth (jes d x a).1 (a.1:Int).toNat<0)
abbrev jfw (a:Nat×List Int):=(a.2.length+Int.toNat 0)
abbrev jf3 (d:Option (CrD×JbD×LwD×Unit)×Int×Unit)(x:Nat×List Int)(a:Nat×List Int):=(gB (U.tk d.1) d.2.1 (jf2 d x) a.1)
def Hf:Prop:=∀(d:Option (CrD×JbD×LwD×Unit)×Int×Unit),d.1.isSome=true->cu (U.tk d.1)->d.1.isSome=true/\[(-1:Int)].length=1/\(0:Int)<=(jfl d).1.1/\(jfl d).1.1<=1000/\d.1.isSome=true/\(0:Int)<=(jfl d).2.1.2.1/\(jfl d).2.1.2.1<(↑(List.replicate (jfl d).1.1.toNat (nth [(-1:Int)] 0)).length:Int)/\d.1.isSome=true/\(∃(x:Nat×List Int),(((x.2.length=0/\(jeB d x).2.length=[(jfl d).2.1.2.1].length)/\True)/\(List.replicate (jfl d).1.1.toNat (nth [(-1:Int)] 0)).set (jfl d).2.1.2.1.toNat 0=(jeB d x).1/\[(jfl d).2.1.2.1]=x.2++(jeB d x).2/\True)/\x.2.length<=x.1/\x.1<=(U.la (U.tc (U.tk d.1))).toNat)/\∀(x:Nat×List Int),x.2.length<=x.1/\x.1<=(U.la (U.tc (U.tk d.1))).toNat->(jeB d x).2.length<4611686018427387904->(decide ((0:Int)<(jeB d x).2.length)=true->(jeB d x).1.length<4611686018427387904->(∃(a:Nat×List Int),((0=(a.1:Int)/\(x.2.length=a.2.length/\(jeB d x).2.length=(jes d x a).2.length)/\True)/\(jeB d x).1=(jes d x a).1/\x.2++(jeB d x).2=a.2++(jes d x a).2/\True)/\a.1<=(jeB d x).1.length/\a.2.length<=x.2.length/\jbL (U.tk d.1) d.2.1 (jf2 d x) x.2.length)/\∀(a:Nat×List Int),a.1<=(jeB d x).1.length/\a.2.length<=x.2.length/\jbL (U.tk d.1) d.2.1 (jf2 d x) x.2.length->(decide ((a.1:Int)<(jeB d x).1.length)=true->0<=(a.1:Int)/\(a.1:Int)<(jes d x a).1.length/\(decide (je9 d x a)=true->(0:Int)<=0)/\(decide (je9 d x a)=true->(0:Int)<(jes d x a).2.length)/\(decide (je9 d x a)=true->d.1.isSome=true)/\(decide (je9 d x a)=true->cu (U.tk d.1))/\(decide (je9 d x a)=true->0<=nth (a.2++(jes d x a).2) (jfw a))/\(decide (je9 d x a)=true->nth (a.2++(jes d x a).2) (jfw a)<U.la (U.tc (U.tk d.1)))/\(decide (je9 d x a)=true->0<=(a.1:Int))/\(decide (je9 d x a)=true->(a.1:Int)<U.la (U.tc (U.tk d.1)))/\((decide (je9 d x a)&&mF (U.tk d.1) d.2.1 (nth (a.2++(jes d x a).2) (jfw a)) (a.1:Int))=true->(0:Int)<=0/\(0:Int)<(jes d x a).2.length/\0<=nth (a.2++(jes d x a).2) (jfw a)/\nth (a.2++(jes d x a).2) (jfw a)<(↑(jes d x a).1.length:Int)/\wn (nth (jes d x a).1 (nth (a.2++(jes d x a).2) (jfw a)).toNat+1)/\0<=(a.1:Int)/\(a.1:Int)<(jes d x a).1.length/\a.2.length+(jes d x a).2.length=(a.2++(jes d x a).2).length/\0<(jes d x a).2.length/\a.2.length+(jes d x a).2.length+[(a.1:Int)].length<4611686018427387904/\((jes d x a).2.length+[(a.1:Int)].length)*8<=140737488355328/\∀(pre:List Int),pre.length<=a.2.length->wn ((a.1:Int)+1)/\∃(b:Nat×List Int),(((a.1:Int)+1=(b.1:Int)/\(pre.length=b.2.length/\(jes d x a).2.length+[(a.1:Int)].length=(jf3 d x b).2.length)/\True)/\pre++List.drop a.2.length (a.2++(jes d x a).2)++[(a.1:Int)]=b.2++(jf3 d x b).2/\(jes d x a).1.set (a.1:Int).toNat (nth (jes d x a).1 (nth (a.2++(jes d x a).2) (jfw a)).toNat+1)=(jf3 d x b).1/\True)/\(b.1<=(jeB d x).1.length/\b.2.length<=x.2.length/\jbL (U.tk d.1) d.2.1 (jf2 d x) x.2.length)/\(jeB d x).1.length-b.1<(jeB d x).1.length-a.1)/\((decide (je9 d x a)&&mF (U.tk d.1) d.2.1 (nth (a.2++(jes d x a).2) (jfw a)) (a.1:Int))=false->wn ((a.1:Int)+1)/\∃(b:Nat×List Int),(((a.2.length=b.2.length/\(jes d x a).2.length=(jf3 d x b).2.length)/\(a.1:Int)+1=(b.1:Int)/\True)/\a.2++(jes d x a).2=b.2++(jf3 d x b).2/\(jes d x a).1=(jf3 d x b).1/\True)/\(b.1<=(jeB d x).1.length/\b.2.length<=x.2.length/\jbL (U.tk d.1) d.2.1 (jf2 d x) x.2.length)/\(jeB d x).1.length-b.1<(jeB d x).1.length-a.1))/\(decide ((a.1:Int)<(jeB d x).1.length)=false->(0:Int)<=1/\(1:Int)<=(jes d x a).2.length/\(↑(jes d x a).2.length:Int)<=(jes d x a).2.length/\∃(b:Nat×List Int),(((a.2.length+Int.toNat 1=b.2.length/\(↑(jes d x a).2.length:Int).toNat-Int.toNat 1=(w7 (U.tk d.1) d.2.1 b.1).2.length)/\True)/\(jes d x a).1=(w7 (U.tk d.1) d.2.1 b.1).1/\a.2++(jes d x a).2=b.2++(w7 (U.tk d.1) d.2.1 b.1).2/\True)/\(b.2.length<=b.1/\b.1<=(U.la (U.tc (U.tk d.1))).toNat)/\(U.la (U.tc (U.tk d.1))).toNat+1-b.1<(U.la (U.tc (U.tk d.1))).toNat+1-x.1))/\(decide ((0:Int)<(jeB d x).2.length)=false->((jeB d x).1,())=(iv (U.tk d.1) d.2.1,()))
theorem Hg {x:Int} (a:0<=x) (b:x<=4294967295):gm x 4294967295=x:=by
 obtain⟨n,rfl⟩:∃n:Nat,x=(n:Int):=⟨x.toNat,by omega⟩;rw[show(4294967295:Int)=((4294967295:Nat):Int) from rfl,BT.uand_nat (by omega) (by omega),show(4294967295:Nat)=2^32-1 from rfl,Nat.and_two_pow_sub_one_eq_mod,kM (by omega)]
theorem JE:Hd:=by
 unfold Hd jhy jeW jfv;rintro⟨x,y,⟨⟩⟩ b c a d;simp only at b c a d;have f:=Hg b (by omega);have g:=Hg a (by omega);have e:=Hg (x:=0) (by omega) (by omega);have h:x/2^Int.toNat 32=0:=kF b (by show x<2^32;omega);have i:y/2^Int.toNat 32=0:=kF a (by show y<2^32;omega);have k:0<=x*y:=Int.mul_nonneg b a;have l:x*y<=1000*1000:=Int.mul_le_mul c d a (by omega);have c1:x*y/2^Int.toNat 32=0:=kF k (by show x*y<2^32;omega);have j:(0:Int)/2^Int.toNat 32=0:=Int.zero_ediv _;simp only[f,g,h,i,Int.zero_mul,Int.mul_zero,Int.add_zero,c1,e,j]
 and_intros<;>first|omega|rfl|trivial
theorem Hh:wX PR 250 Hc:=wJ JE Tryz.func250 kcN koN
theorem Q6:MK:=by
 rintro⟨x,y,⟨⟩⟩ a b c d;exact⟨fun h=>(by cases h),fun _=>⟨a,b,c,d,rfl⟩⟩
theorem ML:wX PR 245 MJ:=wJ Q6 Tryz.func245 (kcC Hh kcN) koN
theorem Hi {x:Int} {N n:Nat} (h:n<=N):(am x N n).length=N:=by
 unfold am;simp;omega
theorem JF {x:Int} {N n:Nat} (_:n<=N):(am x N n).take n=List.replicate n x:=by
 unfold am;rw[List.take_append_of_le_length (by simp),zv (by simp)]
theorem UH {x:Int} {N n:Nat} (h:n<=N):SX (am x N n) n (N-n) (List.replicate n x)=am x N (n+min (N-n) n):=by
 unfold SX;rw[JF h,List.take_replicate,za];unfold am;rw[List.drop_append,za,List.drop_of_length_le (by simp),jW,List.drop_replicate,<-List.replicate_append_replicate];congr 2;omega
theorem Cw:xG:=by
 unfold xG jib jg0 jhz jfP jgr jgq je2;rintro⟨l,n,⟨⟩⟩ b g e;simp only at b g e;obtain⟨N,rfl⟩:∃N:Nat,n=(N:Int):=⟨n.toNat,by omega⟩;obtain⟨y,rfl⟩:∃y,l=[y]:=by
  cases l with
  |nil=>simp at b
  |cons y r=>cases r with
   |nil=>exact⟨y,rfl⟩
   |cons z r=>simp at b
 have c:(([y].length:Nat):Int)*(N:Int)=(N:Int):=(by simp);have f:nth [y] 0=y:=rfl
 dsimp only
 refine⟨fun h=> ?_,fun _ _=>⟨by simp,by simp,by omega,by omega,by simp,by simp,by omega,e,fun h=> ?_,fun _=> ?_⟩⟩;have:=ja h;omega;rw[c] at h;have h:(9223372036854775807:Int)<(N:Int):=(by simpa using h);omega;rw[c,f];simp only[jw,za];refine⟨iZ6,by omega,tZ,by omega,by omega,⟨min 1 N,⟨⟨?_,tZ⟩,?_,tZ⟩,by omega,by omega⟩,fun x a i=>⟨fun h=> ?_,fun h=> ?_⟩⟩;rw[jY];simp only[j6,zt];omega;rcases zO N with d|d;subst d;rfl;obtain⟨M,rfl⟩:∃M,N=M+1:=⟨N-1,by omega⟩;have:min 1 (M+1)=1:=(by omega);rw[this];simp[SX,am,List.replicate_succ];have h:=ja h;rw[Hi a.1] at h;simp only[Hi a.1,Int.toNat_zero,List.drop_zero,kx,JF a.1,List.take_replicate,za];refine⟨by omega,by omega,by omega,by omega,by omega,by omega,by omega,iZ6,x+min (N-x) x,⟨⟨by omega,tZ⟩,UH a.1,tZ⟩,⟨by omega,by omega⟩,by omega⟩;have h:=jc h;rw[Hi a.1] at h;have h:x=N:=(by have:=a.1;omega);subst h;refine⟨?_,tZ⟩;unfold am;rw[Nat.sub_self];simp
theorem xH:gE PR 236 xE:=rX xF Cw Tryz.func236 (kcC ML kcN) koN
theorem jaA {a b:List Int}:nth (a++b) (a.length+Int.toNat 0)=nth b 0:=by
 unfold nth;simp only[zf,Int.toNat_zero,zK];rw[jx (jj _),Nat.sub_self]
theorem JG {t:TkD} {s:Int} (a:cu t):2<=U.la (U.tc t)/\U.la (U.tc t)<=5/\0<=Ge (U.tj t)/\Ge (U.tj t)<U.la (U.tc t):=by
 obtain⟨c1,c2,_⟩:=a;obtain⟨b,c,_⟩:=wU c1;obtain⟨_,⟨d,e⟩,_⟩:=lX c2;exact⟨b,c,d,e⟩
theorem JH:Hf:=by
 unfold Hf jf3 jfw je9 jes jf2 jeB jfl;rintro⟨(_|t),s,⟨⟩⟩ h0 m;cases h0;have m:cu t:=m;obtain⟨l1,l2,j1,j2⟩:=JG (s:=s) m;have w:U.tk (some t)=t:=rfl;obtain⟨n,A⟩:∃n,n=(U.la (U.tc t)).toNat:=⟨_,rfl⟩;obtain⟨v,hv⟩:∃v,v=(Ge (U.tj t)).toNat:=⟨_,rfl⟩;have Z:v<n:=(by omega);have X:∀k,jbI (Ly t s) n v (w7 t s k)/\((w7 t s k).2=[]\/Ji (w7 t s k).1+(w7 t s k).2.length+k=n):=by
  intro k;rw[A,hv] at*;exact Cm Z k
 refine⟨rfl,rfl,(by omega:0<=U.la (U.tc t)),(by omega:U.la (U.tc t)<=1000),rfl,j1,?_,rfl,⟨(0,[]),⟨⟨⟨rfl,rfl⟩,tZ⟩,rfl,?_,tZ⟩,jj _,jp _⟩,fun x hx S=>⟨fun j T=> ?_,fun h=> ?_⟩⟩;show Ge (U.tj t)<(((List.replicate (U.la (U.tc t)).toNat (nth [(-1:Int)] 0)).length:Nat):Int);rw[za];omega;show[Ge (U.tj t)]=[]++[(((Ge (U.tj t)).toNat:Nat):Int)];rw[jW,Int.toNat_of_nonneg j1];obtain⟨k,pre⟩:=x;obtain⟨W,H⟩:=hx;simp only[w,List.drop_left] at W H j T S⊢;rw[<-A] at H⊢;obtain⟨B,o⟩:=X k;have j:0<(w7 t s k).2.length:=(by have:=ja j;omega);have d:(w7 t s k).2≠[]:=fun e=>by rw[e] at j;simp at j
 have F:=B.i.len;rcases o with o|o;exact absurd o d;have p:w7 t s (k+1)=ab (Ly t s) n (w7 t s k):=(by rw[A];rfl);generalize V:w7 t s k=x0 at*;obtain⟨g,r0,a⟩:∃q r,x0.2=q::r:=by
  cases I:x0.2 with
  |nil=>exact absurd I d
  |cons q r=>exact⟨q,r,rfl⟩
 obtain⟨L,g2,g3⟩:=B.i.que g (by rw[a];simp);have y:nth x0.2 0=g:=(by rw[a];rfl);have hla:((n:Nat):Int)=U.la (U.tc t):=(by omega);have f:jbL t s (x0.1,x0.2) pre.length:=by
  unfold jbL;rw[<-A,<-hv];exact⟨B,d,by simp only;omega,by omega⟩
 refine⟨⟨(0,pre),⟨⟨rfl,⟨rfl,rfl⟩,tZ⟩,rfl,rfl,tZ⟩,jp _,jj _,f⟩,?_⟩;rintro⟨i,p5⟩ ⟨hi,Q,_⟩;simp only at hi Q;have C:InI (Ly t s) n v g.toNat i x0 (gB t s (x0.1,x0.2) i):=by
  have:=Uz (J:=Ly t s) Z (q:=g.toNat) (by omega) g3 B.i B.le i (by omega);unfold gB;simp only[y];exact this
 have c:gB t s (x0.1,x0.2) (i+1)=s0 (Ly t s) g.toNat (gB t s (x0.1,x0.2) i) i:=by
  unfold gB;simp only[y];exact FV _ _ _ _
 have D:i=n->w7 t s (k+1)=((gB t s (x0.1,x0.2) i).1,(gB t s (x0.1,x0.2) i).2.drop 1):=by
  intro e;subst e;rw[p];have:ab (Ly t s) i x0=((s7 (Ly t s) g.toNat x0 i).1,(s7 (Ly t s) g.toNat x0 i).2.drop 1):=by
   clear p c C f F d B X V;obtain⟨st,qu⟩:=x0;simp only at a;subst a;rfl
  rw[this];unfold gB;simp only[y]
 generalize hFI:gB t s (x0.1,x0.2) i=u at*;obtain⟨l,P⟩:=C.pre;have hQ:nth u.2 0=g:=(by rw[P,a];rfl);have G:0<u.2.length:=(by rw[P,a];simp);have hmu:=C.mu;have hFl:=C.i.len;have E:∀i:Nat,Ly t s g.toNat i=mF t s g (i:Int):=by
  intro i;unfold Ly;rw[Int.toNat_of_nonneg L]
 simp only[jaA,hQ];simp only[jw];refine⟨fun h=> ?_,fun h=> ?_⟩;have h:i<n:=(by have:=ja h;omega);refine⟨by omega,by omega,fun _=>by omega,fun _=>by omega,fun _=>rfl,fun _=>m,fun _=>L,fun _=>by omega,fun _=>by omega,fun _=>by omega,fun z=> ?_,fun z=> ?_⟩;rw[ji] at z;have h3:=ja z.1;have Y:=C.i.low g.toNat (by omega);have b:gB t s (x0.1,x0.2) (i+1)=(u.1.set i (nth u.1 g.toNat+1),u.2++[(i:Int)]):=by
  rw[c];unfold s0;rw[je ⟨h3,by rw[E];exact z.2⟩]
 refine⟨by omega,by omega,L,by omega,iZ6,by omega,by omega,by simp,G,by simp only[j6,zt];omega,by simp only[j6,zt];omega,fun K R=>⟨iZ6,(i+1,K),⟨⟨by simp,⟨rfl,?_⟩,tZ⟩,?_,?_,tZ⟩,⟨by simp only;omega,by simp only;omega,f⟩,by simp only;omega⟩⟩;rw[b];simp;rw[b,jM];rw[b];have b:gB t s (x0.1,x0.2) (i+1)=u:=by
  rw[c];unfold s0;rw[jd (fun N=>by
   rw[E] at N;rw[N.2,jL N.1] at z;cases z)]
 refine⟨iZ6,(i+1,p5),⟨⟨⟨rfl,?_⟩,by simp,tZ⟩,?_,?_,tZ⟩,⟨by simp only;omega,by simp only;omega,f⟩,by simp only;omega⟩;rw[b];rw[b];rw[b];have h:i=n:=(by have:=jc h;omega);have O:=D h;have M:u.2=g::(r0++l):=(by rw[P,a];rfl);refine⟨by omega,by omega,by omega,(k+1,p5++[g]),⟨⟨⟨?_,?_⟩,tZ⟩,?_,?_,tZ⟩,⟨by simp only[jG,j6,zt];omega,by simp only;omega⟩,by simp only;omega⟩;simp only[jG,j6,zt];rfl;rw[O];simp only[zD];rfl;rw[O];rw[O,M];simp;simp only[w] at h⊢;have h:(w7 t s x.1).2=[]:=by
  have:=jc h;exact zk (by omega)
 have hk:x.1<=n:=(by have:=hx.2;rw[w,<-A] at this;exact this);have h1:ar (Ly t s) (U.la (U.tc t)).toNat (Ge (U.tj t)).toNat ((U.la (U.tc t)).toNat+1)=w7 t s x.1:=XE (k:=x.1) h _ (by rw[<-A];omega);show((w7 t s x.1).1,())=((ar (Ly t s) (U.la (U.tc t)).toNat (Ge (U.tj t)).toNat ((U.la (U.tc t)).toNat+1)).1,());rw[h1]
theorem Hj:wX PR 215 gh:=vF He JH Tryz.func215 (kcC xD kcN) (koC xH koN)
namespace U
def cH (t:TkD) (o:Int) (q:List (Int×PeD×Unit)):Int:=q.foldl (fun o x=>uor o (yc t x.2.1)) o
def eZ (q:List (Int×PeD×Unit)):Bool:=q.any (fun x=>jbv x.2.1)
def E1 (b:Bool) (o k:Int):Int:=if b=true then uor o k else o
def vE (t:TkD) (s:Int):Int:=E1 (decide (nth (iv t s) (Lx (tj t)).toNat<0)) (E1 (jdf (tl t)&& !eZ (xi t s)) (E1 (decide (BT.size s≠max (YL (tj t)) (jbw (tl t)))) (cH t 0 (xi t s)) 8) 16) 32
def Ik (c:CrD) (n:Int):Bool:=kX n 0 (2^(wd c).length-1)
def bm (c:CrD) (j:JbD) (n:Int):Int:=if vl c j≠0 then vl c j else if Ik c n=true then 0 else 1
def jbM (c:CrD) (j:JbD) (n:Int):Int:=if bm c j n=0 then vE (c,j,cG c j,()) n else 0
def cv (c:CrD) (j:JbD) (n:Nat):List Int:=((List.range n).filter (fun i=>decide (yc (c,j,cG c j,()) (nth (wd c) i)=0))).map (fun(i:Nat)=>(i:Int))
def dh (c:CrD) (j:JbD):List Int:=if vl c j=0 then cv c j (wd c).length else[]
end U
def ya:wO:=⟨[.val (.ptr tTk),.val tPe],[.uint .u64],false,fun d=>[d.1.isSome=true,cu (U.tk d.1)],fun d=>(yc (U.tk d.1) d.2.1,())⟩
def UI:I8 [.int,tPe]:={ps:=[.ref (.ptr tTk),.own (.box 195 [.dat (.uint .u64)]) true,.own (.box 4 [.dat .bool]) true],slots:=[2,4,5],dst:=65,pre:=fun d=>[d.1.isSome=true,cu (U.tk d.1)],G:=fun d q=>((cH (U.tk d.1) d.2.1.1 q,()),(d.2.2.1.1||eZ q,()),()),seq:=PJ}
def Cx:Nat->Option ((ts:List Ty)×I8 ts):=fun r=>match r with
 |4=>some ⟨[.int,tPe],UI⟩
 |_=>none
def iF:wO:=⟨[.val (.ptr tTk),.val (.uint .u64)],[.uint .u64],false,fun d=>[d.1.isSome=true,cu (U.tk d.1),BT.qz d.2.1],fun d=>(vE (U.tk d.1) d.2.1,())⟩
abbrev jeI (d:Option (CrD×JbD×LwD×Unit)×Int×Unit):=(wE (((0:Int),[],[],()),((0:Int),(0:Int),(0:Int),(0:Int),(0:Int),(0:Int),()),((0:Int),(0:Int),false,()),()) d.1)
abbrev jfx (d:Option (CrD×JbD×LwD×Unit)×Int×Unit):=(nth (iv (U.tk d.1) d.2.1) (jeI d).2.1.1.toNat<0)
abbrev jfm (d:Option (CrD×JbD×LwD×Unit)×Int×Unit):=(vE (U.tk d.1) d.2.1,())
abbrev jhA:=(fun(a:List (Int×PeD×Unit))=>false)
abbrev jg1 (d:Option (CrD×JbD×LwD×Unit)×Int×Unit):=(↑(iv (U.tk d.1) d.2.1).length:Int)
def iG:Prop:=∀(d:Option (CrD×JbD×LwD×Unit)×Int×Unit),d.1.isSome=true->cu (U.tk d.1)->BT.qz d.2.1->(d.1.isSome=true/\(wd (U.tc (U.tk d.1))).length<=60)/\(d.1.isSome=true/\cu (U.tk d.1)/\True)/\(d.1,(cH (U.tk d.1) (0:Int) [],()),(false||eZ [],()),())=(d.1,((0:Int),()),(false,()),())/\(∀(q:List (Int×PeD×Unit)) (x:Int×PeD×Unit) (rest:List (Int×PeD×Unit)),q++x::rest=xi (U.tk d.1) d.2.1->yF jhA q->d.1.isSome=true/\cu (U.tk d.1)/\qF/\((uor (cH (U.tk d.1) (0:Int) q) (yc (U.tk d.1) x.2.1),()),(false||eZ q||x.2.1.q4.1,()),())=((cH (U.tk d.1) (0:Int) (q++[x]),()),(false||eZ (q++[x]),()),()))/\(∀(xs:List (Int×PeD×Unit)),xs=xi (U.tk d.1) d.2.1->yF jhA xs->BT.qz d.2.1/\d.1.isSome=true/\d.1.isSome=true/\(decide (BT.size d.2.1≠max (jeI d).2.1.q4.2.1 (jeI d).2.2.1.2.1)=true->d.1.isSome=true/\(((jeI d).2.2.1.2.2.1&& !(false||eZ xs))=true->d.1.isSome=true/\cu (U.tk d.1)/\d.1.isSome=true/\(0:Int)<=(jeI d).2.1.1/\(jeI d).2.1.1<(jg1 d)/\(decide (jfx d)=true->(uor (uor (uor (cH (U.tk d.1) (0:Int) xs) (8:Int)) (16:Int)) (32:Int),())=(jfm d))/\(decide (jfx d)=false->(uor (uor (cH (U.tk d.1) (0:Int) xs) (8:Int)) (16:Int),())=(jfm d)))/\(((jeI d).2.2.1.2.2.1&& !(false||eZ xs))=false->d.1.isSome=true/\cu (U.tk d.1)/\d.1.isSome=true/\(0:Int)<=(jeI d).2.1.1/\(jeI d).2.1.1<(jg1 d)/\(decide (jfx d)=true->(uor (uor (cH (U.tk d.1) (0:Int) xs) (8:Int)) (32:Int),())=(jfm d))/\(decide (jfx d)=false->(uor (cH (U.tk d.1) (0:Int) xs) (8:Int),())=(jfm d))))/\(decide (BT.size d.2.1≠max (jeI d).2.1.q4.2.1 (jeI d).2.2.1.2.1)=false->d.1.isSome=true/\(((jeI d).2.2.1.2.2.1&& !(false||eZ xs))=true->d.1.isSome=true/\cu (U.tk d.1)/\d.1.isSome=true/\(0:Int)<=(jeI d).2.1.1/\(jeI d).2.1.1<(jg1 d)/\(decide (jfx d)=true->(uor (uor (cH (U.tk d.1) (0:Int) xs) (16:Int)) (32:Int),())=(jfm d))/\(decide (jfx d)=false->(uor (cH (U.tk d.1) (0:Int) xs) (16:Int),())=(jfm d)))/\(((jeI d).2.2.1.2.2.1&& !(false||eZ xs))=false->d.1.isSome=true/\cu (U.tk d.1)/\d.1.isSome=true/\(0:Int)<=(jeI d).2.1.1/\(jeI d).2.1.1<(jg1 d)/\(decide (jfx d)=true->(uor (cH (U.tk d.1) (0:Int) xs) (32:Int),())=(jfm d))/\(decide (jfx d)=false->(cH (U.tk d.1) (0:Int) xs,())=(jfm d)))))/\∀(q:List (Int×PeD×Unit)) (x:Int×PeD×Unit) (rest:List (Int×PeD×Unit)),q++x::rest=xi (U.tk d.1) d.2.1->yF jhA q->false=true->(cH (U.tk d.1) (0:Int) (q++[x]),())=(jfm d)
theorem pj:(PG (Lw 64 [(180,ya),(214,gg),(215,gh)] [] [(213,wQ)] []) iF (fun _ _=>none) (hkC (Lw 64 [(180,ya),(214,gg),(215,gh)] [] [(213,wQ)] []) (fun _=>none) Cx [] []) Tryz.f186 (w6 Tryz.f186))=iG:=by kernel_rfl
def UJ:wO:=⟨[.val tCr,.val tJb,.val .int],[.ptr tTk,.int],false,fun _=>[],fun d=>(Gf d.1 d.2.1,bm d.1 d.2.1 d.2.2.1,())⟩
abbrev jf4 (d:CrD×JbD×Int×Unit):=(vl d.1 d.2.1=0)
abbrev jic (d:CrD×JbD×Int×Unit):=(decide (jf4 d)&& !kX d.2.2.1 (0:Int) ((1:Int)*2^(d.1.2.1.length:Int).toNat-1))
def UK:Prop:=∀(d:CrD×JbD×Int×Unit),(decide (jf4 d)=true->d.1.2.1.length<4611686018427387904)->(decide (jf4 d)=true->0<=(d.1.2.1.length:Int))/\(decide (jf4 d)=true->(d.1.2.1.length:Int)<=64)/\(decide (jf4 d)=true->wn ((1:Int)*2^(d.1.2.1.length:Int).toNat))/\(decide (jf4 d)=true->wn ((1:Int)*2^(d.1.2.1.length:Int).toNat-1))/\((jic d)=true->(Gf d.1 d.2.1,(1:Int),())=(Gf d.1 d.2.1,bm d.1 d.2.1 d.2.2.1,()))/\((jic d)=false->(Gf d.1 d.2.1,vl d.1 d.2.1,())=(Gf d.1 d.2.1,bm d.1 d.2.1 d.2.2.1,()))
def MM:wO:=⟨[.val tCr,.val tJb,.val .int],[.int,.int],false,fun _=>[],fun d=>(jbM d.1 d.2.1 d.2.2.1,bm d.1 d.2.1 d.2.2.1,())⟩
def MN:Prop:=∀(d:CrD×JbD×Int×Unit),(decide (bm d.1 d.2.1 d.2.2.1≠0)=true->((0:Int),bm d.1 d.2.1 d.2.2.1,())=(jbM d.1 d.2.1 d.2.2.1,bm d.1 d.2.1 d.2.2.1,()))/\(decide (bm d.1 d.2.1 d.2.2.1≠0)=false->0<=d.2.2.1/\d.2.2.1<=18446744073709551615/\(Gf d.1 d.2.1).isSome=true/\cu (U.tk (Gf d.1 d.2.1))/\BT.qz d.2.2.1/\wn (vE (U.tk (Gf d.1 d.2.1)) d.2.2.1)/\(vE (U.tk (Gf d.1 d.2.1)) d.2.2.1,(0:Int),())=(jbM d.1 d.2.1 d.2.2.1,bm d.1 d.2.1 d.2.2.1,()))
def XG:wO:=⟨[.val tCr,.val tJb],[.slice .int,.int],false,fun _=>[],fun d=>(dh d.1 d.2.1,vl d.1 d.2.1,())⟩
def XH:Ann:=fun r=>match r with
 |6=>some fun σ=>{X:=Nat,sl:=fun i=>[(23,.dat .int (i:Int)),(8,.own 8 .int)],ob:=fun i=>[(8,some (.row 3 .int false .yes (cv (gd tCr σ 0) (gd tJb σ 1) i)))],inv:=fun i=>i<=(wd (gd tCr σ 0)).length,mu:=fun i=>(wd (gd tCr σ 0)).length-i}
 |_=>none
def XI:Prop:=∀(d:CrD×JbD×Unit),(decide (vl d.1 d.2.1≠0)=true->([],vl d.1 d.2.1,())=(dh d.1 d.2.1,vl d.1 d.2.1,()))/\(decide (vl d.1 d.2.1≠0)=false->d.1.2.1.length<4611686018427387904->(∃(x:Nat),((0=(x:Int)/\True/\True)/\cv d.1 d.2.1 x=[]/\True)/\x<=(wd d.1).length)/\∀(x:Nat),x<=(wd d.1).length->(decide ((x:Int)<d.1.2.1.length)=true->0<=(x:Int)/\(x:Int)<d.1.2.1.length/\(Gf d.1 d.2.1).isSome=true/\cu (U.tk (Gf d.1 d.2.1))/\(decide (yc (U.tk (Gf d.1 d.2.1)) (nth d.1.2.1 (x:Int).toNat)=0)=true->((cv d.1 d.2.1 x).length+[(x:Int)].length)*8<=140737488355328/\wn ((x:Int)+1)/\∃(a:Nat),(((x:Int)+1=(a:Int)/\True/\True)/\cv d.1 d.2.1 x++[(x:Int)]=cv d.1 d.2.1 a/\True)/\a<=(wd d.1).length/\(wd d.1).length-a<(wd d.1).length-x)/\(decide (yc (U.tk (Gf d.1 d.2.1)) (nth d.1.2.1 (x:Int).toNat)=0)=false->wn ((x:Int)+1)/\∃(a:Nat),((True/\(x:Int)+1=(a:Int)/\True)/\cv d.1 d.2.1 x=cv d.1 d.2.1 a/\True)/\a<=(wd d.1).length/\(wd d.1).length-a<(wd d.1).length-x))/\(decide ((x:Int)<d.1.2.1.length)=false->(cv d.1 d.2.1 x,(0:Int),())=(dh d.1 d.2.1,vl d.1 d.2.1,())))
theorem UL (a b c:Bool):0<=SJ a b c/\SJ a b c<=7:=by
 unfold SJ jbK;cases a<;>cases b<;>cases c<;>simp
theorem Cy (t:TkD) (p:PeD):0<=yc t p/\yc t p<=7:=UL _ _ _
theorem JI {s:Int} (h:0<=s/\s<=1000):BT.qz s:=by unfold BT.qz;omega
theorem UM {a b:Int} (c:0<=a/\a<64) (d:0<=b/\b<64):0<=uor a b/\uor a b<64:=by
 obtain⟨n,rfl⟩:∃n:Nat,a=(n:Int):=⟨a.toNat,by omega⟩;obtain⟨m,rfl⟩:∃m:Nat,b=(m:Int):=⟨b.toNat,by omega⟩;rw[BT.uor_nat (by omega) (by omega)];have:n|||m<2^6:=kr (by omega) (by omega);omega
theorem MO (t:TkD):∀(q:List (Int×PeD×Unit)) (o:Int),(0<=o/\o<64)->0<=cH t o q/\cH t o q<64
 |[],o,h=>h
 |x::q,o,h=>by
  have:=Cy t x.2.1
  exact MO t q _ (UM h ⟨by omega,by omega⟩)
theorem Cz {b:Bool} {o k:Int} (h:0<=o/\o<64) (hk:0<=k/\k<64):0<=E1 b o k/\E1 b o k<64:=by
 unfold E1
 split
 exact UM h hk;exact h
theorem Q7 (t:TkD) (s:Int):0<=vE t s/\vE t s<64:=by
 unfold vE;exact Cz (Cz (Cz (MO t _ _ (by omega)) (by omega)) (by omega)) (by omega)
theorem UN (t:TkD) (o:Int) (q:List (Int×PeD×Unit)) (x:Int×PeD×Unit):cH t o (q++[x])=uor (cH t o q) (yc t x.2.1):=by
 unfold cH;rw[jU];rfl
theorem XJ {t:TkD} {s:Int} (a:cu t):((iv t s).length:Int)=U.la (U.tc t):=by
 obtain⟨f,g,c,d⟩:=JG (s:=s) a;have b:(Ge (U.tj t)).toNat<(U.la (U.tc t)).toNat:=(by omega);have:=(Cm (J:=Ly t s) b ((U.la (U.tc t)).toNat+1)).1.i.len;have e:(iv t s).length=(U.la (U.tc t)).toNat:=this;omega
theorem CA:iG:=by
 unfold iG jg1 jhA jfm jfx jeI Prod.q4;rintro⟨(_|t),s,⟨⟩⟩ n a c;cases n;have a:cu t:=a;have c:BT.qz s:=c;obtain⟨c1,c2,_⟩:=id a;obtain⟨_,_,p,_⟩:=wU c1;obtain⟨⟨m,r⟩,_⟩:=lX c2;have o:=XJ (s:=s) a;have f:U.tk (some t)=t:=rfl;have b:0<=Lx (U.tj t)/\Lx (U.tj t)<(((iv t s).length:Nat):Int):=⟨m,by omega⟩;refine⟨⟨rfl,(by omega:(wd (U.tc t)).length<=60)⟩,⟨rfl,a,tZ⟩,rfl,fun q x rest u _=>⟨rfl,a,rfl,?_⟩,fun xs g _=>⟨c,rfl,rfl,?_⟩,fun q x rest _ _ h=>by cases h⟩;simp only[f,UN];unfold eZ;simp only[kT,List.any_cons,List.any_nil,kO,Bool.false_or];rfl;simp only[f] at g⊢;subst g;have key:∀(j k l:Bool),decide (BT.size s≠max (YL (U.tj t)) (jbw (U.tl t)))=j->(jdf (U.tl t)&& !eZ (xi t s))=k->decide (nth (iv t s) (Lx (U.tj t)).toNat<0)=l->
  E1 l (E1 k (E1 j (cH t 0 (xi t s)) 8) 16) 32=vE t s:=by
  intro j k l i e d;unfold vE;rw[i,e,d]
 refine⟨fun i=>⟨rfl,fun e=>⟨rfl,a,rfl,b.1,b.2,fun d=> ?_,fun d=> ?_⟩,fun e=>⟨rfl,a,rfl,b.1,b.2,fun d=> ?_,fun d=> ?_⟩⟩,fun i=>⟨rfl,fun e=>⟨rfl,a,rfl,b.1,b.2,fun d=> ?_,fun d=> ?_⟩,fun e=>⟨rfl,a,rfl,b.1,b.2,fun d=> ?_,fun d=> ?_⟩⟩⟩<;>
  (rw[Bool.false_or] at e;have:=key _ _ _ i e d;rw[<-this];rfl)
theorem Hk {c:CrD} (h:wo c=true):(0:Int)<2^(wd c).length/\(2:Int)^(wd c).length<=256:=by
 obtain⟨_,_,a,_⟩:=wU h;rw[BT.AY];have b:2^(wd c).length<=2^8:=Nat.pow_le_pow_right (by decide) a;have d:0<2^(wd c).length:=Nat.pow_pos (by decide);omega
theorem XK:UK:=by
 unfold UK jic jf4;rintro⟨c,j,n,⟨⟩⟩ _;have e:∀l:Nat,(1:Int)*2^((l:Int)).toNat=2^l:=fun l=>by rw[Int.one_mul,jw]
 simp only[e];refine⟨fun _=>by omega,fun h=> ?_,fun h=> ?_,fun h=> ?_,fun h=> ?_,fun h=> ?_⟩;have:=(wU (pi (ja h)).1).2.2.1;have this:c.2.1.length<=8:=this;omega;have:=Hk (pi (ja h)).1;have this:(0:Int)<2^c.2.1.length/\(2:Int)^c.2.1.length<=256:=this;exact iZ6;have:=Hk (pi (ja h)).1;have this:(0:Int)<2^c.2.1.length/\(2:Int)^c.2.1.length<=256:=this;exact iZ6;rw[ji] at h;have a:=ja h.1;have b:Ik c n=false:=by
  have d:kX n 0 (2^c.2.1.length-1)=false:=(by simpa using h.2);exact d
 unfold bm;rw[jd (by omega),jd (by rw[b];simp)];unfold bm;by_cases a:vl c j=0;rw[jL a,Bool.true_and] at h;have b:Ik c n=true:=by
  have d:kX n 0 (2^c.2.1.length-1)=true:=(by simpa using h);exact d
 rw[jd (by omega),je b,a];rw[je a]
theorem UO:wX PR 185 UJ:=wJ XK Tryz.func185 (kcC JB (kcC gF kcN)) koN
theorem Q8 {c:CrD} {j:JbD} {n:Int} (h:bm c j n=0):vl c j=0/\0<=n/\n<2^(wd c).length:=by
 unfold bm at h
 split at h
 rename_i b;omega;rename_i b
 split at h
 rename_i a;unfold Ik kX at a;simp only[ji,jo] at a;exact⟨by omega,a.1,by omega⟩;omega
theorem Q9:MN:=by
 rintro⟨c,j,n,⟨⟩⟩;refine⟨fun h=> ?_,fun h=> ?_⟩;have h:bm c j n≠0:=ja h;simp only;unfold jbM;rw[jd h];have h:bm c j n=0:=(by simpa using h);obtain⟨d,e,f⟩:=Q8 h;obtain⟨b,e2⟩:=UF d;have i:=Hk (pi d).1;have a:U.tk (Gf c j)=(c,j,cG c j,()):=(by rw[b];rfl);have g:=Q7 (c,j,cG c j,()) n;simp only[a];refine⟨e,by omega,by rw[b];rfl,e2,JI ⟨e,by omega⟩,iZ6,?_⟩;unfold jbM;rw[je h,h]
theorem FX (c:CrD) (j:JbD) (n:Nat):cv c j (n+1)=cv c j n++(if yc (c,j,cG c j,()) (nth (wd c) n)=0 then[(n:Int)] else[]):=by
 unfold cv;rw[L.vQ,zw];by_cases h:yc (c,j,cG c j,()) (nth (wd c) n)=0;rw[je (jL h),je h];rfl;rw[jd (by simpa using h),jd h];rfl
theorem UP (c:CrD) (j:JbD) (n:Nat):(cv c j n).length<=n:=by
 unfold cv;rw[zp];exact jD (zF _ _) (by simp)
theorem jaB:XI:=by
 rintro⟨c,j,⟨⟩⟩;refine⟨fun h=> ?_,fun h _=>⟨⟨0,⟨⟨rfl,tZ,tZ⟩,rfl,tZ⟩,jp _⟩,fun x f=>⟨fun a=> ?_,fun a=> ?_⟩⟩⟩;have h:vl c j≠0:=ja h;simp only;unfold dh;rw[jd h];have h:vl c j=0:=(by simpa using h);obtain⟨e,e2⟩:=UF h;have d:U.tk (Gf c j)=(c,j,cG c j,()):=(by rw[e];rfl);have a:x<(wd c).length:=by
  have a:=ja a;have a:(x:Int)<(wd c).length:=a;omega
 have g:(x:Int)<(wd c).length:=(by omega);have i:=(wU (pi h).1).2.2.1;have k:=UP c j x;simp only[d,jw];refine⟨by omega,g,by rw[e];rfl,e2,fun b=>⟨by simp only[j6,zt];omega,iZ6,x+1,⟨⟨by simp,tZ,tZ⟩,?_,tZ⟩,a,by omega⟩,fun b=>⟨iZ6,x+1,⟨⟨tZ,by simp,tZ⟩,?_,tZ⟩,a,by omega⟩⟩;have b:yc (c,j,cG c j,()) (nth (wd c) x)=0:=ja b;rw[FX,je b];have b:¬yc (c,j,cG c j,()) (nth (wd c) x)=0:=jc b;rw[FX,jd b,j8];have h:vl c j=0:=(by simpa using h);have a:(wd c).length<=x:=by
  have a:=jc a;have a:¬(x:Int)<(wd c).length:=a;omega
 have f:x<=(wd c).length:=f;simp only;unfold dh;rw[je h,h,show x=(wd c).length by omega]
def CB:Ann:=fun r=>match r with
 |2=>some fun σ=>{X:=List (Int×Int)×Int,sl:=fun x=>[(4,.dat (.uint .u64) x.2)],ob:=fun x=>[(37,some (.iter .int .int x.1 none))],inv:=fun x=>bj (s9 (U.tk (gd (.ptr tTk) σ 0)) (gd tPe σ 1)) x.1 x.2,mu:=fun x=>x.1.length}
 |_=>none
abbrev jfQ (d:Option (CrD×JbD×LwD×Unit)×PeD×Unit):=(wE (((0:Int),[],[],()),((0:Int),(0:Int),(0:Int),(0:Int),(0:Int),(0:Int),()),((0:Int),(0:Int),false,()),()) d.1)
def CC:Prop:=∀(d:Option (CrD×JbD×LwD×Unit)×PeD×Unit),d.1.isSome=true->cu (U.tk d.1)->d.1.isSome=true/\d.1.isSome=true/\(0:Int)<=(jfQ d).2.1.2.2.2.1/\(jfQ d).2.1.2.2.2.1<=64/\d.1.isSome=true/\(0:Int)<=(jfQ d).2.1.q4.1/\(jfQ d).2.1.q4.1<=64/\[(0:Int),(1:Int),(2:Int)].Nodup/\∀(l:List (Int×Int)),l.Perm [((0:Int),jbK !d.2.1.2.2.2.1.any fun(e:Int)=>decide (e=(jfQ d).2.1.2.2.1)),((1:Int),iP (d.2.1.2.1/(2:Int)^(jfQ d).2.1.2.2.2.1.toNat) (1:Int)),((2:Int),iP (d.2.1.2.2.1/(2:Int)^(jfQ d).2.1.q4.1.toNat) (1:Int))]->(((∃(x:List (Int×Int)×Int),((0=x.2/\True)/\l=x.1/\True)/\bj (s9 (U.tk d.1) d.2.1) x.1 x.2)/\∀(x:List (Int×Int)×Int),bj (s9 (U.tk d.1) d.2.1) x.1 x.2->(x.1=[]->(false=true->False)/\(qF->(x.2,())=(yc (U.tk d.1) d.2.1,())))/\∀(pre:List (Int×Int)) (a:Int×Int) (b:List (Int×Int)),x.1=pre++a::b->(true=true->(decide (a.2=0)=true->0<=a.1/\a.1<=64/\(0:Int)<=1*2^a.1.toNat/\(1:Int)*2^a.1.toNat<=18446744073709551615/\∃(c:List (Int×Int)×Int),((uor x.2 ((1:Int)*2^a.1.toNat)=c.2/\True)/\pre++b=c.1/\True)/\bj (s9 (U.tk d.1) d.2.1) c.1 c.2/\c.1.length<x.1.length)/\(decide (a.2=0)=false->∃(c:List (Int×Int)×Int),((x.2=c.2/\True)/\pre++b=c.1/\True)/\bj (s9 (U.tk d.1) d.2.1) c.1 c.2/\c.1.length<x.1.length))/\(true=false->(x.2,())=(yc (U.tk d.1) d.2.1,())))/\True)/\True
theorem XL (z:Int):iP z 1=0\/iP z 1=1:=by
 unfold iP;rw[BitVec.toNat_and];have a:(BitVec.ofInt 64 1).toNat=1:=rfl;rw[a,kE];rcases Nat.mod_two_eq_zero_or_one (BitVec.ofInt 64 z).toNat with h|h;rw[h];exact .inl rfl;rw[h];exact .inr rfl
theorem PK (s n:Int):(iP (s/2^n.toNat) 1=0)↔(!wD s n)=true:=by
 unfold wD;rcases XL (s/2^n.toNat) with h|h<;>rw[h]<;>simp
theorem XM (a b c:Bool) (p:Nat):BT.has (SJ a b c) p=true↔(a=true/\p=0)\/(b=true/\p=1)\/(c=true/\p=2):=by
 match p with
 |0=>cases a<;>cases b<;>cases c<;>decide
 |1=>cases a<;>cases b<;>cases c<;>decide
 |2=>cases a<;>cases b<;>cases c<;>decide
 |p+3=>
  have h:=UL a b c;have:BT.has (SJ a b c) (p+3)=false:=by
   cases d:BT.has (SJ a b c) (p+3) with
   |false=>rfl
   |true=>have:=BT.has_lt (k:=3) h.1 (by omega) d;omega
  rw[this];simp
theorem XN (t:TkD) (p:PeD) (k:Nat):(∃e∈s9 t p,e.2=0/\e.1.toNat=k)↔BT.has (yc t p) k=true:=by
 unfold yc;rw[XM];have c:jbK (!ct p (WP (U.tj t)))=0↔ct p (WP (U.tj t))=true:=by
  unfold jbK;cases ct p (WP (U.tj t))<;>simp
 have e2:=PK (U.fd p) (OM (U.tj t));have d:=PK (U.cl p) (mB (U.tj t));unfold s9;simp only[jk,List.not_mem_nil,or_false];rw[<-c,<-e2,<-d];constructor;rintro⟨e,(rfl|rfl|rfl),a,b⟩;exact .inl ⟨a,b.symm⟩;exact .inr (.inl ⟨a,b.symm⟩);exact .inr (.inr ⟨a,b.symm⟩);rintro(⟨a,b⟩|⟨a,b⟩|⟨a,b⟩);exact⟨_,.inl rfl,a,b.symm⟩;exact⟨_,.inr (.inl rfl),a,b.symm⟩;exact⟨_,.inr (.inr rfl),a,b.symm⟩
theorem XO {t:TkD} {p:PeD} {e:Int×Int} (h:e∈s9 t p):0<=e.1/\e.1<=2:=by
 unfold s9 at h;simp only[jk,List.not_mem_nil,or_false] at h;rcases h with rfl|rfl|rfl<;>simp
theorem Ra (t:TkD) (p:PeD):(s9 t p).Nodup:=by
 unfold s9;simp
theorem MP {t:TkD} {p:PeD} {l:List (Int×Int)} (h:l.Perm (s9 t p)):bj (s9 t p) l 0:=by
 refine⟨BT.DO,h.symm.nodup (Ra t p),fun e c=>h.mem_iff.1 c,fun k=> ?_⟩;rw[BT.tn];constructor;intro h;cases h;rintro⟨e,a,b,_⟩;exact absurd (h.mem_iff.2 a) b
theorem Rb {t:TkD} {p:PeD} {s:Int} (h:bj (s9 t p) [] s):s=yc t p:=by
 obtain⟨a,_,_,c⟩:=h;refine BT.ext a (JI (by have:=Cy t p;omega)) (fun k=> ?_);rw[jX,c,<-XN];constructor;rintro⟨e,a,_,b⟩;exact⟨e,a,b⟩;rintro⟨e,a,b⟩;exact⟨e,a,by simp,b⟩
theorem FY {all pre a:List (Int×Int)} {e:Int×Int} {s j:Int} (h:bj all (pre++e::a) s) (p:BT.qz j) (hk:∀k,BT.has j k=true↔BT.has s k=true\/(e.2=0/\e.1.toNat=k)):bj all (pre++a) j:=by
 obtain⟨q,m,l,n⟩:=h;have i:(e::(pre++a)).Nodup:=List.perm_middle.nodup m;have b:∀x,x∈pre++e::a↔x=e\/x∈pre++a:=fun x=>by rw[List.perm_middle.mem_iff,jk]
 rw[zu] at i;refine⟨p,i.2,fun x c=>l x ((b x).2 (.inr c)),fun k=> ?_⟩;rw[hk,n];constructor;rintro(⟨x,d,f,g⟩|⟨d,f⟩);exact⟨x,d,fun c=>f ((b x).2 (.inr c)),g⟩;exact⟨e,l e ((b e).2 (.inl rfl)),i.1,d,f⟩;rintro⟨x,d,f,g⟩;by_cases c:x=e;subst c;exact .inr g;exact .inl ⟨x,d,fun o=>by rcases(b x).1 o with h|h;exact c h;exact f h,g⟩
theorem Ed:CC:=by
 unfold CC jfQ Prod.q4;rintro⟨(_|t),p,⟨⟩⟩ s d;cases s;have d:cu t:=d;have r:U.tk (some t)=t:=rfl;obtain⟨c1,c2,_⟩:=id d;obtain⟨_,_,_,⟨m,o⟩,⟨n,q⟩,_⟩:=lX c2;have m:0<=t.2.1.2.2.2.1:=m;have o:t.2.1.2.2.2.1<=7:=o;have n:0<=t.2.1.2.2.2.2.1:=n;have q:t.2.1.2.2.2.2.1<=3:=q;refine⟨rfl,rfl,m,by simp only[wE];omega,rfl,n,by simp only[wE];omega,by decide,fun l w=>⟨⟨⟨⟨(l,0),⟨⟨rfl,tZ⟩,rfl,tZ⟩,MP w⟩,fun x b=>⟨fun h=>⟨fun h=>(by cases h),fun _=> ?_⟩,fun pre e a h=>⟨fun _=> ?_,fun h=>(by cases h)⟩⟩⟩,tZ⟩,tZ⟩⟩;rw[h] at b;rw[Rb b];rw[h] at b;have u:e∈s9 t p:=b.2.2.1 e (by simp);have hk:=XO u;obtain⟨k,g,v⟩:∃k:Nat,e.1=(k:Int)/\k<=2:=⟨e.1.toNat,by omega,by omega⟩;have y:(1:Int)*2^k=2^k:=Int.one_mul _;have c:(pre++a).length<x.1.length:=(by rw[h];simp);have i:BT.qz ((2:Int)^k):=BT.iw (by omega);refine⟨fun f=> ?_,fun f=> ?_⟩;have f:e.2=0:=ja f;rw[g,jw,y];refine⟨by omega,by omega,by unfold BT.qz at i;omega,by unfold BT.qz at i;omega,(pre++a,uor x.2 (2^k)),⟨⟨rfl,tZ⟩,rfl,tZ⟩,FY b (BT.uor_set b.1 i) (fun j=> ?_),c⟩;rw[BT.has_uor b.1 i,BT.AZ,zr,jo,g,jw];simp[f];have f:¬e.2=0:=jc f;exact⟨(pre++a,x.2),⟨⟨rfl,tZ⟩,rfl,tZ⟩,FY b b.1 (fun j=>by simp[f]),c⟩
theorem lY:wX PR 180 ya:=vF CB Ed Tryz.func180 (kcC cX (kcC Q3 kcN)) koN
theorem JJ:(Lw 64 [(180,ya),(214,gg),(215,gh)] [] [(213,wQ)] []).ok PR:=Mx ⟨fun _=>lY,fun _=>G9,fun _=>Hj,tZ⟩ trivial ⟨d9,tZ⟩ trivial
theorem xI:wX PR 186 iF:=
 Ur (body:=w6 Tryz.f186) (C:=Lw 64 [(180,ya),(214,gg),(215,gh)] [] [(213,wQ)] []) (hk:=hkC (Lw 64 [(180,ya),(214,gg),(215,gh)] [] [(213,wQ)] []) (fun _=>none) Cx [] []) JJ mixed Tryz.func186 (by kernel_rfl) (by kernel_rfl) (by kernel_rfl) (by decide)
  (fun B=>FT JJ mixed (fun k ts rs sv d L v ρ hk c a b=>by
   unfold Cx at hk
   split at hk
   case h_2=>cases hk
   simp only[jy] at hk
   cases hk
   exact JC c a b) jay B) (pj.mpr CA)
theorem MQ:wX PR 145 MM:=wJ Q9 Tryz.func145 (kcC UO (kcC xI kcN)) koN
theorem XP:wX PR 142 XG:=vF XH jaB Tryz.func142 (kcC JB (kcC lY kcN)) koN
namespace U
def cI (a b:Int):Int:=if a<b then-1 else if b<a then 1 else 0
def yM (l:List Int):Int:=match l.find? (fun n=>decide (n≠0)) with|some n=>n|none=>0
end U
structure fW {α:Type} (c:α->α->Int):Prop where
 anti:∀a b,c b a= -(c a b)
 trans:∀a b d,c a b<=0->c b d<=0->c a d<=0
section
variable {α:Type} {c c1 c2:α->α->Int}
theorem fW.refl (h:fW c) (a:α):c a a=0:=by have:=h.anti a a;omega
theorem fW.lt_le (h:fW c) {a b d:α} (g:c a b<0) (f:c b d<=0):c a d<0:=by
 have i:=h.trans a b d (by omega) f;have j:=h.anti a d;have k:=h.anti a b;by_cases e:c a d=0;have:=h.trans b d a f (by omega);omega;omega
theorem fW.le_lt (h:fW c) {a b d:α} (f:c a b<=0) (g:c b d<0):c a d<0:=by
 have i:=h.trans a b d f (by omega);have j:=h.anti a d;have k:=h.anti b d;by_cases e:c a d=0;have:=h.trans d a b (by omega) f;omega;omega
theorem fW.eq_eq (h:fW c) {a b d:α} (e:c a b=0) (f:c b d=0):c a d=0:=by
 have g:=h.trans a b d (by omega) (by omega);have i:=h.anti a d;have j:=h.anti a b;have k:=h.anti b d;have:=h.trans d b a (by omega) (by omega);omega
def S0 (c1 c2:α->α->Int) (a b:α):Int:=if c1 a b≠0 then c1 a b else c2 a b
theorem pk (c:fW c1) (g:fW c2):fW (S0 c1 c2) where
 anti a b:=by
  have i:=c.anti a b;have h:=g.anti a b;unfold S0;by_cases e:c1 a b=0;rw[jd (by omega),jd (by omega)];exact h;rw[je (by omega),je e];exact i
 trans a b d:=by
  unfold S0;by_cases e:c1 a b=0;rw[jd (by omega)];by_cases f:c1 b d=0;rw[jd (by omega),jd (by have:=c.eq_eq e f;omega)];exact g.trans a b d;rw[je f];intro _ k;have:=c.le_lt (a:=a) (b:=b) (d:=d) (by omega) (by omega);rw[je (by omega)];omega;rw[je e];intro k;by_cases f:c1 b d=0;rw[jd (by omega)];intro _;have:=c.lt_le (a:=a) (b:=b) (d:=d) (by omega) (by omega);rw[je (by omega)];omega;rw[je f];intro h;have:=c.lt_le (a:=a) (b:=b) (d:=d) (by omega) (by omega);rw[je (by omega)];omega
theorem oe {β:Type} (h:fW c) (f:β->α):fW (fun a b=>c (f a) (f b)):=⟨fun a b=>h.anti (f a) (f b),fun a b d=>h.trans (f a) (f b) (f d)⟩
end
theorem lZ:fW cI:=by
 constructor;intro a b;unfold cI;split<;>split<;>(try split)<;>(try split)<;>omega
 intro a b d;unfold cI;split<;>split<;>(try split)<;>(try split)<;>(try split)<;>(try split)<;>omega
theorem UQ {a b:Int}:cI a b<0↔a<b:=by
 unfold cI
 split
 simp;omega
 split<;>simp<;>omega
theorem aK {a b:Int}:cI a b=0↔a=b:=by
 unfold cI
 split
 simp;omega
 split
 simp;omega;simp;omega
theorem qk (x:Int) (l:List Int):yM (x::l)=if x≠0 then x else yM l:=by
 unfold yM;by_cases e:x=0;simp[List.find?,e];simp[List.find?,e]
theorem vR (x:Int):yM [x]=x:=by
 rw[qk]
 split
 rfl;rename_i h;have:x=0:=(by omega);rw[this];rfl
theorem AT {t:Ty} {c:t.Data->t.Data->Int} (d:fW c) {l:List t.Data} (h:∀x y,x∈l->y∈l->c x y=0->x=y):vN (wa t fun x=>(c x.1 x.2.1,())) l where
 irrefl x _:=by
  unfold wa;have:=d.refl x;simp only[this];rfl
 trans x y z _ _ _ b a:=by
  unfold wa at*;have b:=ja b;have a:=ja a;exact jL (d.lt_le b (by have a:c y z<0:=a;show c y z<=0;omega))
 total x y hx hy b a:=by
  unfold wa at*;have b:¬c x y<0:=jc b;have a:¬c y x<0:=jc a;have:=d.anti x y;exact h x y hx hy (by omega)
end Go.X
namespace Go.X
open U
namespace M
theorem mput_cons {kt:Ty} {β:Type} (k:kt.Data) (v:β) (e:kt.Data×β) (r:List (kt.Data×β)):fu kt k v (e::r)=if @decide (k=e.1) (kt.decEq k e.1)=true then(k,v)::r else e::fu kt k v r:=rfl
theorem mfind_cons {kt:Ty} {β:Type} (k:kt.Data) (e:kt.Data×β) (r:List (kt.Data×β)):wx kt k (e::r)=if @decide (k=e.1) (kt.decEq k e.1)=true then some e.2 else wx kt k r:=rfl
theorem mfind_none {kt:Ty} {β:Type} {k:kt.Data}:∀{l:List (kt.Data×β)},k∉l.map (·.1)->wx kt k l=none
 |[],_=>rfl
 |e::r,h=>by
  simp only[zx,jk,not_or] at h
  rw[mfind_cons,jd (fun a=>h.1 (@ja _ (kt.decEq k e.1) a))]
  exact mfind_none h.2
theorem dec_self {kt:Ty} (k:kt.Data): @decide (k=k) (kt.decEq k k)=true:= @jL _ (kt.decEq k k) rfl
theorem mput_fst {kt:Ty} {β:Type} (k:kt.Data) (v:β):∀m:List (kt.Data×β),(fu kt k v m).map (·.1)=m.map (·.1)\/(k∉m.map (·.1)/\(fu kt k v m).map (·.1)=m.map (·.1)++[k])
 |[]=> .inr ⟨by simp,rfl⟩
 |e::r=>by
  rw[mput_cons]
  by_cases h: @decide (k=e.1) (kt.decEq k e.1)=true
  rw[je h]
  have h:k=e.1:= @ja _ (kt.decEq k e.1) h
  left
  simp[h]
  rw[jd h]
  have h:¬k=e.1:=fun a=>h (@jL _ (kt.decEq k e.1) a)
  rcases mput_fst k v r with d|⟨b,c⟩
  left;simp only[zx,d]
  right
  refine⟨?_,by simp only[zx,c,j0]⟩
  rw[zx,jk]
  rintro(a|a)
  exact h a
  exact b a
theorem pR {kt:Ty} {β:Type} (k:kt.Data) (v:β):∀l:List (kt.Data×β),wx kt k (fu kt k v l)=some v
 |[]=>by
  rw[show fu kt k v []=[(k,v)] from rfl,mfind_cons,je (dec_self k)]
 |e::r=>by
  rw[mput_cons]
  by_cases h: @decide (k=e.1) (kt.decEq k e.1)=true
  rw[je h,mfind_cons,je (dec_self k)]
  rw[jd h,mfind_cons,jd h]
  exact pR k v r
theorem dH {kt:Ty} {β:Type} {k k':kt.Data} (a:k'≠k) (v:β):∀l:List (kt.Data×β),wx kt k' (fu kt k v l)=wx kt k' l
 |[]=>by
  rw[show fu kt k v []=[(k,v)] from rfl,mfind_cons,jd (fun e=>a (@ja _ (kt.decEq k' k) e))]
 |e::r=>by
  rw[mput_cons]
  by_cases h: @decide (k=e.1) (kt.decEq k e.1)=true
  rw[je h]
  have h:k=e.1:= @ja _ (kt.decEq k e.1) h
  have c:¬@decide (k'=e.1) (kt.decEq k' e.1)=true:=fun b=>a ((@ja _ (kt.decEq k' e.1) b).trans h.symm)
  rw[mfind_cons,mfind_cons,jd c,jd (fun e=>a (@ja _ (kt.decEq k' k) e))]
  rw[jd h,mfind_cons,mfind_cons,dH a v r]
theorem fj {kt:Ty} {β:Type} {k:kt.Data} {v:β}:∀{l:List (kt.Data×β)},(l.map (·.1)).Nodup->(wx kt k l=some v↔(k,v)∈l)
 |[],_=>by simp[wx]
 |e::r,h=>by
  simp only[zx,zu] at h
  rw[mfind_cons]
  by_cases hk: @decide (k=e.1) (kt.decEq k e.1)=true
  rw[je hk]
  have hk:k=e.1:= @ja _ (kt.decEq k e.1) hk
  subst hk
  rw[jk]
  constructor
  intro a;simp at a;exact .inl (by rw[<-a])
  rintro(a|a)
  rw[<-a]
  exact absurd (jZ.2 ⟨_,a,rfl⟩) h.1
  rw[jd hk]
  have hk:¬k=e.1:=fun b=>hk (@jL _ (kt.decEq k e.1) b)
  rw[fj h.2,jk]
  constructor
  exact .inr
  rintro(a|a)
  exact absurd (by rw[<-a]) hk
  exact a
end M
end Go.X
namespace Go.Proofs
open Go.Shelf
theorem xlay {t:Type} {a:Option t} {b c:t} (h:a=some b) (e:b=c:=by kernel_rfl):a=some c:=h.trans (congrArg some e)
def Tryz.sortSh_ren:Go.Shelf.Ren:=⟨fun|6=>128|15=>140|14=>168|28=>177|29=>178|20=>195|21=>196|22=>197|23=>198|24=>199|25=>200|26=>201|27=>202|46=>218|47=>204|48=>205|49=>219|50=>220|57=>238|n=>n,fun|22=>28|24=>134|25=>159|3=>3|39=>92|0=>0|53=>189|55=>191|4=>4|46=>183|45=>182|50=>50|5=>5|9=>9|66=>213|70=>217|76=>231|77=>232|n=>n,fun|n=>n⟩
theorem Tryz.sortSh:Go.Proofs.SlLaysF0.n6 Tryz.prog Tryz.sortSh_ren:={
 mixed:=by kernel_rfl
 f6:=⟨Tryz.f128.name,by decide,xlay Tryz.func128⟩
 f14:=⟨Tryz.f168.name,by decide,xlay Tryz.func168⟩
 f15:=xlay Tryz.func140
 f20:=⟨Tryz.f195.name,by decide,xlay Tryz.func195⟩
 f21:=⟨Tryz.f196.name,by decide,xlay Tryz.func196⟩
 f22:=⟨Tryz.f197.name,by decide,xlay Tryz.func197⟩
 f23:=⟨Tryz.f198.name,by decide,xlay Tryz.func198⟩
 f24:=⟨Tryz.f199.name,by decide,xlay Tryz.func199⟩
 f25:=⟨Tryz.f200.name,by decide,xlay Tryz.func200⟩
 f26:=⟨Tryz.f201.name,by decide,xlay Tryz.func201⟩
 f27:=⟨Tryz.f202.name,by decide,xlay Tryz.func202⟩
 f28:=xlay Tryz.func177
 f29:=xlay Tryz.func178
 f46:=⟨Tryz.f218.name,by decide,xlay Tryz.func218⟩
 f47:=xlay Tryz.func204
 f48:=xlay Tryz.func205
 f49:=⟨Tryz.f219.name,by decide,xlay Tryz.func219⟩
 f50:=⟨Tryz.f220.name,by decide,xlay Tryz.func220⟩
 f57:=⟨Tryz.f238.name,by decide,xlay Tryz.func238⟩
 t0:=Tryz.underlying0
 a0:=Tryz.isAgg0
 z0:=Tryz.sizeOf0
 v0:=Tryz.zeroValue0
 t3:=Tryz.underlying3
 a3:=Tryz.isAgg3
 z3:=Tryz.sizeOf3
 v3:=Tryz.zeroValue3
 t4:=Tryz.underlying4
 a4:=Tryz.isAgg4
 z4:=Tryz.sizeOf4
 v4:=Tryz.zeroValue4
 t5:=Tryz.underlying5
 a5:=Tryz.isAgg5
 z5:=Tryz.sizeOf5
 v5:=Tryz.zeroValue5
 t9:=Tryz.underlying9
 a9:=Tryz.isAgg9
 z9:=Tryz.sizeOf9
 v9:=Tryz.zeroValue9
 t22:=Tryz.underlying28
 a22:=Tryz.isAgg28
 z22:=Tryz.sizeOf28
 v22:=Tryz.zeroValue28
 t25:=Tryz.underlying159
 a25:=Tryz.isAgg159
 z25:=Tryz.sizeOf159
 v25:=Tryz.zeroValue159
 t39:=Tryz.underlying92
 a39:=Tryz.isAgg92
 z39:=Tryz.sizeOf92
 v39:=Tryz.zeroValue92
 t45:=Tryz.underlying182
 a45:=Tryz.isAgg182
 z45:=Tryz.sizeOf182
 v45:=Tryz.zeroValue182
 t46:=Tryz.underlying183
 a46:=Tryz.isAgg183
 z46:=Tryz.sizeOf183
 v46:=Tryz.zeroValue183
 t50:=Tryz.underlying50
 a50:=Tryz.isAgg50
 z50:=Tryz.sizeOf50
 v50:=Tryz.zeroValue50
 t53:=Tryz.underlying189
 a53:=Tryz.isAgg189
 z53:=Tryz.sizeOf189
 v53:=Tryz.zeroValue189
 t55:=Tryz.underlying191
 a55:=Tryz.isAgg191
 z55:=Tryz.sizeOf191
 v55:=Tryz.zeroValue191
 t66:=Tryz.underlying213
 a66:=Tryz.isAgg213
 z66:=Tryz.sizeOf213
 v66:=Tryz.zeroValue213
 t70:=Tryz.underlying217
 a70:=Tryz.isAgg217
 z70:=Tryz.sizeOf217
 v70:=Tryz.zeroValue217
 t76:=Tryz.underlying231
 a76:=Tryz.isAgg231
 z76:=Tryz.sizeOf231
 v76:=Tryz.zeroValue231
 t77:=Tryz.underlying232
 a77:=Tryz.isAgg232
 z77:=Tryz.sizeOf232
 v77:=Tryz.zeroValue232}
def Tryz.sortI_ren:Go.Shelf.Ren:=⟨fun|189=>183|125=>140|257=>212|128=>177|129=>178|294=>225|295=>226|296=>227|297=>228|298=>229|299=>230|216=>231|300=>232|301=>233|328=>242|329=>204|330=>205|331=>243|332=>244|215=>141|343=>248|n=>n,fun|28=>31|3=>3|46=>92|0=>0|51=>189|53=>191|4=>4|183=>183|182=>182|131=>50|5=>5|9=>9|218=>213|222=>217|228=>231|229=>232|n=>n,fun|n=>n⟩
theorem Tryz.sortI:Go.Proofs.Lays.n189 Tryz.prog Tryz.sortI_ren:={
 mixed:=by kernel_rfl
 f125:=xlay Tryz.func140
 f128:=xlay Tryz.func177
 f129:=xlay Tryz.func178
 f189:=xlay Tryz.func183
 f215:=xlay Tryz.func141
 f216:=xlay Tryz.func231
 f257:=xlay Tryz.func212
 f294:=xlay Tryz.func225
 f295:=xlay Tryz.func226
 f296:=xlay Tryz.func227
 f297:=xlay Tryz.func228
 f298:=xlay Tryz.func229
 f299:=xlay Tryz.func230
 f300:=xlay Tryz.func232
 f301:=xlay Tryz.func233
 f328:=xlay Tryz.func242
 f329:=xlay Tryz.func204
 f330:=xlay Tryz.func205
 f331:=xlay Tryz.func243
 f332:=xlay Tryz.func244
 f343:=xlay Tryz.func248
 t0:=Tryz.underlying0
 a0:=Tryz.isAgg0
 z0:=Tryz.sizeOf0
 v0:=Tryz.zeroValue0
 t3:=Tryz.underlying3
 a3:=Tryz.isAgg3
 z3:=Tryz.sizeOf3
 v3:=Tryz.zeroValue3
 t4:=Tryz.underlying4
 a4:=Tryz.isAgg4
 z4:=Tryz.sizeOf4
 v4:=Tryz.zeroValue4
 t5:=Tryz.underlying5
 a5:=Tryz.isAgg5
 z5:=Tryz.sizeOf5
 v5:=Tryz.zeroValue5
 t9:=Tryz.underlying9
 a9:=Tryz.isAgg9
 z9:=Tryz.sizeOf9
 v9:=Tryz.zeroValue9
 t28:=Tryz.underlying31
 a28:=Tryz.isAgg31
 z28:=Tryz.sizeOf31
 v28:=Tryz.zeroValue31
 t46:=Tryz.underlying92
 a46:=Tryz.isAgg92
 z46:=Tryz.sizeOf92
 v46:=Tryz.zeroValue92
 t51:=Tryz.underlying189
 a51:=Tryz.isAgg189
 z51:=Tryz.sizeOf189
 v51:=Tryz.zeroValue189
 t53:=Tryz.underlying191
 a53:=Tryz.isAgg191
 z53:=Tryz.sizeOf191
 v53:=Tryz.zeroValue191
 t131:=Tryz.underlying50
 a131:=Tryz.isAgg50
 z131:=Tryz.sizeOf50
 v131:=Tryz.zeroValue50
 t182:=Tryz.underlying182
 a182:=Tryz.isAgg182
 z182:=Tryz.sizeOf182
 v182:=Tryz.zeroValue182
 t183:=Tryz.underlying183
 a183:=Tryz.isAgg183
 z183:=Tryz.sizeOf183
 v183:=Tryz.zeroValue183
 t218:=Tryz.underlying213
 a218:=Tryz.isAgg213
 z218:=Tryz.sizeOf213
 v218:=Tryz.zeroValue213
 t222:=Tryz.underlying217
 a222:=Tryz.isAgg217
 z222:=Tryz.sizeOf217
 v222:=Tryz.zeroValue217
 t228:=Tryz.underlying231
 a228:=Tryz.isAgg231
 z228:=Tryz.sizeOf231
 v228:=Tryz.zeroValue231
 t229:=Tryz.underlying232
 a229:=Tryz.isAgg232
 z229:=Tryz.sizeOf232
 v229:=Tryz.zeroValue232}
end Go.Proofs
namespace Go.X
open U
open Go.Proofs
abbrev rwS:Sh:= .cl (.row 134 tSh .unk)
namespace U
def xj (s:SpD):Bool:=(decide (0<=lo s)&&decide (lo s<=hi s))&&decide (hi s<=300)
def DG (n:Nat) (b:BkD):Bool:=((kX (SI b) 0 ((n:Int)-1)&&decide (0<=qP b))&&decide (qP b<dI b))&&decide (dI b<=1440)
def Lg (nb a:Nat) (s:ShD):Bool:=(((kX (yY s) 0 99&&kX (DR s) 0 9999)&&kX (Ww s) 1 2)&&kX (lm s) 0 ((nb:Int)-1))&&kX (gP s) 0 ((a:Int)-1)
def di (a b:ShD):Int:=yM [cI (yY a) (yY b),cI (DR a) (DR b),cI (Ww a) (Ww b),cI (lm a) (lm b),cI (gP a) (gP b)]
def ww (a b:ShD):Int:=yM [cI (DR a) (DR b),cI (yY a) (yY b)]
def yW (a b:ShD):Bool:=decide (a=b)
def qe (l:List ShD):List ShD:=bu yW (k8 (wa tSh fun x=>(di x.1 x.2.1,())) l)
def nj (m:List (Int×Int)) (s:ShD):List (Int×Int):=fu .int (yY s) (wH 0 (wx .int (yY s) m)+1) m
def yC (m:List (Int×Int)) (l:List ShD) (n:Nat):List (Int×Int):=(l.take n).foldl nj m
def Qd (m:List (Int×Int)) (s:ShD):Bool:=decide (1<wH 0 (wx .int (yY s) (nj m s)))
def tb (m:List (Int×Int)) (l:List ShD) (i:Nat):Bool:=Qd (yC m l i) (nth l i)
def mG (m:List (Int×Int)) (l:List ShD):Int:=yZ (tb m l) (List.range l.length)
def Wx (m:List (Int×Int)) (l:List ShD):Nat:=match(List.range l.length).findIdx? (tb m l) with|some i=>i+1|none=>l.length
def pL (m:List (Int×Int)) (l:List ShD):List (Int×Int):=yC m l (Wx m l)
def jcX (m:List (Int×Int)):Prop:=m=[]
def Wy (m:List (Int×Int)):Prop:=∀k,0<=wH 0 (wx .int k m)/\wH 0 (wx .int k m)<=200000
def S2 (l:List ShD):Bool:=decide (0<=mG [] l)
def uK (d:DyD):Int:=if wo (wj d)=false then 30 else if Ii d=false then 31 else 0
def w5 (d:DyD):Int:=if uK d≠0 then uK d else if qn d=false then 50 else if S2 (qe (w4 d))=true then 51 else 0
end U
def MR:wO:=⟨[.val .int,.val .int,.val .int],[.bool],false,fun _=>[],fun d=>(kX d.1 d.2.1 d.2.2.1,())⟩
def MS:Prop:=∀(d:Int×Int×Int×Unit),(decide (d.2.1<=d.1)&&decide (d.1<=d.2.2.1),())=(kX d.1 d.2.1 d.2.2.1,())
def nx:wO:=⟨[.val (.slice tSp),.fn [tSp] [.bool]],[.int],false,fun d=>[∀g∈d.1,wu (d.2.1.pre (g,()))],fun d=>(yZ (kZ (α:=SpD) d.2.1.F) d.1,())⟩
def ny:Ann:=fun r=>match r with
 |2=>some fun σ=>{X:=Nat,sl:=fun i=>[(8,.dat .int (i:Int))],ob:=fun _=>[],inv:=fun i=>i<=(gd (.slice tSp) σ 0).length/\∀b:Nat,b<i->kZ (gfb tSp σ 1) (nth (gd (.slice tSp) σ 0) b)=false,mu:=fun i=>(gd (.slice tSp) σ 0).length-i}
 |_=>none
def nz:Prop:=∀(d:List (Int×Int×Unit)×FnD [tSp] [Ty.bool]×Unit),(∀(g:Int×Int×Unit),g∈d.1->wu (d.2.1.1 (g,())))->d.1.length<4611686018427387904->(∃(x:Nat),((0=(x:Int)/\True)/\True)/\x<=d.1.length/\∀(b:Nat),b<x->kZ d.2.1.2 (nth d.1 b)=false)/\∀(x:Nat),(x<=d.1.length/\∀(b:Nat),b<x->kZ d.2.1.2 (nth d.1 b)=false)->(decide ((x:Int)<d.1.length)=true->0<=(x:Int)/\(x:Int)<d.1.length/\asks (d.2.1.1 (nth d.1 (x:Int).toNat,())) (((d.2.1.2 (nth d.1 (x:Int).toNat,())).1=true->((x:Int),())=(yZ (kZ d.2.1.2) d.1,()))/\((d.2.1.2 (nth d.1 (x:Int).toNat,())).1=false->wn ((x:Int)+1)/\∃(a:Nat),(((x:Int)+1=(a:Int)/\True)/\True)/\(a<=d.1.length/\∀(b:Nat),b<a->kZ d.2.1.2 (nth d.1 b)=false)/\d.1.length-a<d.1.length-x)))/\(decide ((x:Int)<d.1.length)=false->((-1:Int),())=(yZ (kZ d.2.1.2) d.1,()))
def fX:wO:=⟨[.val (.slice tSp),.fn [tSp] [.bool]],[.bool],false,fun d=>[∀g∈d.1,wu (d.2.1.pre (g,()))],fun d=>(d.1.any (kZ (α:=SpD) d.2.1.F),())⟩
def fY:Prop:=∀(d:List (Int×Int×Unit)×FnD [tSp] [Ty.bool]×Unit),(∀(g:Int×Int×Unit),g∈d.1->wu (d.2.1.1 (g,())))->(∀(g:Int×Int×Unit),g∈d.1->wu (d.2.1.1 (g,())))/\(decide (0<=yZ (kZ d.2.1.2) d.1),())=(d.1.any (kZ d.2.1.2),())
def l3:wO:=⟨[.val (.slice (.slice tSp)),.fn [(.slice tSp)] [.bool]],[.int],false,fun d=>[∀g∈d.1,wu (d.2.1.pre (g,()))],fun d=>(yZ (kZ (α:=(List SpD)) d.2.1.F) d.1,())⟩
def l4:Ann:=fun r=>match r with
 |2=>some fun σ=>{X:=Nat,sl:=fun i=>[(8,.dat .int (i:Int))],ob:=fun _=>[],inv:=fun i=>i<=(gd (.slice (.slice tSp)) σ 0).length/\∀b:Nat,b<i->kZ (gfb (.slice tSp) σ 1) (nth (gd (.slice (.slice tSp)) σ 0) b)=false,mu:=fun i=>(gd (.slice (.slice tSp)) σ 0).length-i}
 |_=>none
def l5:Prop:=∀(d:List (List (Int×Int×Unit))×FnD [tSp.slice] [Ty.bool]×Unit),(∀(g:List (Int×Int×Unit)),g∈d.1->wu (d.2.1.1 (g,())))->d.1.length<4611686018427387904->(∃(x:Nat),((0=(x:Int)/\True)/\True)/\x<=d.1.length/\∀(b:Nat),b<x->kZ d.2.1.2 (nth d.1 b)=false)/\∀(x:Nat),(x<=d.1.length/\∀(b:Nat),b<x->kZ d.2.1.2 (nth d.1 b)=false)->(decide ((x:Int)<d.1.length)=true->0<=(x:Int)/\(x:Int)<d.1.length/\asks (d.2.1.1 (nth d.1 (x:Int).toNat,())) (((d.2.1.2 (nth d.1 (x:Int).toNat,())).1=true->((x:Int),())=(yZ (kZ d.2.1.2) d.1,()))/\((d.2.1.2 (nth d.1 (x:Int).toNat,())).1=false->wn ((x:Int)+1)/\∃(a:Nat),(((x:Int)+1=(a:Int)/\True)/\True)/\(a<=d.1.length/\∀(b:Nat),b<a->kZ d.2.1.2 (nth d.1 b)=false)/\d.1.length-a<d.1.length-x)))/\(decide ((x:Int)<d.1.length)=false->((-1:Int),())=(yZ (kZ d.2.1.2) d.1,()))
def ee:wO:=⟨[.val (.slice (.slice tSp)),.fn [(.slice tSp)] [.bool]],[.bool],false,fun d=>[∀g∈d.1,wu (d.2.1.pre (g,()))],fun d=>(d.1.any (kZ (α:=(List SpD)) d.2.1.F),())⟩
def eg:Prop:=∀(d:List (List (Int×Int×Unit))×FnD [tSp.slice] [Ty.bool]×Unit),(∀(g:List (Int×Int×Unit)),g∈d.1->wu (d.2.1.1 (g,())))->(∀(g:List (Int×Int×Unit)),g∈d.1->wu (d.2.1.1 (g,())))/\(decide (0<=yZ (kZ d.2.1.2) d.1),())=(d.1.any (kZ d.2.1.2),())
def fZ:wO:=⟨[.val (.slice tBk),.fn [tBk] [.bool]],[.int],false,fun d=>[∀g∈d.1,wu (d.2.1.pre (g,()))],fun d=>(yZ (kZ (α:=BkD) d.2.1.F) d.1,())⟩
def f7:Ann:=fun r=>match r with
 |2=>some fun σ=>{X:=Nat,sl:=fun i=>[(8,.dat .int (i:Int))],ob:=fun _=>[],inv:=fun i=>i<=(gd (.slice tBk) σ 0).length/\∀b:Nat,b<i->kZ (gfb tBk σ 1) (nth (gd (.slice tBk) σ 0) b)=false,mu:=fun i=>(gd (.slice tBk) σ 0).length-i}
 |_=>none
def f8:Prop:=∀(d:List BkD×FnD [tBk] [Ty.bool]×Unit),(∀(g:BkD),g∈d.1->wu (d.2.1.1 (g,())))->d.1.length<4611686018427387904->(∃(x:Nat),((0=(x:Int)/\True)/\True)/\x<=d.1.length/\∀(b:Nat),b<x->kZ d.2.1.2 (nth d.1 b)=false)/\∀(x:Nat),(x<=d.1.length/\∀(b:Nat),b<x->kZ d.2.1.2 (nth d.1 b)=false)->(decide ((x:Int)<d.1.length)=true->0<=(x:Int)/\(x:Int)<d.1.length/\asks (d.2.1.1 (nth d.1 (x:Int).toNat,())) (((d.2.1.2 (nth d.1 (x:Int).toNat,())).1=true->((x:Int),())=(yZ (kZ d.2.1.2) d.1,()))/\((d.2.1.2 (nth d.1 (x:Int).toNat,())).1=false->wn ((x:Int)+1)/\∃(a:Nat),(((x:Int)+1=(a:Int)/\True)/\True)/\(a<=d.1.length/\∀(b:Nat),b<a->kZ d.2.1.2 (nth d.1 b)=false)/\d.1.length-a<d.1.length-x)))/\(decide ((x:Int)<d.1.length)=false->((-1:Int),())=(yZ (kZ d.2.1.2) d.1,()))
def cC:wO:=⟨[.val (.slice tBk),.fn [tBk] [.bool]],[.bool],false,fun d=>[∀g∈d.1,wu (d.2.1.pre (g,()))],fun d=>(d.1.any (kZ (α:=BkD) d.2.1.F),())⟩
def cD:Prop:=∀(d:List BkD×FnD [tBk] [Ty.bool]×Unit),(∀(g:BkD),g∈d.1->wu (d.2.1.1 (g,())))->(∀(g:BkD),g∈d.1->wu (d.2.1.1 (g,())))/\(decide (0<=yZ (kZ d.2.1.2) d.1),())=(d.1.any (kZ d.2.1.2),())
def l6:wO:=⟨[.val (.slice tSh),.fn [tSh] [.bool]],[.int],false,fun d=>[∀g∈d.1,wu (d.2.1.pre (g,()))],fun d=>(yZ (kZ (α:=ShD) d.2.1.F) d.1,())⟩
def l7:Ann:=fun r=>match r with
 |2=>some fun σ=>{X:=Nat,sl:=fun i=>[(8,.dat .int (i:Int))],ob:=fun _=>[],inv:=fun i=>i<=(gd (.slice tSh) σ 0).length/\∀b:Nat,b<i->kZ (gfb tSh σ 1) (nth (gd (.slice tSh) σ 0) b)=false,mu:=fun i=>(gd (.slice tSh) σ 0).length-i}
 |_=>none
def l8:Prop:=∀(d:List ShD×FnD [tSh] [Ty.bool]×Unit),(∀(g:ShD),g∈d.1->wu (d.2.1.1 (g,())))->d.1.length<4611686018427387904->(∃(x:Nat),((0=(x:Int)/\True)/\True)/\x<=d.1.length/\∀(b:Nat),b<x->kZ d.2.1.2 (nth d.1 b)=false)/\∀(x:Nat),(x<=d.1.length/\∀(b:Nat),b<x->kZ d.2.1.2 (nth d.1 b)=false)->(decide ((x:Int)<d.1.length)=true->0<=(x:Int)/\(x:Int)<d.1.length/\asks (d.2.1.1 (nth d.1 (x:Int).toNat,())) (((d.2.1.2 (nth d.1 (x:Int).toNat,())).1=true->((x:Int),())=(yZ (kZ d.2.1.2) d.1,()))/\((d.2.1.2 (nth d.1 (x:Int).toNat,())).1=false->wn ((x:Int)+1)/\∃(a:Nat),(((x:Int)+1=(a:Int)/\True)/\True)/\(a<=d.1.length/\∀(b:Nat),b<a->kZ d.2.1.2 (nth d.1 b)=false)/\d.1.length-a<d.1.length-x)))/\(decide ((x:Int)<d.1.length)=false->((-1:Int),())=(yZ (kZ d.2.1.2) d.1,()))
def ei:wO:=⟨[.val (.slice tSh),.fn [tSh] [.bool]],[.bool],false,fun d=>[∀g∈d.1,wu (d.2.1.pre (g,()))],fun d=>(d.1.any (kZ (α:=ShD) d.2.1.F),())⟩
def ew:Prop:=∀(d:List ShD×FnD [tSh] [Ty.bool]×Unit),(∀(g:ShD),g∈d.1->wu (d.2.1.1 (g,())))->(∀(g:ShD),g∈d.1->wu (d.2.1.1 (g,())))/\(decide (0<=yZ (kZ d.2.1.2) d.1),())=(d.1.any (kZ d.2.1.2),())
def tT:wO:=⟨[.val tSp,.rfn [tSp] [.bool]],[.bool],false,fun d=>[wu (d.2.1.pre (d.1,()))],fun d=>(!(kZ (α:=SpD) d.2.1.F d.1),())⟩
def tU:Prop:=∀(d:(Int×Int×Unit)×FnD [tSp] [Ty.bool]×Unit),wu (d.2.1.1 (d.1,()))->asks (d.2.1.1 (d.1,())) ((!(d.2.1.2 (d.1,())).1,())=(!kZ d.2.1.2 d.1,()))
def CD:wO:=⟨[.val (.slice tSp),.fn [tSp] [.bool]],[.bool],false,fun d=>[∀g∈d.1,wu (d.2.1.pre (g,()))],fun d=>(d.1.all (kZ (α:=SpD) d.2.1.F),())⟩
def CE:Prop:=∀(d:List (Int×Int×Unit)×FnD [tSp] [Ty.bool]×Unit),(∀(g:Int×Int×Unit),g∈d.1->wu (d.2.1.1 (g,())))->(∀(g:Int×Int×Unit),g∈d.1->wu [wu (d.2.1.1 (g,()))])/\(!d.1.any (kZ fun(a:(Int×Int×Unit)×Unit)=>(!kZ d.2.1.2 a.1,())),())=(d.1.all (kZ d.2.1.2),())
def sg:wO:=⟨[.val (.slice tSp),.rfn [(.slice tSp)] [.bool]],[.bool],false,fun d=>[wu (d.2.1.pre (d.1,()))],fun d=>(!(kZ (α:=(List SpD)) d.2.1.F d.1),())⟩
def si:Prop:=∀(d:List (Int×Int×Unit)×FnD [tSp.slice] [Ty.bool]×Unit),wu (d.2.1.1 (d.1,()))->asks (d.2.1.1 (d.1,())) ((!(d.2.1.2 (d.1,())).1,())=(!kZ d.2.1.2 d.1,()))
def xJ:wO:=⟨[.val (.slice (.slice tSp)),.fn [(.slice tSp)] [.bool]],[.bool],false,fun d=>[∀g∈d.1,wu (d.2.1.pre (g,()))],fun d=>(d.1.all (kZ (α:=(List SpD)) d.2.1.F),())⟩
def xK:Prop:=∀(d:List (List (Int×Int×Unit))×FnD [tSp.slice] [Ty.bool]×Unit),(∀(g:List (Int×Int×Unit)),g∈d.1->wu (d.2.1.1 (g,())))->(∀(g:List (Int×Int×Unit)),g∈d.1->wu [wu (d.2.1.1 (g,()))])/\(!d.1.any (kZ fun(a:List (Int×Int×Unit)×Unit)=>(!kZ d.2.1.2 a.1,())),())=(d.1.all (kZ d.2.1.2),())
def nA:wO:=⟨[.val tBk,.rfn [tBk] [.bool]],[.bool],false,fun d=>[wu (d.2.1.pre (d.1,()))],fun d=>(!(kZ (α:=BkD) d.2.1.F d.1),())⟩
def nB:Prop:=∀(d:BkD×FnD [tBk] [Ty.bool]×Unit),wu (d.2.1.1 (d.1,()))->asks (d.2.1.1 (d.1,())) ((!(d.2.1.2 (d.1,())).1,())=(!kZ d.2.1.2 d.1,()))
def sj:wO:=⟨[.val (.slice tBk),.fn [tBk] [.bool]],[.bool],false,fun d=>[∀g∈d.1,wu (d.2.1.pre (g,()))],fun d=>(d.1.all (kZ (α:=BkD) d.2.1.F),())⟩
def sk:Prop:=∀(d:List BkD×FnD [tBk] [Ty.bool]×Unit),(∀(g:BkD),g∈d.1->wu (d.2.1.1 (g,())))->(∀(g:BkD),g∈d.1->wu [wu (d.2.1.1 (g,()))])/\(!d.1.any (kZ fun(a:BkD×Unit)=>(!kZ d.2.1.2 a.1,())),())=(d.1.all (kZ d.2.1.2),())
def sm:wO:=⟨[.val tSh,.rfn [tSh] [.bool]],[.bool],false,fun d=>[wu (d.2.1.pre (d.1,()))],fun d=>(!(kZ (α:=ShD) d.2.1.F d.1),())⟩
def sn:Prop:=∀(d:ShD×FnD [tSh] [Ty.bool]×Unit),wu (d.2.1.1 (d.1,()))->asks (d.2.1.1 (d.1,())) ((!(d.2.1.2 (d.1,())).1,())=(!kZ d.2.1.2 d.1,()))
def xL:wO:=⟨[.val (.slice tSh),.fn [tSh] [.bool]],[.bool],false,fun d=>[∀g∈d.1,wu (d.2.1.pre (g,()))],fun d=>(d.1.all (kZ (α:=ShD) d.2.1.F),())⟩
def xM:Prop:=∀(d:List ShD×FnD [tSh] [Ty.bool]×Unit),(∀(g:ShD),g∈d.1->wu (d.2.1.1 (g,())))->(∀(g:ShD),g∈d.1->wu [wu (d.2.1.1 (g,()))])/\(!d.1.any (kZ fun(a:ShD×Unit)=>(!kZ d.2.1.2 a.1,())),())=(d.1.all (kZ d.2.1.2),())
def JK:wO:=⟨[.val tSp],[.bool],false,fun _=>[],fun d=>(xj d.1,())⟩
def JL:Prop:=∀(d:(Int×Int×Unit)×Unit),(decide (0<=d.1.1)&&decide (d.1.1<=d.1.2.1)&&decide (d.1.2.1<=300),())=(xj d.1,())
def JM:wO:=⟨[.val (.slice tSp),.ref tDy,.rfn [tSp] [.bool]],[.bool],false,fun d=>[∀g∈d.1,wu (d.2.2.1.pre (g,()))],fun d=>(decide ((d.1.length:Int)=(wY d.2.1).length)&&d.1.all (kZ (α:=SpD) d.2.2.1.F),())⟩
def JN:Prop:=∀(d:List (Int×Int×Unit)×DyD×FnD [tSp] [Ty.bool]×Unit),(∀(g:Int×Int×Unit),g∈d.1->wu (d.2.2.1.1 (g,())))->d.1.length<4611686018427387904->d.2.1.2.1.length<4611686018427387904->(decide ((d.1.length:Int)=d.2.1.2.1.length)=true->∀(g:Int×Int×Unit),g∈d.1->wu (d.2.2.1.1 (g,())))/\(decide ((d.1.length:Int)=d.2.1.2.1.length)&&d.1.all (kZ d.2.2.1.2),())=(decide ((d.1.length:Int)=(wY d.2.1).length)&&d.1.all (kZ d.2.2.1.2),())
def JO:wO:=⟨[.val tBk,.ref tDy],[.bool],false,fun _=>[],fun d=>(DG (wY d.2.1).length d.1,())⟩
def JP:Prop:=∀(d:BkD×DyD×Unit),d.2.1.2.1.length<4611686018427387904->wn ((d.2.1.2.1.length:Int)-1)/\(kX d.1.2.1 (0:Int) ((d.2.1.2.1.length:Int)-1)&&decide (0<=d.1.2.2.1)&&decide (d.1.2.2.1<d.1.2.2.2.1)&&decide (d.1.2.2.2.1<=1440),())=(DG (wY d.2.1).length d.1,())
def JQ:wO:=⟨[.val tSh,.ref tDy],[.bool],false,fun _=>[],fun d=>(Lg (wm d.2.1).length (wd (wj d.2.1)).length d.1,())⟩
abbrev jid (d:ShD×DyD×Unit):=(kX d.1.1 (0:Int) (99:Int)&&kX d.1.2.1 (0:Int) (9999:Int)&&kX d.1.2.2.1 (1:Int) (2:Int)&&kX d.1.2.2.2.1 (0:Int) ((d.2.1.2.2.1.length:Int)-1))
abbrev jie (d:ShD×DyD×Unit):=(kX d.1.1 (0:Int) (99:Int)&&kX d.1.2.1 (0:Int) (9999:Int)&&kX d.1.2.2.1 (1:Int) (2:Int))
def JR:Prop:=∀(d:ShD×DyD×Unit),((jie d)=true->d.2.1.2.2.1.length<4611686018427387904)->((jie d)=true->wn ((d.2.1.2.2.1.length:Int)-1))/\(((jid d)=true->d.2.1.1.2.1.length<4611686018427387904)->((jid d)=true->wn ((d.2.1.1.2.1.length:Int)-1))/\(kX d.1.1 (0:Int) (99:Int)&&kX d.1.2.1 (0:Int) (9999:Int)&&kX d.1.2.2.1 (1:Int) (2:Int)&&kX d.1.2.2.2.1 (0:Int) ((d.2.1.2.2.1.length:Int)-1)&&kX d.1.q4.1 (0:Int) ((d.2.1.1.2.1.length:Int)-1),())=(Lg (wm d.2.1).length (wd (wj d.2.1)).length d.1,()))
def Rc:wO:=⟨[.val tDy],[.bool],false,fun _=>[],fun d=>(qn d.1,())⟩
abbrev jhB (d:DyD×Unit):=(kZ fun(a:BkD×Unit)=>(DG (wY d.1).length a.1,()))
abbrev jf5 (d:DyD×Unit):=((d.1.2.2.1.length:Int)<=4)
abbrev jg2 (d:DyD×Unit):=(↑(wY d.1).length:Int)
abbrev jgs (d:DyD×Unit):=(d.1.2.1.length:Int)
def Re:Prop:=∀(d:DyD×Unit),d.1.2.2.1.length<4611686018427387904->(decide (jf5 d)=true->d.1.2.1.length<4611686018427387904)->((decide (jf5 d)&&kX (jgs d) (1:Int) (5:Int))=true->∀(g:List (Int×Int×Unit)),g∈d.1.2.1->wu [∀(b:Int×Int×Unit),b∈g->wu []])/\((decide (jf5 d)&&kX (jgs d) (1:Int) (5:Int)&&d.1.2.1.all (kZ fun(a:List (Int×Int×Unit)×Unit)=>(decide ((a.1.length:Int)=(jg2 d))&&a.1.all (kZ fun(c:(Int×Int×Unit)×Unit)=>(xj c.1,())),())))=true->∀(e:BkD),e∈d.1.2.2.1->wu [])/\(((decide (jf5 d)&&kX (jgs d) (1:Int) (5:Int)&&d.1.2.1.all (kZ fun(a:List (Int×Int×Unit)×Unit)=>(decide ((a.1.length:Int)=(jg2 d))&&a.1.all (kZ fun(f:(Int×Int×Unit)×Unit)=>(xj f.1,())),()))&&d.1.2.2.1.all (jhB d)&&kX d.1.2.2.2.1 (0:Int) (300:Int)&&kX d.1.q4.1 (0:Int) (1440:Int))=true->d.1.q4.2.1.length<4611686018427387904)->((decide (jf5 d)&&kX (jgs d) (1:Int) (5:Int)&&d.1.2.1.all (kZ fun(a:List (Int×Int×Unit)×Unit)=>(decide ((a.1.length:Int)=(jg2 d))&&a.1.all (kZ fun(h:(Int×Int×Unit)×Unit)=>(xj h.1,())),()))&&d.1.2.2.1.all (jhB d)&&kX d.1.2.2.2.1 (0:Int) (300:Int)&&kX d.1.q4.1 (0:Int) (1440:Int)&&decide ((d.1.q4.2.1.length:Int)<=30))=true->∀(i:ShD),i∈d.1.q4.2.1->wu [])/\(decide (jf5 d)&&kX (jgs d) (1:Int) (5:Int)&&d.1.2.1.all (kZ fun(a:List (Int×Int×Unit)×Unit)=>(decide ((a.1.length:Int)=(jg2 d))&&a.1.all (kZ fun(u5:(Int×Int×Unit)×Unit)=>(xj u5.1,())),()))&&d.1.2.2.1.all (jhB d)&&kX d.1.2.2.2.1 (0:Int) (300:Int)&&kX d.1.q4.1 (0:Int) (1440:Int)&&decide ((d.1.q4.2.1.length:Int)<=30)&&d.1.q4.2.1.all (kZ fun(j:ShD×Unit)=>(Lg (wm d.1).length (wd (wj d.1)).length j.1,())),())=(qn d.1,()))
def xN:wO:=⟨[.val .int],[.bool],false,fun _=>[],fun _=>(false,())⟩
def xO:Prop:=∀(d:Int×Unit),(decide (d.1≠d.1),())=(false,())
def so:wO:=⟨[.val .int,.val .int],[.int],false,fun _=>[],fun d=>(cI d.1 d.2.1,())⟩
abbrev jf6 (d:Int×Int×Unit):=(cI d.1 d.2.1,())
def sq:Prop:=∀(d:Int×Int×Unit),(false=true->(false=true->((0:Int),())=(jf6 d))/\(qF->((-1:Int),())=(jf6 d)))/\(qF->(false=true->((1:Int),())=(jf6 d))/\(qF->(decide (d.1<d.2.1)=true->((-1:Int),())=(jf6 d))/\(decide (d.1<d.2.1)=false->(decide (d.2.1<d.1)=true->((1:Int),())=(jf6 d))/\(decide (d.2.1<d.1)=false->((0:Int),())=(jf6 d)))))
def Hl:wO:=⟨[.val (.slice .int)],[.int],false,fun _=>[],fun d=>(yM d.1,())⟩
def Hm:Ann:=fun r=>match r with
 |3=>some fun σ=>{X:=Nat,sl:=fun i=>[(8,.dat .int (i:Int))],ob:=fun _=>[],inv:=fun i=>i<=(gd (.slice .int) σ 0).length/\∀b:Nat,b<i->nth (gd (.slice .int) σ 0) b=0,mu:=fun i=>(gd (.slice .int) σ 0).length-i}
 |_=>none
def Hn:Prop:=∀(d:List Int×Unit),d.1.length<4611686018427387904->(∃(x:Nat),((0=(x:Int)/\True)/\True)/\x<=d.1.length/\∀(b:Nat),b<x->nth d.1 b=0)/\∀(x:Nat),(x<=d.1.length/\∀(b:Nat),b<x->nth d.1 b=0)->(decide ((x:Int)<d.1.length)=true->0<=(x:Int)/\(x:Int)<d.1.length/\(decide (nth d.1 (x:Int).toNat≠0)=true->(nth d.1 (x:Int).toNat,())=(yM d.1,()))/\(decide (nth d.1 (x:Int).toNat≠0)=false->wn ((x:Int)+1)/\∃(a:Nat),(((x:Int)+1=(a:Int)/\True)/\True)/\(a<=d.1.length/\∀(b:Nat),b<a->nth d.1 b=0)/\d.1.length-a<d.1.length-x))/\(decide ((x:Int)<d.1.length)=false->((0:Int),())=(yM d.1,()))
def CF:wO:=⟨[.val tSh,.val tSh],[.int],false,fun _=>[],fun d=>(di d.1 d.2.1,())⟩
def CG:Prop:=∀(d:ShD×ShD×Unit),(yM [cI d.1.1 d.2.1.1,cI d.1.2.1 d.2.1.2.1,cI d.1.2.2.1 d.2.1.2.2.1,cI d.1.2.2.2.1 d.2.1.2.2.2.1,cI d.1.q4.1 d.2.1.q4.1],())=(di d.1 d.2.1,())
def MT:wO:=⟨[.val tSh,.val tSh],[.int],false,fun _=>[],fun d=>(ww d.1 d.2.1,())⟩
def MU:Prop:=∀(d:ShD×ShD×Unit),(yM [cI d.1.2.1 d.2.1.2.1,cI d.1.1 d.2.1.1],())=(ww d.1 d.2.1,())
def tV:qS:=⟨[.val (.slice tSh)],[rwS],fun d=>[d.1.length<=100000],fun d=>((d.1,()),())⟩
def tW:Prop:=∀(d:List ShD×Unit),d.1.length<=100000->∀(β:Bool),(β=true->d.1=[])->(β=true->([],())=d/\()=())/\(β=false->(0+d.1.length)*40<=140737488355328/\([]++d.1,())=d/\()=())
def pm:qS:=⟨[.own rwS false],[rwS],fun d=>[d.1.length<=100000],fun d=>((bu yW d.1,()),())⟩
def pn:Ann:=fun r=>match r with
 |4=>some fun σ=>{X:=Nat,sl:=fun i=>[(3,.dat .int (i:Int))],ob:=fun _=>[],inv:=fun i=>jbu yW (gr tSh σ 1000000) i,mu:=fun i=>(gr tSh σ 1000000).length-i}
 |9=>some fun σ=>{X:=Nat×List ShD,sl:=fun x=>[(5,.dat .int (x.1:Int)),(3,.dat .int (oi yW (gr tSh σ 1000000) ((gd .int σ 3).toNat+x.1)))],ob:=fun x=>[(1000000,some (.row 134 tSh false .unk x.2))],inv:=fun x=>OL yW (gr tSh σ 1000000) (gd .int σ 3).toNat x.1 x.2,mu:=fun x=>(gr tSh σ 1000000).length-x.1}
 |_=>none
abbrev jeL (x:Nat)(a:Nat×List ShD):=((x:Int).toNat+a.1)
abbrev jif (d:List ShD×Unit)(x:Nat)(a:Nat×List ShD):=(List.take (oi yW d.1 (jeL x a)).toNat a.2++List.replicate ((a.2.length:Int).toNat-(oi yW d.1 (jeL x a)).toNat) ((0:Int),(0:Int),(0:Int),(0:Int),(0:Int),()))
abbrev jig (a:Nat×List ShD)(x:Nat):=(!decide (nth a.2 ((x:Int).toNat+(a.1:Int).toNat)=nth a.2 ((x:Int).toNat+((a.1:Int)-1).toNat)))
abbrev je3 (d:List ShD×Unit):=(d.1.length:Int)
abbrev jgt (d:List ShD×Unit)(x:Nat):=(↑((je3 d).toNat-(x:Int).toNat):Int)
def po:Prop:=∀(d:List ShD×Unit),d.1.length<=100000->d.1.length<4611686018427387904->(decide ((je3 d)<2)=true->d=(bu yW d.1,())/\()=())/\(decide ((je3 d)<2)=false->(∃(x:Nat),((1=(x:Int)/\True)/\True)/\jbu yW d.1 x)/\∀(x:Nat),jbu yW d.1 x->d.1.length<4611686018427387904->(decide ((x:Int)<(je3 d))=true->0<=(x:Int)/\(x:Int)<(je3 d)/\wn ((x:Int)-1)/\0<=(x:Int)-1/\(x:Int)-1<(je3 d)/\(decide (nth d.1 (x:Int).toNat=nth d.1 ((x:Int)-1).toNat)=true->0<=(x:Int)/\(x:Int)<=(je3 d)/\(je3 d)<=(je3 d)/\(∃(a:Nat×List ShD),((1=(a.1:Int)/\(x:Int)=oi yW d.1 (jeL x a)/\True)/\d.1=a.2/\True)/\OL yW d.1 (x:Int).toNat a.1 a.2)/\∀(a:Nat×List ShD),OL yW d.1 (x:Int).toNat a.1 a.2->(je3 d).toNat-(x:Int).toNat<4611686018427387904->(decide ((a.1:Int)<(jgt d x))=true->0<=(a.1:Int)/\(a.1:Int)<(jgt d x)/\wn ((a.1:Int)-1)/\0<=(a.1:Int)-1/\(a.1:Int)-1<(jgt d x)/\((jig a x)=true->0<=(a.1:Int)/\(a.1:Int)<(jgt d x)/\0<=oi yW d.1 (jeL x a)/\oi yW d.1 (jeL x a)<(a.2.length:Int)/\wn (oi yW d.1 (jeL x a)+1)/\wn ((a.1:Int)+1)/\∃(b:Nat×List ShD),(((a.1:Int)+1=(b.1:Int)/\oi yW d.1 (jeL x a)+1=oi yW d.1 ((x:Int).toNat+b.1)/\True)/\a.2.set (oi yW d.1 (jeL x a)).toNat (nth a.2 ((x:Int).toNat+(a.1:Int).toNat))=b.2/\True)/\OL yW d.1 (x:Int).toNat b.1 b.2/\d.1.length-b.1<d.1.length-a.1)/\((jig a x)=false->wn ((a.1:Int)+1)/\∃(b:Nat×List ShD),((oi yW d.1 (jeL x a)=oi yW d.1 ((x:Int).toNat+b.1)/\(a.1:Int)+1=(b.1:Int)/\True)/\a.2=b.2/\True)/\OL yW d.1 (x:Int).toNat b.1 b.2/\d.1.length-b.1<d.1.length-a.1))/\(decide ((a.1:Int)<(jgt d x))=false->0<=oi yW d.1 (jeL x a)/\oi yW d.1 (jeL x a)<=(a.2.length:Int)/\(a.2.length:Int)<=a.2.length/\(oi yW d.1 (jeL x a)).toNat+((a.2.length:Int).toNat-(oi yW d.1 (jeL x a)).toNat)=a.2.length/\(0:Int)<=0/\0<=oi yW d.1 (jeL x a)/\oi yW d.1 (jeL x a)<=(↑(jif d x a).length:Int)/\(List.take ((oi yW d.1 (jeL x a)).toNat-Int.toNat 0) (jif d x a),())=(bu yW d.1,())/\()=()))/\(decide (nth d.1 (x:Int).toNat=nth d.1 ((x:Int)-1).toNat)=false->wn ((x:Int)+1)/\∃(c:Nat),(((x:Int)+1=(c:Int)/\True)/\True)/\jbu yW d.1 c/\d.1.length-c<d.1.length-x))/\(decide ((x:Int)<(je3 d))=false->d=(bu yW d.1,())/\()=()))
abbrev nC:qS:=Uq tSh 134
def Ho:qS:=⟨[.val (.slice tSh)],[rwS],fun d=>[d.1.length<=100000],fun d=>((qe d.1,()),())⟩
abbrev jhC:=(wa (Ty.int.pair (Ty.int.pair (Ty.int.pair (Ty.int.pair (Ty.int.pair Ty.unit))))) fun(a:ShD×ShD×Unit)=>(di a.1 a.2.1,()))
def Hp:Prop:=∀(d:List ShD×Unit),d.1.length<=100000->d.1.length<=100000/\(∀(x:ShD),x∈d.1->∀(y:ShD),y∈d.1->wu [])/\vN jhC d.1/\(k8 jhC d.1).length<=100000/\(bu yW (k8 jhC d.1),())=(qe d.1,())/\()=()
def JS:qS:=⟨[.val tSh,.own (.box 157 [.map .int .int]) true],[.cl (.dat .bool)],fun d=>[Wy d.2.1.1],fun d=>((Qd d.2.1.1 d.1,()),((nj d.2.1.1 d.1,()),()))⟩
abbrev jhD (d:ShD×(List (Int×Int)×Unit)×Unit):=(wH (0:Int) (wx Ty.int d.1.1 d.2.1.1)+1)
def JT:Prop:=∀(d:ShD×(List (Int×Int)×Unit)×Unit),Wy d.2.1.1->wn (jhD d)/\(decide (1<wH (0:Int) (wx Ty.int d.1.1 (fu Ty.int d.1.1 (jhD d) d.2.1.1))),())=(Qd d.2.1.1 d.1,())/\((fu Ty.int d.1.1 (jhD d) d.2.1.1,()),())=((nj d.2.1.1 d.1,()),())
abbrev clV:Sh:= .fbox 126 157 [.map .int .int]
def ez:qS:=⟨[.val (.slice tSh),.own clV true],[.cl (.dat .int)],fun d=>[d.1.length<=100000,jcX d.2.1.1],fun d=>((mG d.2.1.1 d.1,()),((pL d.2.1.1 d.1,()),()))⟩
def eA:Ann:=fun r=>match r with
 |2=>some fun σ=>{X:=Nat,sl:=fun i=>[(8,.dat .int (i:Int))],ob:=fun i=>[(400020,some (.map false .int .int (yC [] (gd (.slice tSh) σ 0) i)))],inv:=fun i=>i<=(gd (.slice tSh) σ 0).length/\∀b:Nat,b<i->tb [] (gd (.slice tSh) σ 0) b=false,mu:=fun i=>(gd (.slice tSh) σ 0).length-i}
 |_=>none
def eB:Prop:=∀(d:List ShD×(List (Int×Int)×Unit)×Unit),d.1.length<=100000->jcX d.2.1.1->d.1.length<4611686018427387904->(∃(x:Nat),((0=(x:Int)/\True)/\d.2.1.1=yC [] d.1 x/\True)/\x<=d.1.length/\∀(b:Nat),b<x->tb [] d.1 b=false)/\∀(x:Nat),(x<=d.1.length/\∀(b:Nat),b<x->tb [] d.1 b=false)->(decide ((x:Int)<d.1.length)=true->0<=(x:Int)/\(x:Int)<d.1.length/\Wy (yC [] d.1 x)/\(Qd (yC [] d.1 x) (nth d.1 (x:Int).toNat)=true->((x:Int),())=(mG d.2.1.1 d.1,())/\((nj (yC [] d.1 x) (nth d.1 (x:Int).toNat),()),())=((pL d.2.1.1 d.1,()),()))/\(Qd (yC [] d.1 x) (nth d.1 (x:Int).toNat)=false->wn ((x:Int)+1)/\∃(a:Nat),(((x:Int)+1=(a:Int)/\True)/\(True/\True)/\nj (yC [] d.1 x) (nth d.1 (x:Int).toNat)=yC [] d.1 a/\True)/\(a<=d.1.length/\∀(b:Nat),b<a->tb [] d.1 b=false)/\d.1.length-a<d.1.length-x))/\(decide ((x:Int)<d.1.length)=false->((-1:Int),())=(mG d.2.1.1 d.1,())/\((yC [] d.1 x,()),())=((pL d.2.1.1 d.1,()),()))
def cf:qS:=⟨[.val (.slice tSh),.own clV true],[.cl (.dat .bool)],fun d=>[d.1.length<=100000,jcX d.2.1.1],fun d=>((decide (0<=mG d.2.1.1 d.1),()),((pL d.2.1.1 d.1,()),()))⟩
def cg:Prop:=∀(d:List ShD×(List (Int×Int)×Unit)×Unit),d.1.length<=100000->jcX d.2.1.1->d.1.length<=100000/\jcX d.2.1.1/\(decide (0<=mG d.2.1.1 d.1),())=(decide (0<=mG d.2.1.1 d.1),())/\((pL d.2.1.1 d.1,()),())=((pL d.2.1.1 d.1,()),())
def Rf:wO:=⟨[.val (.slice tSh)],[.bool],false,fun d=>[d.1.length<=100000],fun d=>(S2 d.1,())⟩
def Rg:Prop:=∀(d:List ShD×Unit),d.1.length<=100000->d.1.length<=100000/\jcX []/\(decide (0<=mG [] d.1),())=(S2 d.1,())
def Ee:wO:=⟨[.val tDy],[.int],false,fun _=>[],fun d=>(uK d.1,())⟩
def Ef:Ann:=fun r=>match r with
 |5=>some fun σ=>{X:=Nat,sl:=fun i=>[(17,.dat .int (i:Int))],ob:=fun _=>[],inv:=fun i=>i<=(gd (.slice tBk) σ 15).length/\∀b:Nat,b<i->wZ (wj (gd tDy σ 0)) (gN (nth (gd (.slice tBk) σ 15) b))=true,mu:=fun i=>(gd (.slice tBk) σ 15).length-i}
 |_=>none
abbrev jhE:=((0:Int),(1:Int),(0:Int),(0:Int),(0:Int),(1:Int),())
def Eg:Prop:=∀(d:DyD×Unit),(decide (vl d.1.1 jhE≠0)=true->(vl d.1.1 jhE,())=(uK d.1,()))/\(decide (vl d.1.1 jhE≠0)=false->d.1.2.2.1.length<4611686018427387904->(∃(x:Nat),((0=(x:Int)/\True)/\True)/\x<=d.1.2.2.1.length/\∀(b:Nat),b<x->wZ (wj d.1) (gN (nth d.1.2.2.1 b))=true)/\∀(x:Nat),(x<=d.1.2.2.1.length/\∀(b:Nat),b<x->wZ (wj d.1) (gN (nth d.1.2.2.1 b))=true)->(decide ((x:Int)<d.1.2.2.1.length)=true->0<=(x:Int)/\(x:Int)<d.1.2.2.1.length/\(decide (vl d.1.1 (nth d.1.2.2.1 (x:Int).toNat).1≠0)=true->(vl d.1.1 (nth d.1.2.2.1 (x:Int).toNat).1,())=(uK d.1,()))/\(decide (vl d.1.1 (nth d.1.2.2.1 (x:Int).toNat).1≠0)=false->wn ((x:Int)+1)/\∃(a:Nat),(((x:Int)+1=(a:Int)/\True)/\True)/\(a<=d.1.2.2.1.length/\∀(b:Nat),b<a->wZ (wj d.1) (gN (nth d.1.2.2.1 b))=true)/\d.1.2.2.1.length-a<d.1.2.2.1.length-x))/\(decide ((x:Int)<d.1.2.2.1.length)=false->((0:Int),())=(uK d.1,())))
def Rh:wO:=⟨[.val tDy],[.int],false,fun d=>[(w4 d.1).length<=100000],fun d=>(w5 d.1,())⟩
def Ri:Prop:=∀(d:DyD×Unit),(w4 d.1).length<=100000->(decide (uK d.1≠0)=true->(uK d.1,())=(w5 d.1,()))/\(decide (uK d.1≠0)=false->((!qn d.1)=true->((50:Int),())=(w5 d.1,()))/\((!qn d.1)=false->d.1.q4.2.1.length<=100000/\(qe d.1.q4.2.1).length<=100000/\(S2 (qe d.1.q4.2.1)=true->((51:Int),())=(w5 d.1,()))/\(S2 (qe d.1.q4.2.1)=false->((0:Int),())=(w5 d.1,()))))
theorem Rj:MS:=by
 intro d;rfl
theorem pq:wX PR 120 MR:=wJ Rj Tryz.func120 kcN koN
theorem pu:nz:=by
 rintro⟨l,f,⟨⟩⟩ a g;refine⟨⟨0,⟨⟨rfl,tZ⟩,tZ⟩,jp _,fun b c=>by omega⟩,fun i hi=>⟨fun h=> ?_,fun h=> ?_⟩⟩;have h:i<l.length:=(by simpa using h);simp only[jw] at*;refine⟨by omega,by omega,vI _ (a _ (L.we h)) ⟨fun c=> ?_,fun c=>⟨iZ6,i+1,⟨⟨by simp,tZ⟩,tZ⟩,⟨by omega,fun b d=> ?_⟩,by omega⟩⟩⟩;rw[yE (p:=kZ (α:=SpD) f.F) h hi.2 c];by_cases e:b=i;subst e;exact c;exact hi.2 b (by omega);have h:l.length<=i:=(by simpa using h);rw[vn (p:=kZ (α:=SpD) f.F) h hi.2]
theorem nD:wX PR 192 nx:=vF ny pu Tryz.func192 kcN koN
theorem i8:fY:=by
 rintro⟨l,f,⟨⟩⟩ a;refine⟨a,?_⟩;exact jF (·,()) (fV (kZ (α:=SpD) f.F) l)
theorem f9:wX PR 160 fX:=wJ i8 Tryz.func160 (kcC nD kcN) koN
theorem nE:l5:=by
 rintro⟨l,f,⟨⟩⟩ a g;refine⟨⟨0,⟨⟨rfl,tZ⟩,tZ⟩,jp _,fun b c=>by omega⟩,fun i hi=>⟨fun h=> ?_,fun h=> ?_⟩⟩;have h:i<l.length:=(by simpa using h);simp only[jw] at*;refine⟨by omega,by omega,vI _ (a _ (L.we h)) ⟨fun c=> ?_,fun c=>⟨iZ6,i+1,⟨⟨by simp,tZ⟩,tZ⟩,⟨by omega,fun b d=> ?_⟩,by omega⟩⟩⟩;rw[yE (p:=kZ (α:=(List SpD)) f.F) h hi.2 c];by_cases e:b=i;subst e;exact c;exact hi.2 b (by omega);have h:l.length<=i:=(by simpa using h);rw[vn (p:=kZ (α:=(List SpD)) f.F) h hi.2]
theorem l9:wX PR 193 l3:=vF l4 nE Tryz.func193 kcN koN
theorem ic:eg:=by
 rintro⟨l,f,⟨⟩⟩ a;refine⟨a,?_⟩;exact jF (·,()) (fV (kZ (α:=(List SpD)) f.F) l)
theorem eC:wX PR 162 ee:=wJ ic Tryz.func162 (kcC l9 kcN) koN
theorem i9:f8:=by
 rintro⟨l,f,⟨⟩⟩ a g;refine⟨⟨0,⟨⟨rfl,tZ⟩,tZ⟩,jp _,fun b c=>by omega⟩,fun i hi=>⟨fun h=> ?_,fun h=> ?_⟩⟩;have h:i<l.length:=(by simpa using h);simp only[jw] at*;refine⟨by omega,by omega,vI _ (a _ (L.we h)) ⟨fun c=> ?_,fun c=>⟨iZ6,i+1,⟨⟨by simp,tZ⟩,tZ⟩,⟨by omega,fun b d=> ?_⟩,by omega⟩⟩⟩;rw[yE (p:=kZ (α:=BkD) f.F) h hi.2 c];by_cases e:b=i;subst e;exact c;exact hi.2 b (by omega);have h:l.length<=i:=(by simpa using h);rw[vn (p:=kZ (α:=BkD) f.F) h hi.2]
theorem ig:wX PR 194 fZ:=vF f7 i9 Tryz.func194 kcN koN
theorem dz:cD:=by
 rintro⟨l,f,⟨⟩⟩ a;refine⟨a,?_⟩;exact jF (·,()) (fV (kZ (α:=BkD) f.F) l)
theorem cE:wX PR 164 cC:=wJ dz Tryz.func164 (kcC ig kcN) koN
theorem nF:l8:=by
 rintro⟨l,f,⟨⟩⟩ a g;refine⟨⟨0,⟨⟨rfl,tZ⟩,tZ⟩,jp _,fun b c=>by omega⟩,fun i hi=>⟨fun h=> ?_,fun h=> ?_⟩⟩;have h:i<l.length:=(by simpa using h);simp only[jw] at*;refine⟨by omega,by omega,vI _ (a _ (L.we h)) ⟨fun c=> ?_,fun c=>⟨iZ6,i+1,⟨⟨by simp,tZ⟩,tZ⟩,⟨by omega,fun b d=> ?_⟩,by omega⟩⟩⟩;rw[yE (p:=kZ (α:=ShD) f.F) h hi.2 c];by_cases e:b=i;subst e;exact c;exact hi.2 b (by omega);have h:l.length<=i:=(by simpa using h);rw[vn (p:=kZ (α:=ShD) f.F) h hi.2]
theorem ma:wX PR 167 l6:=vF l7 nF Tryz.func167 kcN koN
theorem ii:ew:=by
 rintro⟨l,f,⟨⟩⟩ a;refine⟨a,?_⟩;exact jF (·,()) (fV (kZ (α:=ShD) f.F) l)
theorem eD:wX PR 125 ei:=wJ ii Tryz.func125 (kcC ma kcN) koN
theorem xP:tU:=by
 intro d h;exact vI _ h rfl
theorem tX:wX PR 161 tT:=wJ xP Tryz.func161 kcN koN
theorem Eh:CE:=by
 intro d h;exact⟨fun g a=>⟨h g a,tZ⟩,jF (·,()) (rY d.snd.fst.2 d.fst)⟩
theorem CH:wX PR 118 CD:=wJ Eh Tryz.func118 (kcC f9 (kcC tX kcN)) koN
theorem tY:si:=by
 intro d h;exact vI _ h rfl
theorem sr:wX PR 163 sg:=wJ tY Tryz.func163 kcN koN
theorem CI:xK:=by
 intro d h;exact⟨fun g a=>⟨h g a,tZ⟩,jF (·,()) (rY d.snd.fst.2 d.fst)⟩
theorem xQ:wX PR 122 xJ:=wJ CI Tryz.func122 (kcC eC (kcC sr kcN)) koN
theorem pv:nB:=by
 intro d h;exact vI _ h rfl
theorem nG:wX PR 165 nA:=wJ pv Tryz.func165 kcN koN
theorem t6:sk:=by
 intro d h;exact⟨fun g a=>⟨h g a,tZ⟩,jF (·,()) (rY d.snd.fst.2 d.fst)⟩
theorem su:wX PR 123 sj:=wJ t6 Tryz.func123 (kcC cE (kcC nG kcN)) koN
theorem t7:sn:=by
 intro d h;exact vI _ h rfl
theorem sw:wX PR 166 sm:=wJ t7 Tryz.func166 kcN koN
theorem CJ:xM:=by
 intro d h;exact⟨fun g a=>⟨h g a,tZ⟩,jF (·,()) (rY d.snd.fst.2 d.fst)⟩
theorem xR:wX PR 124 xL:=wJ CJ Tryz.func124 (kcC eD (kcC sw kcN)) koN
theorem MV:JL:=fun _=>rfl
theorem JU:wX PR 116 JK:=wJ MV Tryz.func116 kcN koN
theorem MW:JN:=by
 rintro⟨l,d,f,⟨⟩⟩ a _ _;exact⟨fun _=>a,rfl⟩
theorem JV:wX PR 117 JM:=wJ MW Tryz.func117 (kcC CH kcN) koN
theorem MX:JP:=by
 rintro⟨b,d,⟨⟩⟩ h;have h:(wY d).length<4611686018427387904:=h;exact⟨L.E9 (by show _<=((wY d).length:Int)-1;omega) (by show((wY d).length:Int)-1<=_;omega),rfl⟩
theorem JW:wX PR 119 JO:=wJ MX Tryz.func119 (kcC pq kcN) koN
theorem MY:JR:=by
 unfold JR jie jid Prod.q4;rintro⟨s,d,⟨⟩⟩ h;refine⟨fun a=> ?_,fun b=>⟨fun a=> ?_,rfl⟩⟩;have h:=h a;exact L.E9 (by simp only at*;omega) (by simp only at*;omega);have h:=b a;exact L.E9 (by simp only at*;omega) (by simp only at*;omega)
theorem JX:wX PR 121 JQ:=wJ MY Tryz.func121 (kcC pq kcN) koN
theorem XQ (s:SpD):xj s=sZ s:=by
 unfold xj sZ;rw[jX];simp only[ji,jo];omega
theorem XR (n:Nat) (b:BkD):DG n b=mC n b:=by
 unfold DG mC kX;rw[jX];simp only[ji,jo];omega
theorem XS (nb a:Nat) (s:ShD):Lg nb a s=mD nb a s:=by
 unfold Lg mD kX;rw[jX];simp only[ji,jo];omega
theorem XT (d:DyD):(((((((decide (((wm d).length:Int)<=4)&&kX ((wY d).length:Int) 1 5)&&(wY d).all (fun r=>decide ((r.length:Int)=(wY d).length)&&r.all sZ))&&(wm d).all (mC (wY d).length))&&kX (AB d) 0 300)&&kX (YM d) 0 1440)&&decide (((w4 d).length:Int)<=30))&&(w4 d).all (mD (wm d).length (wd (wj d)).length))=qn d:=by
 unfold qn;have e:(fun(r:List SpD)=>decide ((r.length:Int)=(wY d).length)&&r.all sZ)=cq (wY d).length:=by
  funext r;unfold cq;congr 1;exact decide_eq_decide.2 (by omega)
 rw[e];cases (wY d).all (cq (wY d).length)<;>cases (wm d).all (mC (wY d).length)<;>cases (w4 d).all (mD (wm d).length (wd (wj d)).length)<;>simp only[kw,Bool.and_true,Bool.false_and,kX]
 rw[jX];simp only[ji,jo];omega
theorem UR:Re:=by
 unfold Re jgs jg2 jf5 jhB Prod.q4;rintro⟨d,⟨⟩⟩ _ _;refine⟨fun _ _ _=>⟨fun _ _=>tZ,tZ⟩,fun _ _ _=>tZ,fun _=>⟨fun _ _ _=>tZ,?_⟩⟩;have a:(kZ fun(x:SpD×Unit)=>(xj x.fst,()))=sZ:=funext XQ;have e2:(kZ fun(x:BkD×Unit)=>(DG (wY d).length x.fst,()))=mC (wY d).length:=funext (XR _);have b:(kZ fun(x:ShD×Unit)=>(Lg (wm d).length (wd (wj d)).length x.fst,()))=mD (wm d).length (wd (wj d)).length:=funext (XS _ _);simp only;rw[a,e2,b];exact jF (·,()) (XT d)
theorem Rk:wX PR 81 Rc:=wJ UR Tryz.func81 (kcC pq (kcC JU (kcC JV (kcC JW (kcC JX (kcC xQ (kcC su (kcC xR kcN)))))))) koN
theorem CK:xO:=by
 intro d;simp
theorem xS:wX PR 141 xN:=wJ CK Tryz.func141 kcN koN
theorem t8:sq:=by
 unfold sq jf6;rintro⟨a,b,⟨⟩⟩;refine⟨fun h=>(by cases h),fun _=>⟨fun h=>(by cases h),fun _=>⟨fun h=> ?_,fun h=>⟨fun c=> ?_,fun c=> ?_⟩⟩⟩⟩;have h:a<b:=ja h;simp only;unfold cI;rw[je h];have h:¬a<b:=jc h;have c:b<a:=ja c;simp only;unfold cI;rw[jd h,je c];have h:¬a<b:=jc h;have c:¬b<a:=jc c;simp only;unfold cI;rw[jd h,jd c]
theorem yJ:wX PR 99 so:=wJ t8 Tryz.func99 (kcC xS kcN) koN
theorem Rm {l:List Int} {i:Nat} (h:i<l.length) (a:∀b:Nat,b<i->nth l b=0) (hi:nth l i≠0):yM l=nth l i:=by
 have e:l.find? (fun n=>decide (n≠0))=some (nth l i):=by
  rw[List.find?_eq_some_iff_getElem];refine⟨jL hi,i,h,by rw[L.qb h],fun j c=> ?_⟩;have:=a j c;rw[L.qb (by omega)] at this;simp[this]
 unfold yM;rw[e]
theorem JY {l:List Int} (a:∀b:Nat,b<l.length->nth l b=0):yM l=0:=by
 have e:l.find? (fun n=>decide (n≠0))=none:=by
  rw[List.find?_eq_none];intro x c;obtain⟨i,hi,rfl⟩:=L.mem_iff.1 c;simp[a i hi]
 unfold yM;rw[e]
theorem JZ:Hn:=by
 rintro⟨l,⟨⟩⟩ f;refine⟨⟨0,⟨⟨rfl,tZ⟩,tZ⟩,jp _,fun b c=>by omega⟩,fun x d=>⟨fun h=> ?_,fun h=> ?_⟩⟩;have h:x<l.length:=(by simpa using h);simp only[jw];refine⟨by omega,by omega,fun a=> ?_,fun a=>⟨L.E9 (by omega) (by simp only at f;omega),x+1,⟨⟨by simp,tZ⟩,tZ⟩,⟨h,fun b c=> ?_⟩,by omega⟩⟩;rw[Rm h d.2 (ja a)];by_cases e:b=x;subst e;exact jR.1 (jc a);exact d.2 b (by omega);have h:l.length<=x:=(by simpa using h);rw[JY (fun b c=>d.2 b (by simp only at c;omega))]
theorem bJ:wX PR 98 Hl:=vF Hm JZ Tryz.func98 kcN koN
theorem Ei:CG:=fun _=>rfl
theorem CL:wX PR 129 CF:=wJ Ei Tryz.func129 (kcC yJ (kcC bJ kcN)) koN
theorem Rn:MU:=fun _=>rfl
theorem MZ:wX PR 181 MT:=wJ Rn Tryz.func181 (kcC yJ (kcC bJ kcN)) koN
theorem xT:tW:=by
 rintro⟨l,⟨⟩⟩ b β a;have b:l.length<=100000:=b;refine⟨fun h=>⟨?_,rfl⟩,fun _=>⟨by simp only;omega,by simp,rfl⟩⟩;have:l=[]:=a h;rw[this]
theorem ua:gE PR 127 tV:=Cg xT Tryz.func127 kcN koN
theorem sx:po:=by
 unfold po jgt je3 jig jif jeL;rintro⟨l,⟨⟩⟩ m C;have m:l.length<=100000:=m;obtain⟨eq,k⟩:∃eq,eq=yW:=⟨_,rfl⟩;have A:∀a b:ShD,decide (a=b)=eq a b:=fun a b=>by rw[k];rfl
 simp only[<-k,A,jw];refine⟨fun h=>⟨?_,tZ⟩,fun h=> ?_⟩;have h:(l.length:Int)<2:=ja h;rw[L.comp_short (by omega)];have h:¬(l.length:Int)<2:=jc h;refine⟨⟨1,⟨⟨rfl,tZ⟩,tZ⟩,jj _,by omega,?_⟩,fun i hi _=>⟨fun g=> ?_,fun g=>⟨?_,tZ⟩⟩⟩;rw[L.comp_short];rw[jY];omega;have g:(i:Int)<l.length:=ja g;obtain⟨s,D,f⟩:=hi;have z:((i:Int)-1).toNat=i-1:=(by omega);rw[z];have n:=L.comp_take (eq:=eq) (l:=l) s (by omega:i<l.length);refine⟨by omega,g,by unfold wn;omega,by omega,by omega,fun j=>⟨by omega,by omega,zR _,⟨(1,l),⟨⟨rfl,?_,tZ⟩,rfl,tZ⟩,jj _,by omega,rfl,?_,rfl,?_⟩,fun x q _=>⟨fun e=> ?_,fun e=> ?_⟩⟩,fun j=>⟨iZ6,i+1,⟨⟨by simp,tZ⟩,tZ⟩,⟨by omega,by omega,?_⟩,by omega⟩⟩;unfold oi;rw[n,je j,j8,f,jY];omega;rw[n,je j,j8,f,jY];show l.take i=l.take (min i l.length);congr 1;omega;rw[n,je j,j8,f,jY];omega;have e:(x.1:Int)<((l.length-i:Nat):Int):=ja e;have r:=q;obtain⟨G,H,I,v,J,w⟩:=r;obtain⟨E,F⟩:=L.inv9_next s q (by omega);have y:((x.1:Int)-1).toNat=x.1-1:=(by omega);have o:i+(x.1-1)=i+x.1-1:=(by omega);rw[y,o];have p:oi eq l (i+x.1)=((bu eq (l.take (i+x.1))).length:Int):=rfl;refine⟨by omega,e,by unfold wn;omega,by omega,by omega,fun c=> ?_,fun c=> ?_⟩;have c:eq (nth x.2 (i+x.1)) (nth x.2 (i+x.1-1))=false:=(by simpa using c);obtain⟨t,u⟩:=E c;refine⟨by omega,e,by omega,by omega,by unfold wn;omega,iZ6,(x.1+1,_),⟨⟨by simp,t.symm,tZ⟩,rfl,tZ⟩,u,by show _-(x.1+1)<_;omega⟩;have c:eq (nth x.2 (i+x.1)) (nth x.2 (i+x.1-1))=true:=(by simpa using c);obtain⟨t,u⟩:=F c;exact⟨iZ6,(x.1+1,x.2),⟨⟨t.symm,by simp,tZ⟩,rfl,tZ⟩,u,by show _-(x.1+1)<_;omega⟩;have e:¬(x.1:Int)<((l.length-i:Nat):Int):=jc e;obtain⟨G,H,I,v,J,w⟩:=q;have p:oi eq l (i+x.1)=((bu eq (l.take (i+x.1))).length:Int):=rfl;have d:l.take (i+x.1)=l:=zv (by omega);rw[d] at p v w;rw[p];simp only[jw];have B:=L.comp_len (eq:=eq) l;refine⟨by omega,by omega,zR _,by omega,by omega,by omega,?_,⟨?_,tZ⟩⟩;simp only[jG,jY,za];omega;congr 1;rw[show(bu eq l).length-Int.toNat 0=(bu eq l).length from rfl];rw[List.take_left' (by rw[jY];omega)];exact v.symm;rw[n,jd (by rw[j];simp),f];exact(L.wN (by omega)).symm;have g:¬(i:Int)<l.length:=jc g;obtain⟨s,D,f⟩:=hi;have d:l.take i=l:=zv (by omega);rw[d] at f;rw[f]
theorem pw:gE PR 130 pm:=rX pn sx Tryz.func130 kcN koN
theorem bB:gE PR 128 nC:=
 Cf Tryz.sortSh 134 rfl (jz (by kernel_rfl)) Tryz.isAgg134 Tryz.sizeOf134 (vz Tryz.func128 (c:=w6 Tryz.f128) (by kernel_rfl) (by kernel_rfl))
theorem XU:fW di:=by
 have e:di=S0 (fun a b=>cI (yY a) (yY b)) (S0 (fun a b=>cI (DR a) (DR b)) (S0 (fun a b=>cI (Ww a) (Ww b)) (S0 (fun a b=>cI (lm a) (lm b)) (fun a b=>cI (gP a) (gP b))))):=by
  funext a b;unfold di;simp only[qk,S0]
  split<;>(try rfl);split<;>(try rfl);split<;>(try rfl);split<;>(try rfl);split<;>(try rfl)
  rename_i h;exact(jR.1 h).symm
 rw[e];exact pk (oe lZ yY) (pk (oe lZ DR) (pk (oe lZ Ww) (pk (oe lZ lm) (oe lZ gP))))
theorem Ro {a b:ShD} (h:di a b=0):a=b:=by
 unfold di at h;rw[qk] at h
 split at h
 contradiction;rename_i c;rw[qk] at h
 split at h
 contradiction;rename_i d;rw[qk] at h
 split at h
 contradiction;rename_i e;rw[qk] at h
 split at h
 contradiction;rename_i f;rw[vR] at h;have c:=aK.1 (jR.1 c);have d:=aK.1 (jR.1 d);have e:=aK.1 (jR.1 e);have f:=aK.1 (jR.1 f);have g:=aK.1 h;obtain⟨i,j,k,l,m,⟨⟩⟩:=a;obtain⟨n,o,p,q,r,⟨⟩⟩:=b;have c:i=n:=c;have d:j=o:=d;have e:k=p:=e;have f:l=q:=f;have g:m=r:=g;rw[c,d,e,f,g]
theorem XV (l:List ShD):vN (wa tSh fun x=>(di x.1 x.2.1,())) l:=AT XU (fun _ _ _ _ h=>Ro h)
theorem US (l:List ShD):(qe l).length<=l.length:=by
 unfold qe;refine jD (L.comp_len _) ?_;rw[(qa l).length_eq];exact jj _
theorem J0:Hp:=by
 unfold Hp jhC;rintro⟨l,⟨⟩⟩ a;exact⟨a,fun _ _ _ _=>tZ,XV l,by rw[(qa (lt:=wa tSh fun x=>(di x.1 x.2.1,())) l).length_eq];exact a,rfl,rfl⟩
theorem sy:gE PR 83 Ho:=Cg J0 Tryz.func83 (kcC CL kcN) (koC ua (koC bB (koC pw koN)))
theorem M0:JT:=by
 unfold JT jhD;rintro⟨s,⟨m,⟨⟩⟩,⟨⟩⟩ h;have h:Wy m:=h;have:=h (yY s);have this:0<=wH 0 (wx .int s.1 m)/\wH 0 (wx .int s.1 m)<=200000:=this;exact⟨L.E9 (by simp only;omega) (by simp only;omega),rfl,rfl⟩
theorem J1:gE PR 126 JS:=Cg M0 Tryz.func126 kcN koN
theorem eE {m:List (Int×Int)} {l:List ShD} {i:Nat} (h:i<l.length):yC m l (i+1)=nj (yC m l i) (nth l i):=by
 unfold yC;rw[L.wN h,jU];rfl
theorem Zf (l:List ShD):∀i,i<=l.length->∀k,0<=wH 0 (wx .int k (yC [] l i))/\wH 0 (wx .int k (yC [] l i))<=(i:Int)
 |0,_,k=>⟨zR 0,zR 0⟩
 |i+1,hi,k=>by
  have b:=Zf l i (by omega)
  rw[eE (by omega)]
  unfold nj
  by_cases e:k=yY (nth l i)
  rw[e]
  have a:=M.pR (kt:= .int) (yY (nth l i)) (wH 0 (wx .int (yY (nth l i)) (yC [] l i))+1) (yC [] l i)
  rw[a]
  have:=b (yY (nth l i))
  show 0<=wH 0 (wx .int (yY (nth l i)) (yC [] l i))+1/\wH 0 (wx .int (yY (nth l i)) (yC [] l i))+1<=_
  omega
  have a:=M.dH (kt:= .int) (k:=yY (nth l i)) (k':=k) e (wH 0 (wx .int (yY (nth l i)) (yC [] l i))+1) (yC [] l i)
  rw[a]
  have:=b k
  omega
theorem XW {m:List (Int×Int)} {l:List ShD} {i:Nat} (h:i<l.length) (a:∀b:Nat,b<i->tb m l b=false) (hi:tb m l i=true):mG m l=(i:Int)/\Wx m l=i+1:=by
 have e:(List.range l.length).findIdx? (tb m l)=some i:=by
  rw[zY];refine⟨by simpa using h,by simpa using hi,fun j c=>by simp[a j c]⟩
 unfold mG Wx yZ;rw[e];exact⟨rfl,rfl⟩
theorem FZ {m:List (Int×Int)} {l:List ShD} (a:∀b:Nat,b<l.length->tb m l b=false):mG m l= -1/\Wx m l=l.length:=by
 have e:(List.range l.length).findIdx? (tb m l)=none:=by
  rw[ku];intro x c;exact a x (jE.1 c)
 unfold mG Wx yZ;rw[e];exact⟨rfl,rfl⟩
theorem ij:eB:=by
 rintro⟨l,⟨m,⟨⟩⟩,⟨⟩⟩ j f n;have f:m=[]:=f;subst f;have j:l.length<=100000:=j;refine⟨⟨0,⟨⟨rfl,tZ⟩,rfl,tZ⟩,jp _,fun b i=>by omega⟩,fun x a=>⟨fun h=> ?_,fun h=> ?_⟩⟩;have h:x<l.length:=(by simpa using h);simp only[jw];refine⟨by omega,by omega,fun k=> ?_,fun d=> ?_,fun d=>⟨iZ6,x+1,⟨⟨by simp,tZ⟩,⟨tZ,tZ⟩,(eE h).symm,tZ⟩,⟨h,fun b i=> ?_⟩,by omega⟩⟩;have:=Zf l x (by omega) k;omega;obtain⟨c,e2⟩:=XW h a.2 d;unfold pL;rw[c,e2,eE h];exact⟨rfl,rfl⟩;by_cases e:b=x;subst e;exact d;exact a.2 b (by omega);have h:l.length<=x:=(by simpa using h);obtain⟨c,e2⟩:=FZ (m:=[]) (l:=l) (fun b i=>a.2 b (by omega));have g:x=l.length:=(by have:=a.1;simp only at this;omega);unfold pL;rw[c,e2,g];exact⟨rfl,rfl⟩
theorem eG:gE PR 167 ez:=rX eA ij Tryz.func167 kcN (koC J1 koN)
theorem cF:cg:=fun _ a b=>⟨a,b,rfl,rfl⟩
theorem ci:gE PR 125 cf:=Cg cF Tryz.func125 kcN (koC eG koN)
theorem UT:Rg:=fun _ h=>⟨h,rfl,rfl⟩
theorem Rp:wX PR 82 Rf:=wJ UT Tryz.func82 kcN (koC ci koN)
theorem XX {c:CrD} (h:wo c=true):wZ c (0,1,0,0,0,1,())=true:=by
 obtain⟨a,_⟩:=wU h;unfold wZ;refine jL ?_;refine⟨by decide,?_,by decide,?_,by decide,by decide,by decide,by decide,by decide,by decide,by decide,by decide,by decide⟩;show(0:Int)<=U.la c-1;omega;show(1:Int)<=U.la c-1;omega
theorem UU (c:CrD):vl c (0,1,0,0,0,1,())=if wo c=false then 30 else 0:=by
 unfold vl;by_cases h:wo c=false;rw[je h,je h];rw[jd h,jd h,jd (by rw[XX (by simpa using h)];simp)]
theorem Hq:Eg:=by
 unfold Eg jhE;rintro⟨d,⟨⟩⟩;have e:=UU d.1;simp only[e];by_cases f:wo d.1=false;rw[je f];refine⟨fun _=> ?_,fun h=>by simp at h⟩;have f:wo (wj d)=false:=f;unfold uK;rw[je f];rw[jd f];have c:wo (wj d)=true:=eq_true_of_ne_false f;refine⟨fun h=>by simp at h,fun _ k=>⟨⟨0,⟨⟨rfl,tZ⟩,tZ⟩,jp _,fun b j=>by omega⟩,fun x l=>⟨fun h=> ?_,fun h=> ?_⟩⟩⟩;have h:(x:Int)<(wm d).length:=ja h;have h:x<(wm d).length:=(by omega);have k:(wm d).length<4611686018427387904:=k;have e2:vl d.1 (nth d.2.2.1 x).1=if wZ (wj d) (gN (nth (wm d) x))=false then 31 else 0:=by
  show(if wo (wj d)=false then(30:Int) else if wZ (wj d) (gN (nth (wm d) x))=false then 31 else 0)=_;rw[jd (by rw[c];simp)]
 simp only[jw,e2];refine⟨by omega,by show(x:Int)<(wm d).length;omega,fun a=> ?_,fun a=>⟨iZ6,x+1,⟨⟨by simp,tZ⟩,tZ⟩,⟨h,fun b j=> ?_⟩,(by show(wm d).length-(x+1)<(wm d).length-x;omega)⟩⟩;have a:=ja a;by_cases g:wZ (wj d) (gN (nth (wm d) x))=false;rw[je g];unfold uK;rw[jd (by rw[c];simp),je];unfold Ii;exact L.all_false h g;rw[jd g] at a;exact absurd rfl a;have a:=jc a;by_cases m:b=x;subst m;by_cases g:wZ (wj d) (gN (nth (wm d) b))=false;rw[je g] at a;exact absurd (by decide) a;exact eq_true_of_ne_false g;exact l.2 b (by omega);have h:¬(x:Int)<(wm d).length:=jc h;have h:(wm d).length<=x:=(by omega);unfold uK;rw[jd (by rw[c];simp),jd];rw[Bool.not_eq_false];unfold Ii;rw[jT];intro b j;obtain⟨i,hi,rfl⟩:=L.mem_iff.1 j;exact l.2 i (by omega)
theorem Ej:wX PR 80 Ee:=vF Ef Hq Tryz.func80 (kcC FW kcN) koN
theorem UV:Ri:=by
 unfold Ri Prod.q4;rintro⟨d,⟨⟩⟩ c;refine⟨fun h=> ?_,fun h=>⟨fun b=> ?_,fun b=>⟨c,jD (US _) c,fun a=> ?_,fun a=> ?_⟩⟩⟩;have h:=ja h;simp only at h⊢;unfold w5;rw[je h];have h:=jc h;simp only at h⊢;unfold w5;rw[jd h,je (by simpa using b)];have h:=jc h;simp only at h⊢;unfold w5;rw[jd h,jd (by simpa using b)];have a:S2 (qe (w4 d))=true:=a;rw[je a];have h:=jc h;simp only at h⊢;unfold w5;rw[jd h,jd (by simpa using b)];have a:S2 (qe (w4 d))=false:=a;rw[jd (by rw[a];simp)]
theorem F0:wX PR 50 Rh:=wJ UV Tryz.func50 (kcC Ej (kcC Rk (kcC Rp kcN))) (koC sy koN)
namespace U
def SK {α:Type} [Inhabited α] (l:List α) (j k:Nat):List α:=(l.set j (nth l k)).set k (nth l j)
def nT {α:Type} [Inhabited α] (lt:α->α->Bool):List α->Nat->List α
 |l,0=>l
 |l,j+1=>if lt (nth l (j+1)) (nth l j)=true then nT lt (SK l (j+1) j) j else l
def dD {α:Type} [Inhabited α] (lt:α->α->Bool) (l:List α) (i:Nat):List α:=(List.range i).foldl (nT lt) l
def iL {α:Type} [Inhabited α] (lt:α->α->Bool) (l:List α):List α:=dD lt l l.length
def pM {α:Type} (lt:α->α->Bool) (x:α):List α->List α
 |[]=>[x]
 |y::r=>if lt x y=true then y::pM lt x r else x::y::r
end U
namespace IS
variable {α:Type} [Inhabited α] {lt:α->α->Bool}
theorem swap_perm {l:List α} {j k:Nat} (a:j<l.length) (hk:k<l.length):(SK l j k).Perm l:=by
 unfold SK;rw[L.qb a,L.qb hk];exact List.set_set_perm a hk
theorem sink_perm:∀(j:Nat) (l:List α),j<l.length->(nT lt l j).Perm l
 |0,l,_=>List.Perm.refl _
 |j+1,l,h=>by
  unfold nT
  have a:=swap_perm (l:=l) (j:=j+1) (k:=j) h (by omega)
  split
  exact(sink_perm j _ (by rw[a.length_eq];omega)).trans a
  exact List.Perm.refl _
theorem part_succ (lt:α->α->Bool) (l:List α) (i:Nat):dD lt l (i+1)=nT lt (dD lt l i) i:=by
 simp[dD,zg]
theorem part_perm {l:List α}:∀(i:Nat),i<=l.length->(dD lt l i).Perm l
 |0,_=>List.Perm.refl _
 |i+1,h=>by
  rw[part_succ]
  have a:=part_perm (l:=l) i (by omega)
  exact(sink_perm i _ (by rw[a.length_eq];omega)).trans a
theorem isort_perm (lt:α->α->Bool) (l:List α):(iL lt l).Perm l:=part_perm _ (jj _)
theorem part_isort {l:List α} {i:Nat} (a:1<=i) (b:i<=max l.length 1) (c:l.length<=i):dD lt l i=iL lt l:=by
 unfold iL;by_cases h:l.length=0;have:i=1:=(by omega);subst this;rw[h];rfl;have:i=l.length:=(by omega);rw[this]
theorem insR_len {α:Type} {lt:α->α->Bool} (x:α):∀q:List α,(pM lt x q).length=q.length+1
 |[]=>rfl
 |y::r=>by
  unfold pM
  split
  simp[insR_len x r]
  simp
theorem nth_mid (a:List α) (x:α) (s:List α):nth (a++x::s) a.length=x:=by
 rw[L.qb (by simp)];simp
theorem sink_app:∀(q:List α) (x:α) (s:List α),nT lt (q.reverse++x::s) q.length=(pM lt x q).reverse++s
 |[],x,s=>rfl
 |y::r,x,s=>by
  have e:(y::r).reverse++x::s=r.reverse++y::x::s:=by simp
  rw[e]
  have g:nth (r.reverse++y::x::s) (r.length+1)=x:=by
   have:=nth_mid (r.reverse++[y]) x s;simpa using this
  have h:nth (r.reverse++y::x::s) r.length=y:=by
   have:=nth_mid r.reverse y (x::s);simpa using this
  show(if lt (nth _ (r.length+1)) (nth _ r.length)=true then nT lt (SK _ (r.length+1) r.length) r.length else _)=_;rw[g,h];unfold pM
  split
  .have a:SK (r.reverse++y::x::s) (r.length+1) r.length=r.reverse++x::(y::s):=by
    unfold SK;rw[g,h];apply List.ext_getElem?;intro k;simp only[ko,zM];by_cases b:r.length=k
    .subst b;rw[je rfl,je (by simp)];rw[jx (by simp)];simp
    .rw[jd b];by_cases c:r.length+1=k
     .subst c;rw[je rfl,je (by simp)];rw[jx (by simp)];simp
     .rw[jd c];by_cases f:k<r.length
      .rw[jA (by simpa using f),jA (by simpa using f)]
      .rw[jx (by simp;omega),jx (by simp;omega)];obtain⟨d,i⟩:∃d,k-r.reverse.length=d+2:=⟨k-r.length-2,by simp;omega⟩;rw[i];simp
   rw[a,sink_app r x (y::s)];simp
  .simp
theorem fold_len {α:Type} {lt:α->α->Bool}:∀(l q:List α),(l.foldl (fun q x=>pM lt x q) q).length=q.length+l.length
 |[],q=>rfl
 |x::l,q=>by
  simp only[List.foldl_cons,j6]
  rw[fold_len l,insR_len];omega
theorem part_eq (l:List α):∀i,i<=l.length->dD lt l i=((l.take i).foldl (fun q x=>pM lt x q) []).reverse++l.drop i
 |0,_=>by simp[dD]
 |i+1,h=>by
  rw[part_succ,part_eq l i (by omega)]
  have b:l.drop i=nth l i::l.drop (i+1):=by
   rw[L.qb (by omega)];exact z7 (by omega)
  rw[b];have a:((l.take i).foldl (fun q x=>pM lt x q) []).length=i:=(by rw[fold_len];simp;omega);have:=sink_app (lt:=lt) ((l.take i).foldl (fun q x=>pM lt x q) []) (nth l i) (l.drop (i+1));rw[a] at this;rw[this,L.wN (by omega),jU];rfl
theorem isort_eq (l:List α):iL lt l=(l.foldl (fun q x=>pM lt x q) []).reverse:=by
 unfold iL;rw[part_eq l _ (jj _)];simp
theorem insR_mem {α:Type} {lt:α->α->Bool} {x z:α}:∀{q:List α},z∈pM lt x q↔z=x\/z∈q
 |[]=>by simp[pM]
 |y::r=>by
  unfold pM
  split
  simp only[jk,insR_mem (q:=r)]
  constructor
  rintro(h|h|h)<;>simp[h]
  rintro(h|h|h)<;>simp[h]
  simp
theorem insR_desc {α:Type} {lt:α->α->Bool} {x:α}:∀{q:List α},vN lt (x::q)->q.Pairwise (fun a b=>lt a b=false)->(pM lt x q).Pairwise (fun a b=>lt a b=false)
 |[],_,_=>by simp[pM]
 |y::r,ho,h=>by
  rw[zz] at h
  unfold pM
  split
  rename_i d
  rw[zz]
  refine⟨fun z c=> ?_,insR_desc (ho.sub (fun z c=>by rcases jk.1 c with h|h;exact h▸zh;exact jl _ (jl _ h))) h.2⟩
  rcases insR_mem.1 c with rfl|c
  exact ho.asymm (by simp) (by simp) d
  exact h.1 z c
  rename_i d
  have d:lt x y=false:=by simpa using d
  rw[zz]
  refine⟨fun z c=> ?_,zz.2 h⟩
  rcases jk.1 c with rfl|c
  exact d
  exact ho.ntrans (by simp) (by simp) (by simp[c]) d (h.1 z c)
theorem fold_desc {α:Type} {lt:α->α->Bool}:∀(l q:List α),vN lt (l++q)->q.Pairwise (fun a b=>lt a b=false)->(l.foldl (fun q x=>pM lt x q) q).Pairwise (fun a b=>lt a b=false)
 |[],q,_,h=>h
 |x::l,q,ho,h=>by
  refine fold_desc l _ (ho.sub (fun z c=> ?_)) (insR_desc (ho.sub (fun z c=> ?_)) h)
  rcases jr.1 c with c|c
  simp[c]
  rcases insR_mem.1 c with rfl|c
  simp
  simp[c]
  rcases jk.1 c with rfl|c
  simp
  simp[c]
theorem isort_asc {l:List α} (a:vN lt l):QW lt (iL lt l):=by
 rw[isort_eq];unfold QW;rw[List.pairwise_reverse];exact fold_desc l [] (by simpa using a) (by simp)
theorem isort_sort {l:List α} (a:vN lt l):iL lt l=k8 lt l:=Cd a (isort_perm lt l) (isort_asc a)
end IS
end Go.X
namespace Go.X
open U
open Go.Proofs
def U.len8tab:ByteArray:=⟨#[0,1,2,2,3,3,3,3,4,4,4,4,4,4,4,4,5,5,5,5,5,5,5,5,5,5,5,5,5,5,5,5,6,6,6,6,6,6,6,6,6,6,6,6,6,6,6,6,6,6,6,6,6,6,6,6,6,6,6,6,6,6,6,6,7,7,7,7,7,7,7,7,7,7,7,7,7,7,7,7,7,7,7,7,7,7,7,7,7,7,7,7,7,7,7,7,7,7,7,7,7,7,7,7,7,7,7,7,7,7,7,7,7,7,7,7,7,7,7,7,7,7,7,7,7,7,7,7,8,8,8,8,8,8,8,8,8,8,8,8,8,8,8,8,8,8,8,8,8,8,8,8,8,8,8,8,8,8,8,8,8,8,8,8,8,8,8,8,8,8,8,8,8,8,8,8,8,8,8,8,8,8,8,8,8,8,8,8,8,8,8,8,8,8,8,8,8,8,8,8,8,8,8,8,8,8,8,8,8,8,8,8,8,8,8,8,8,8,8,8,8,8,8,8,8,8,8,8,8,8,8,8,8,8,8,8,8,8,8,8,8,8,8,8,8,8,8,8,8,8,8,8,8,8,8,8]⟩
abbrev rwI:Sh:= .cl (.row 3 .int .unk)
namespace U
abbrev FC:=Int×Int×Unit->Int×Unit
abbrev bM (F:FC):Int->Int->Bool:=wa .int F
def iM (p:Int×Int×Unit->List Prop) (l:List Int):Prop:=∀x∈l,∀y∈l,wu (p (x,y,()))
def pN (n:Int):Int:=if n=0 then 0 else if n<2 then 1 else if n<4 then 2 else if n<8 then 3 else 4
end U
def Hr:wO:=⟨[.val (.uint .u64)],[.int],false,fun d=>[0<=d.1/\d.1<=12],fun d=>(pN d.1,())⟩
abbrev jhF (d:Int×Unit):=(d.1/(2:Int)^Int.toNat 32/(2:Int)^Int.toNat 16/(2:Int)^Int.toNat 8)
abbrev jhG (d:Int×Unit):=(d.1/(2:Int)^Int.toNat 32/(2:Int)^Int.toNat 16)
abbrev jhH (d:Int×Unit):=(d.1/(2:Int)^Int.toNat 32/(2:Int)^Int.toNat 8)
abbrev jhI (d:Int×Unit):=(d.1/(2:Int)^Int.toNat 16/(2:Int)^Int.toNat 8)
abbrev jih (d:Int×Unit):=(256<=d.1/(2:Int)^Int.toNat 32/(2:Int)^Int.toNat 16)
def Hs:Prop:=∀(d:Int×Unit),0<=d.1/\d.1<=12->(decide (4294967296<=d.1)=true->(0:Int)<=32/\(32:Int)<=64/\(decide (65536<=d.1/(2:Int)^Int.toNat 32)=true->(0:Int)<=16/\(16:Int)<=64/\wn ((32:Int)+16)/\(decide (jih d)=true->(0:Int)<=8/\(8:Int)<=64/\wn ((32:Int)+16+8)/\0<=d.1/(2:Int)^Int.toNat 32/(2:Int)^Int.toNat 16/(2:Int)^Int.toNat 8/\d.1/(2:Int)^Int.toNat 32/(2:Int)^Int.toNat 16/(2:Int)^Int.toNat 8<=255/\0<=d.1/(2:Int)^Int.toNat 32/(2:Int)^Int.toNat 16/(2:Int)^Int.toNat 8/\d.1/(2:Int)^Int.toNat 32/(2:Int)^Int.toNat 16/(2:Int)^Int.toNat 8<(U.len8tab.size:Int)/\wn (aj U.len8tab (jhF d).toNat)/\wn ((32:Int)+16+8+aj U.len8tab (jhF d).toNat)/\((32:Int)+16+8+aj U.len8tab (jhF d).toNat,())=(pN d.1,()))/\(decide (jih d)=false->0<=d.1/(2:Int)^Int.toNat 32/(2:Int)^Int.toNat 16/\d.1/(2:Int)^Int.toNat 32/(2:Int)^Int.toNat 16<=255/\0<=d.1/(2:Int)^Int.toNat 32/(2:Int)^Int.toNat 16/\d.1/(2:Int)^Int.toNat 32/(2:Int)^Int.toNat 16<(U.len8tab.size:Int)/\wn (aj U.len8tab (jhG d).toNat)/\wn ((32:Int)+16+aj U.len8tab (jhG d).toNat)/\((32:Int)+16+aj U.len8tab (jhG d).toNat,())=(pN d.1,())))/\(decide (65536<=d.1/(2:Int)^Int.toNat 32)=false->(decide (256<=d.1/(2:Int)^Int.toNat 32)=true->(0:Int)<=8/\(8:Int)<=64/\wn ((32:Int)+8)/\0<=d.1/(2:Int)^Int.toNat 32/(2:Int)^Int.toNat 8/\d.1/(2:Int)^Int.toNat 32/(2:Int)^Int.toNat 8<=255/\0<=d.1/(2:Int)^Int.toNat 32/(2:Int)^Int.toNat 8/\d.1/(2:Int)^Int.toNat 32/(2:Int)^Int.toNat 8<(U.len8tab.size:Int)/\wn (aj U.len8tab (jhH d).toNat)/\wn ((32:Int)+8+aj U.len8tab (jhH d).toNat)/\((32:Int)+8+aj U.len8tab (jhH d).toNat,())=(pN d.1,()))/\(decide (256<=d.1/(2:Int)^Int.toNat 32)=false->0<=d.1/(2:Int)^Int.toNat 32/\d.1/(2:Int)^Int.toNat 32<=255/\0<=d.1/(2:Int)^Int.toNat 32/\d.1/(2:Int)^Int.toNat 32<(U.len8tab.size:Int)/\wn (aj U.len8tab (d.1/(2:Int)^Int.toNat 32).toNat)/\wn ((32:Int)+aj U.len8tab (d.1/(2:Int)^Int.toNat 32).toNat)/\((32:Int)+aj U.len8tab (d.1/(2:Int)^Int.toNat 32).toNat,())=(pN d.1,()))))/\(decide (4294967296<=d.1)=false->(decide (65536<=d.1)=true->(0:Int)<=16/\(16:Int)<=64/\wn ((0:Int)+16)/\(decide (256<=d.1/(2:Int)^Int.toNat 16)=true->(0:Int)<=8/\(8:Int)<=64/\wn ((0:Int)+16+8)/\0<=d.1/(2:Int)^Int.toNat 16/(2:Int)^Int.toNat 8/\d.1/(2:Int)^Int.toNat 16/(2:Int)^Int.toNat 8<=255/\0<=d.1/(2:Int)^Int.toNat 16/(2:Int)^Int.toNat 8/\d.1/(2:Int)^Int.toNat 16/(2:Int)^Int.toNat 8<(U.len8tab.size:Int)/\wn (aj U.len8tab (jhI d).toNat)/\wn ((0:Int)+16+8+aj U.len8tab (jhI d).toNat)/\((0:Int)+16+8+aj U.len8tab (jhI d).toNat,())=(pN d.1,()))/\(decide (256<=d.1/(2:Int)^Int.toNat 16)=false->0<=d.1/(2:Int)^Int.toNat 16/\d.1/(2:Int)^Int.toNat 16<=255/\0<=d.1/(2:Int)^Int.toNat 16/\d.1/(2:Int)^Int.toNat 16<(U.len8tab.size:Int)/\wn (aj U.len8tab (d.1/(2:Int)^Int.toNat 16).toNat)/\wn ((0:Int)+16+aj U.len8tab (d.1/(2:Int)^Int.toNat 16).toNat)/\((0:Int)+16+aj U.len8tab (d.1/(2:Int)^Int.toNat 16).toNat,())=(pN d.1,())))/\(decide (65536<=d.1)=false->(decide (256<=d.1)=true->(0:Int)<=8/\(8:Int)<=64/\wn ((0:Int)+8)/\0<=d.1/(2:Int)^Int.toNat 8/\d.1/(2:Int)^Int.toNat 8<=255/\0<=d.1/(2:Int)^Int.toNat 8/\d.1/(2:Int)^Int.toNat 8<(U.len8tab.size:Int)/\wn (aj U.len8tab (d.1/(2:Int)^Int.toNat 8).toNat)/\wn ((0:Int)+8+aj U.len8tab (d.1/(2:Int)^Int.toNat 8).toNat)/\((0:Int)+8+aj U.len8tab (d.1/(2:Int)^Int.toNat 8).toNat,())=(pN d.1,()))/\(decide (256<=d.1)=false->0<=d.1/\d.1<=255/\0<=d.1/\d.1<(U.len8tab.size:Int)/\wn (aj U.len8tab d.1.toNat)/\wn ((0:Int)+aj U.len8tab d.1.toNat)/\((0:Int)+aj U.len8tab d.1.toNat,())=(pN d.1,()))))
def M1:wO:=⟨[.val (.uint .u64)],[.int],false,fun d=>[0<=d.1/\d.1<=12],fun d=>(pN d.1,())⟩
def M2:Prop:=∀(d:Int×Unit),0<=d.1/\d.1<=12->(false=true->False)/\(qF->(0<=d.1/\d.1<=12)/\(pN d.1,())=(pN d.1,()))
def aX:qS:=⟨[.own rwI true,.val .int,.val .int,.fn [.int,.int] [.int]],[],fun d=>[d.2.1=0/\d.2.2.1=(d.1.length:Int)/\d.1.length<=12,iM d.2.2.2.1.pre d.1],fun d=>((),(iL (bM d.2.2.2.1.F) d.1,()))⟩
def aY:Ann:=fun r=>match r with
 |1=>some fun σ=>{X:=Nat,sl:=fun i=>[(8,.dat .int (i:Int))],ob:=fun i=>[(1000000,some (.row 3 .int false .unk (dD (bM (gfn [.int,.int] [.int] σ 3)) (gr .int σ 1000000) i)))],inv:=fun i=>1<=i/\i<=max (gr .int σ 1000000).length 1,mu:=fun i=>(gr .int σ 1000000).length-i}
 |4=>some fun σ=>{X:=Nat×List Int,sl:=fun x=>[(9,.dat .int (x.1:Int))],ob:=fun x=>[(1000000,some (.row 3 .int false .unk x.2))],inv:=fun x=>(x.1:Int)<=gd .int σ 8/\x.2.Perm (gr .int σ 1000000)/\nT (bM (gfn [.int,.int] [.int] σ 3)) x.2 x.1=nT (bM (gfn [.int,.int] [.int] σ 3)) (gr .int σ 1000000) (gd .int σ 8).toNat,mu:=fun x=>x.1}
 |_=>none
abbrev jhJ (a:Nat×List Int):=(nth a.2 (a.1:Int).toNat,nth a.2 ((a.1:Int)-1).toNat,())
abbrev jeJ (d:List Int×Int×Int×FnD [Ty.int,Ty.int] [Ty.int]×Unit):=(bM d.2.2.2.1.2)
def ba:Prop:=∀(d:List Int×Int×Int×FnD [Ty.int,Ty.int] [Ty.int]×Unit),d.2.1=0/\d.2.2.1=(d.1.length:Int)/\d.1.length<=12->iM d.2.2.2.1.1 d.1->wn (d.2.1+1)/\(∃(x:Nat),((d.2.1+1=(x:Int)/\True)/\d.1=dD (jeJ d) d.1 x/\True)/\1<=x/\x<=max d.1.length 1)/\∀(x:Nat),1<=x/\x<=max d.1.length 1->(decide ((x:Int)<d.2.2.1)=true->(∃(a:Nat×List Int),(((x:Int)=(a.1:Int)/\True)/\dD (jeJ d) d.1 x=a.2/\True)/\(a.1:Int)<=(x:Int)/\a.2.Perm (dD (jeJ d) d.1 x)/\nT (jeJ d) a.2 a.1=nT (jeJ d) (dD (jeJ d) d.1 x) (x:Int).toNat)/\∀(a:Nat×List Int),(a.1:Int)<=(x:Int)/\a.2.Perm (dD (jeJ d) d.1 x)/\nT (jeJ d) a.2 a.1=nT (jeJ d) (dD (jeJ d) d.1 x) (x:Int).toNat->(decide (d.2.1<(a.1:Int))=true->0<=(a.1:Int))/\(decide (d.2.1<(a.1:Int))=true->(a.1:Int)<a.2.length)/\(decide (d.2.1<(a.1:Int))=true->wn ((a.1:Int)-1))/\(decide (d.2.1<(a.1:Int))=true->0<=(a.1:Int)-1)/\(decide (d.2.1<(a.1:Int))=true->(a.1:Int)-1<(a.2.length:Int))/\Tc (decide (d.2.1<(a.1:Int))) (d.2.2.2.1.1 (jhJ a)) (((decide (d.2.1<(a.1:Int))&&decide ((d.2.2.2.1.2 (jhJ a)).1<0))=true->wn ((a.1:Int)-1)/\wn ((a.1:Int)-1)/\0<=(a.1:Int)-1/\(a.1:Int)-1<(a.2.length:Int)/\0<=(a.1:Int)/\(a.1:Int)<a.2.length/\0<=(a.1:Int)/\(a.1:Int)<a.2.length/\0<=(a.1:Int)-1/\(a.1:Int)-1<(↑(a.2.set (a.1:Int).toNat (nth a.2 ((a.1:Int)-1).toNat)).length:Int)/\wn ((a.1:Int)-1)/\∃(b:Nat×List Int),(((a.1:Int)-1=(b.1:Int)/\True)/\(a.2.set (a.1:Int).toNat (nth a.2 ((a.1:Int)-1).toNat)).set ((a.1:Int)-1).toNat (nth a.2 (a.1:Int).toNat)=b.2/\True)/\((b.1:Int)<=(x:Int)/\b.2.Perm (dD (jeJ d) d.1 x)/\nT (jeJ d) b.2 b.1=nT (jeJ d) (dD (jeJ d) d.1 x) (x:Int).toNat)/\b.1<a.1)/\((decide (d.2.1<(a.1:Int))&&decide ((d.2.2.2.1.2 (jhJ a)).1<0))=false->wn ((x:Int)+1)/\∃(c:Nat),(((x:Int)+1=(c:Int)/\True)/\a.2=dD (jeJ d) d.1 c/\True)/\(1<=c/\c<=max d.1.length 1)/\d.1.length-c<d.1.length-x)))/\(decide ((x:Int)<d.2.2.1)=false->()=()/\(dD (jeJ d) d.1 x,())=(iL (jeJ d) d.1,()))
def eH:qS:=⟨[.own rwI true,.val .int,.val .int,.val .int,.fn [.int,.int] [.int]],[],fun d=>[d.2.1=0/\d.2.2.1=(d.1.length:Int)/\d.1.length<=12,iM d.2.2.2.2.1.pre d.1],fun d=>((),(iL (bM d.2.2.2.2.1.F) d.1,()))⟩
def eI:Ann:=fun r=>match r with
 |1000002=>some fun _=>{X:=Unit,sl:=fun _=>[],ob:=fun _=>[],inv:=fun _=>True,mu:=fun _=>0}
 |_=>none
def eJ:Prop:=∀(d:List Int×Int×Int×Int×FnD [Ty.int,Ty.int] [Ty.int]×Unit),d.2.1=0/\d.2.2.1=(d.1.length:Int)/\d.1.length<=12->iM d.q4.1.1 d.1->wn (d.2.2.1-d.2.1)/\(decide (d.2.2.1-d.2.1<=12)=true->(d.2.1=0/\d.2.2.1=(d.1.length:Int)/\d.1.length<=12)/\iM d.q4.1.1 d.1/\()=()/\(iL (bM d.q4.1.2) d.1,())=(iL (bM d.q4.1.2) d.1,()))/\(decide (d.2.2.1-d.2.1<=12)=false->(decide (d.2.2.2.1=0)=true->False)/\(decide (d.2.2.2.1=0)=false->((!true)=true->False)/\((!true)=false->False)))
def qX:qS:=⟨[.own rwI true,.fn [.int,.int] [.int]],[],fun d=>[d.1.length<=12,iM d.2.1.pre d.1,vN (bM d.2.1.F) d.1],fun d=>((),(k8 (bM d.2.1.F) d.1,()))⟩
def sA:Prop:=∀(d:List Int×FnD [Ty.int,Ty.int] [Ty.int]×Unit),d.1.length<=12->iM d.2.1.1 d.1->vN (bM d.2.1.2) d.1->d.1.length<4611686018427387904->0<=(d.1.length:Int)/\(d.1.length:Int)<=18446744073709551615/\(0<=(d.1.length:Int)/\(d.1.length:Int)<=12)/\((0:Int)=0/\(d.1.length:Int)=d.1.length/\d.1.length<=12)/\iM d.2.1.1 d.1/\()=()/\(iL (bM d.2.1.2) d.1,())=(k8 (bM d.2.1.2) d.1,())
def asI (l:List Int):List (Ty.st [.int]).Data:=l.map (fun x=>(x,()))
def LVi (d:PD [.ref (.slice .int)]) (xs:List (Ty.st [.int]).Data):Prop:=xs=asI d.1
def sB:AR (YS [.int]):=fun r=>match r with
 |1=>some fun σ _=>{X:=Nat,sl:=fun i=>[(7,.dat .int (i:Int))],ob:=fun _=>[],ys:=fun i=>(asI ((gd (.slice .int) σ 5).take i),true),inv:=fun i=>i<=(gd (.slice .int) σ 5).length,mu:=fun i=>(gd (.slice .int) σ 5).length-i}
 |_=>none
abbrev jeT:=(fun(a:Int)=>(a,()))
abbrev jgu (d:List Int×Unit)(x:Nat):=(nth d.1 (x:Int).toNat,())
def cY:Prop:=∀(d:List Int×Unit) (l:Nat),d.1.length<4611686018427387904->(∃(x:Nat),((0=(x:Int)/\True)/\True)/\([],true)=(List.map jeT (List.take x d.1),true)/\x<=d.1.length)/\∀(x:Nat),x<=d.1.length->(decide ((x:Int)<d.1.length)=true->0<=(x:Int)/\(x:Int)<d.1.length/\l=l/\(∃(rest:List (Int×Unit)),List.map jeT (List.take x d.1)++[(jgu d x)]++rest=List.map jeT d.1)/\(((!true)=true->true=true->List.map jeT (List.take x d.1)++[(jgu d x)]=List.map jeT d.1)/\((!true)=false->wn ((x:Int)+1)/\∃(a:Nat),(((x:Int)+1=(a:Int)/\True)/\True)/\(List.map jeT (List.take x d.1)++[(jgu d x)],true)=(List.map jeT (List.take a d.1),true)/\a<=d.1.length/\d.1.length-a<d.1.length-x))/\((!false)=true->false=true->List.map jeT (List.take x d.1)++[(jgu d x)]=List.map jeT d.1)/\((!false)=false->wn ((x:Int)+1)/\∃(a:Nat),(((x:Int)+1=(a:Int)/\True)/\True)/\(List.map jeT (List.take x d.1)++[(jgu d x)],false)=(List.map jeT (List.take a d.1),true)/\a<=d.1.length/\d.1.length-a<d.1.length-x))/\(decide ((x:Int)<d.1.length)=false->true=true->List.map jeT (List.take x d.1)=List.map jeT d.1)
theorem mb:(Xu (ctx 16 [] []) (w6 Tryz.f241) [.int] [.ref (.slice .int)] LVi (fun _=>[]) (fun _ _=>sB) (fun d l=>hkY [.int] l [13] (fun q=>∃rest,LVi d (q++rest)) (fun _=>none)))=cY:=by kernel_rfl
def q8:oU:=⟨[.val (.slice .int)],fun _=>[],241,[.slice .int],fun d=>(d.1,())⟩
def iH:Prop:=∀(d:List Int×Unit),d=d
theorem px:(Um (ctx 4 [] []) (fun _=>none) Tryz.f223 (w6 Tryz.f223) q8)=iH:=by kernel_rfl
def cj:I8 [.int]:={ps:=[.own (.box 31 [.row 3 .int .unk]) true],slots:=[2],dst:=20,pre:=fun _=>[],G:=fun d q=>((d.1.1++q.map (·.1),()),()),seq:=fun sv=>match sv with
 | .clo 241 [.ep t m]=>(match qA t (.slice .int) m with
  |some a=>some (True,fun xs=>xs=asI a)
  |none=>none)
 |_=>none}
def gG:Nat->Option ((ts:List Ty)×I8 ts):=fun r=>match r with
 |3=>some ⟨[.int],cj⟩
 |_=>none
def vA:oW:=⟨[none,some (241,1)],[.nil false,.ref (.slice .int)],[rwI],fun d=>[d.2.1.length<=12],fun d r=>r.1.1=d.2.1⟩
def yb:oW:=⟨[some (241,1)],[.ref (.slice .int)],[rwI],fun d=>[d.1.length<=12],fun d r=>r.1.1=d.1⟩
def vf:oW:=⟨[some (241,1),none],[.ref (.slice .int),.fn [.int,.int] [.int]],[rwI],fun d=>[d.1.length<=12,iM d.2.1.pre d.1,vN (bM d.2.1.F) d.1],fun d r=>r.1.1=k8 (bM d.2.1.F) d.1⟩
def pz (d:OD vA.ps):List SV:=[.lit (.slice none 0 0),.clo 241 [.ep (.slice .int) d.2.1]]
abbrev jgv:=(fun(a:Int×Unit)=>a.1)
abbrev jhK:=(fun(a:List (Int×Unit))=>false)
abbrev jhL:=(fun(a:Int)=>(a,()))
def ck:Prop:=∀(d:Unit×List Int×Unit),d.2.1.length<=12/\True->True/\True/\(([]++List.map jgv [],()),())=(([],()),())/\(∀(q:List (Int×Unit)) (x:Int×Unit) (rest:List (Int×Unit)),q++x::rest=List.map jhL d.2.1->yF jhK q->(([]++List.map jgv q).length+[x.1].length)*8<=140737488355328/\qF/\(([]++List.map jgv q++[x.1],()),())=(([]++List.map jgv (q++[x]),()),()))/\(∀(xs:List (Int×Unit)),xs=List.map jhL d.2.1->yF jhK xs->∃(_:Unit),[]++List.map jgv xs=d.2.1)/\∀(q:List (Int×Unit)) (x:Int×Unit) (rest:List (Int×Unit)),q++x::rest=List.map jhL d.2.1->yF jhK q->false=true->∃(_:Unit),[]=d.2.1
theorem lc:(Uo (ctx 13 [] []) (fun _=>none) (hkC (ctx 13 [] []) (fun _=>none) gG [] []) Tryz.f246 (w6 Tryz.f246) vA pz)=ck:=by kernel_rfl
def ub (d:OD yb.ps):List SV:=[.clo 241 [.ep (.slice .int) d.1]]
def eK:Prop:=∀(d:List Int×Unit),d.1.length<=12/\True->(d.1.length<=12/\True)/\∀(r:(List Int×Unit)×Unit),r.1.1=d.1->∃(_:Unit),r.1.1=d.1
theorem nI:(Uo (ctx 5 [] []) (fun _=>none) (hkC (ctx 5 [] []) (fun _=>none) jam [4] [(246,20,vA)]) Tryz.f239 (w6 Tryz.f239) yb ub)=eK:=by kernel_rfl
def nJ (d:OD vf.ps):List SV:=[.clo 241 [.ep (.slice .int) d.1],.fn [.int,.int] [.int] d.2.1.pre d.2.1.F]
def bC:Prop:=∀(d:List Int×FnD [Ty.int,Ty.int] [Ty.int]×Unit),d.1.length<=12/\iM d.2.1.1 d.1/\vN (bM d.2.1.2) d.1/\True->(d.1.length<=12/\True)/\∀(r:(List Int×Unit)×Unit),r.1.1=d.1->r.1.1.length<=12/\iM d.2.1.1 r.1.1/\vN (bM d.2.1.2) r.1.1/\∃(_:Unit),k8 (bM d.2.1.2) r.1.1=k8 (bM d.2.1.2) d.1
theorem ik:(Uo (ctx 12 [] [(240,qX)]) (fun _=>none) (hkC (ctx 12 [] [(240,qX)]) (fun _=>none) jam [7] [(239,20,yb)]) Tryz.f222 (w6 Tryz.f222) vf nJ)=bC:=by kernel_rfl
theorem Rq {b:Bool} {l:List Prop} {k:Prop} (h:b=true->wu l) (hk:k):Tc b l k:=by
 induction l with
 |nil=>exact hk
 |cons p l c=>exact⟨fun a=>(h a).1,c (fun a=>(h a).2)⟩
theorem jef:∀n:Nat,n<13->aj U.len8tab n=pN (n:Int):=by decide+kernel
theorem jaC (n:Int):0<=pN n/\pN n<=4:=by
 unfold pN
 split
 omega
 split
 omega
 split
 omega
 split<;>omega
theorem J2:Hs:=by
 unfold Hs jih jhI jhH jhG jhF;rintro⟨n,⟨⟩⟩ ⟨a,b⟩;have a:0<=n:=a;have b:n<=12:=b;refine⟨fun h=>absurd (ja h) (by simp only;omega),fun _=>⟨fun h=>absurd (ja h) (by simp only;omega),fun _=>⟨fun h=>absurd (ja h) (by simp only;omega),fun _=> ?_⟩⟩⟩;have c:=jef n.toNat (by omega);rw[Int.toNat_of_nonneg a] at c;have d:=jaC n;simp only;rw[c];refine⟨by omega,by omega,by omega,?_,by unfold wn;omega,by unfold wn;omega,by rw[Int.zero_add]⟩;have:U.len8tab.size=256:=(by decide+kernel);omega
theorem Ht:wX PR 178 Hr:=wJ J2 Tryz.func178 kcN koN
theorem Rr:M2:=by
 rintro⟨n,⟨⟩⟩ h;exact⟨fun e=>(by cases e),fun _=>⟨h,rfl⟩⟩
theorem M3:wX PR 140 M1:=wJ Rr Tryz.func140 (kcC Ht kcN) koN
theorem bt:ba:=by
 unfold ba jeJ jhJ;rintro⟨l,a,b,⟨pre,c⟩,⟨⟩⟩ x y;obtain⟨z,n,E⟩:a=0/\b=(l.length:Int)/\l.length<=12:=x;have s:iM pre l:=y;subst z n;simp only;refine⟨by unfold wn;omega,⟨1,⟨⟨rfl,tZ⟩,rfl,tZ⟩,jj _,by omega⟩,fun i hi=>⟨fun h=> ?_,fun h=> ?_⟩⟩
 .have h:i<l.length:=(by have:=ja h;omega);have u:=IS.part_perm (lt:=bM c) (l:=l) i (by omega);refine⟨⟨(i,dD (bM c) l i),⟨⟨rfl,tZ⟩,rfl,tZ⟩,zR _,List.Perm.refl _,rfl⟩,?_⟩;rintro⟨j,m⟩ ⟨v,o,p⟩;have v:(j:Int)<=i:=v;have o:m.Perm (dD (bM c) l i):=o;have p:nT (bM c) m j=nT (bM c) (dD (bM c) l i) i:=p;have C:m.length=l.length:=(o.trans u).length_eq;have g:∀{k:Nat},k<m.length->nth m k∈l:=fun hk=>(o.trans u).mem_iff.1 (L.we hk)
  simp only[jw];refine⟨fun _=>by omega,fun f=>by have:=ja f;omega,fun f=>by have:=ja f;unfold wn;omega,fun f=>by have:=ja f;omega,fun f=>by have:=ja f;omega,Rq (fun f=> ?_) ⟨fun n=> ?_,fun n=> ?_⟩⟩
  .have f:=ja f;exact s _ (g (by omega)) _ (g (by omega))
  .simp only[ji,jo] at n;obtain⟨D,q⟩:=n;obtain⟨d,rfl⟩:∃d,j=d+1:=⟨j-1,by omega⟩;have r:((d+1:Nat):Int)-1=(d:Int):=(by omega);rw[r] at q⊢;simp only[jw] at q⊢;have t:=IS.swap_perm (l:=m) (j:=d+1) (k:=d) (by omega) (by omega);have e:wn (d:Int):=(by unfold wn;omega);refine⟨e,e,by omega,by omega,by omega,by omega,by omega,by omega,by omega,by simp;omega,e,⟨(d,SK m (d+1) d),⟨⟨rfl,tZ⟩,rfl,tZ⟩,⟨by simp only;omega,t.trans o,?_⟩,by simp⟩⟩;rw[<-p];show _=(if bM c (nth m (d+1)) (nth m d)=true then nT (bM c) (SK m (d+1) d) d else m);have w:bM c (nth m (d+1)) (nth m d)=true:=jL q;rw[je w]
  .have B:m=dD (bM c) l (i+1):=by
    rw[IS.part_succ,<-p];cases j with
    |zero=>rfl
    |succ d=>
     unfold nT;rw[jd];intro A;refine absurd n (by
      rw[kl];rintro(h|h)
      .exact absurd (jc h) (by simp)
      .refine jc h ?_;have r:((d+1:Nat):Int)-1=(d:Int):=(by omega);rw[r];exact ja A)
   exact⟨by unfold wn;omega,i+1,⟨⟨by simp,tZ⟩,B,tZ⟩,by omega,by omega⟩
 .have h:l.length<=i:=(by have:=jc h;omega);exact⟨tZ,by rw[IS.part_isort hi.1 hi.2 h]⟩
theorem bg:gE PR 251 aX:=rX aY bt Tryz.func251 kcN koN
theorem il:eJ:=by
 unfold eJ Prod.q4;rintro⟨l,a,b,lim,⟨pre,c⟩,⟨⟩⟩ e d;obtain⟨f,g,i⟩:a=0/\b=(l.length:Int)/\l.length<=12:=e;subst f g;refine⟨by unfold wn;simp only;omega,fun _=>⟨⟨rfl,rfl,by simp only;omega⟩,d,rfl,rfl⟩,fun h=>absurd (jc h) (by simp only;omega)⟩
theorem eM:gE PR 247 eH:=rX eI il Tryz.func247 kcN (koC bg koN)
theorem uc:sA:=by
 rintro⟨l,⟨pre,c⟩,⟨⟩⟩ a b d _;have a:l.length<=12:=a;exact⟨by simp only;omega,by simp only;omega,⟨by simp only;omega,by simp only;omega⟩,⟨rfl,rfl,a⟩,b,rfl,jF (·,()) (IS.isort_sort d)⟩
theorem sC:gE PR 240 qX:=Cg uc Tryz.func240 (kcC M3 kcN) (koC eM koN)
theorem XY {l:List Int} {i:Nat} (h:i<l.length):asI (l.take (i+1))=asI (l.take i)++[(nth l i,())]:=by
 unfold asI;rw[L.wN h,zw];rfl
theorem ud:cY:=by
 unfold cY jgu jeT;rintro⟨l,⟨⟩⟩ y b;have b:l.length<4611686018427387904:=b;refine⟨⟨0,⟨⟨rfl,tZ⟩,tZ⟩,rfl,jp _⟩,fun x c=>⟨fun h=> ?_,fun h _=> ?_⟩⟩;have h:(x:Int)<l.length:=ja h;have a:x<l.length:=(by omega);have e:=XY a;unfold asI at e;simp only[jw];refine⟨by omega,h,tZ,⟨asI (l.drop (x+1)),?_⟩,⟨fun h=>(by cases h),fun _=>⟨iZ6,x+1,⟨⟨by simp,tZ⟩,tZ⟩,?_,by show x+1<=l.length;omega,by show l.length-(x+1)<l.length-x;omega⟩⟩,fun _ h=>(by cases h),fun h=>(by cases h)⟩;rw[<-e];unfold asI;rw[<-zw,z6];rw[e];have h:¬(x:Int)<l.length:=jc h;have c:x<=l.length:=c;rw[zv (by show l.length<=x;omega)]
theorem Rs {H:Imm} {lb:Array Value} {d:PD [.ref (.slice .int)]} (e:pvs PR H [.ref (.slice .int)] lb.toList d):Xs PR H [.int] (LVi d) (.func (.func 241) #[] lb):=
 Zb (C:=ctx 16 [] []) (od trivial trivial) mixed Tryz.func241 (by kernel_rfl) (by kernel_rfl) (by kernel_rfl) (by kernel_rfl) (by decide) (mb.mpr ud) (fun d l B0 R f a b c=>jcb a c) e trivial
theorem CM:iH:=by intro d;rfl
theorem xU:Jc PR 223 q8:=jce (px.mpr CM) Tryz.func223 (by kernel_rfl) (by kernel_rfl) (by kernel_rfl) (by kernel_rfl) trivial trivial
theorem jaD (l:List Int):(asI l).map (fun(x:Int×Unit)=>x.1)=l:=by
 unfold asI;rw[kJ];exact List.map_id l
theorem sD:ck:=by
 unfold ck jhL jhK jgv;intro d ⟨a,_⟩;refine⟨tZ,tZ,rfl,fun q x rest h _=>⟨?_,rfl,?_⟩,fun xs h _=>⟨(),?_⟩,fun _ _ _ _ _ h=>(by cases h)⟩;have b:=jF List.length h;simp only[zp,jG,j6] at b;have a:d.2.1.length<=12:=a;simp only[jW,zp,j6,zt];omega;simp;rw[h,jW];exact jaD d.2.1
theorem xV:eK:=fun _ a=>⟨a,fun _ h=>⟨(),h⟩⟩
theorem pA:bC:=fun d ⟨a,b,c,_⟩=>⟨⟨a,tZ⟩,fun r h=>by rw[h];exact⟨a,b,c,(),rfl⟩⟩
theorem PL {P:Program} {ρ:Env} {H:Imm} (b:ρ.H=H) {g:Nat} {t:Ty} {d:t.Data} {lb:Array Value} {w:World} {bs:List Nat} (a:dZ P H w [.ref t] lb.toList (d,()) bs):SV.den P ρ (.clo g [.ep t d]) (.func (.func g) #[] lb):=by
 subst b
 match e:lb.toList,a with
 |[],a=>exact a.elim
 |[x],⟨_,_,_,⟨c,_⟩,_⟩=>
  simp only[SV.den,SV.denL];exact⟨lb,rfl,x,[],e,c,rfl⟩
 |x::y::r,⟨_,_,_,_,h2⟩=>cases h2.1
theorem M4 {lb:Array Value} (h:lb.size=1):∃x,lb.toList=[x]:=by
 have a:lb.toList.length=1:=(by rw[j9];exact h);exact List.length_eq_one_iff.1 a
theorem UW {g n:Nat} {s:oW} (h:ROK PR g s):∀(f:Nat) (p:Nat×oW),wF [(g,n,s)] f=some p->ROK PR f p.2:=by
 intro f p a;simp only[wF] at a
 split at a
 rename_i b;have:=jb b;subst this;simp at a;subst a;exact h;cases a
theorem XZ (n:Nat):(ctx n [] []).ok PR:=od trivial trivial
theorem nK:ROK PR 246 vA:=by
 refine Up (body:=w6 Tryz.f246) (C:=ctx 13 [] []) (hk:=hkC (ctx 13 [] []) (fun _=>none) gG [] []) (XZ 13) mixed Tryz.func246 (by kernel_rfl) (by kernel_rfl) (by kernel_rfl) (fun B=>FT (XZ 13) mixed ?_ jay B) rfl (fun H w vals fl d bs c b ρ f=> ?_) (fun d=>rfl) (lc.mpr sD)
 .intro k t rs sv A L v ρ hk a p g;unfold gG at hk
  split at hk
  case h_2=>cases hk
  simp only[jy] at hk;cases hk;simp only[cj] at a
  split at a
  case h_2=>cases a
  rename_i t m
  split at a
  case h_2=>cases a
  rename_i z o;simp only[jy,Prod.mk.injEq] at a;obtain⟨rfl,rfl⟩:=a;obtain⟨e,rfl⟩:=wi o;subst e;simp only[SV.den,SV.denL] at g;obtain⟨lb,rfl,x,r,n,j,l⟩:=g;exact Rs (d:=(m,())) (by rw[n,l];exact⟨j,rfl⟩)
 .obtain⟨v,q,h,rfl,rfl,lb,s,i,rfl,rfl,_,rfl,rfl⟩:=c;obtain⟨u,y,_,⟨rfl,_⟩,b⟩:=b;rw[j8] at b;refine⟨_,_,rfl,rfl,_,_,rfl,PL f b,rfl⟩
theorem sE:ROK PR 239 yb:=by
 refine Up (body:=w6 Tryz.f239) (C:=ctx 5 [] []) (hk:=hkC (ctx 5 [] []) (fun _=>none) jam [4] [(246,20,vA)]) (XZ 5) mixed Tryz.func239 (by kernel_rfl) (by kernel_rfl) (by kernel_rfl) (fun B=>FT (XZ 5) mixed Ms (UW nK) B) rfl (fun H w vals fl d bs a c ρ b=> ?_) (fun d=>rfl) (nI.mpr xV);obtain⟨lb,f,e,rfl,rfl,_,rfl,rfl⟩:=a;rw[j8] at c;exact⟨_,_,rfl,PL b c,rfl⟩
theorem F3:(ctx 12 [] [(240,qX)]).ok PR:=od trivial ⟨sC,tZ⟩
theorem mc:ROK PR 222 vf:=by
 refine Up (body:=w6 Tryz.f222) (C:=ctx 12 [] [(240,qX)]) (hk:=hkC (ctx 12 [] [(240,qX)]) (fun _=>none) jam [7] [(239,20,yb)]) F3 mixed Tryz.func222 (by kernel_rfl) (by kernel_rfl) (by kernel_rfl)
  (fun B=>FT F3 mixed Ms (UW sE) B) rfl (fun H w vals fl d bs a e ρ c=> ?_) (fun d=>rfl) (ik.mpr pA)
 obtain⟨lb,k,g,rfl,rfl,b,v,l,h,rfl,rfl,rfl,rfl⟩:=a;obtain⟨x,f⟩:=M4 b;rw[f] at e;obtain⟨m,n,_,⟨i,_⟩,c1,c2,_,⟨j,_⟩,_⟩:=e;subst c;refine⟨_,_,rfl,⟨lb,rfl,x,[],f,i,rfl⟩,_,_,rfl,j,rfl⟩
abbrev tRo:Ty:= .st [tDy,.slice .int,.slice (.slice .int),.slice .int]
abbrev RoD:Type:=DyD×List Int×List (List Int)×List Int×Unit
namespace U
def ro (o:Option RoD):RoD:=wE (Ty.dflt tRo) o
def rd (r:RoD):DyD:=r.1
def mH (r:RoD):List Int:=r.2.1
def bn (r:RoD):List (List Int):=r.2.2.1
def jdI (r:RoD):List Int:=r.2.2.2.1
def gR (d:DyD) (b:Int):Prop:=0<=b/\b<((wm d).length:Int)
def DH (d:DyD) (l:List Int):Prop:=l.length<=12/\∀b∈l,gR d b
def E2 (d:DyD):Prop:=wo (wj d)=true/\Ii d=true/\qn d=true
def Qe (r:RoD):Prop:=E2 (rd r)/\(mH r).length=(wm (rd r)).length
def Lz (d:DyD) (p:Int):Prop:=0<=p/\p<((wd (wj d)).length:Int)
def td (d:DyD) (a b:Int):Int:=yM [cI (qP (bk d a)) (qP (bk d b)),cI a b]
def wt (d:DyD) (l:List Int):List Int:=k8 (gO d) l
def vC (d:DyD) (s:List Int) (n:Nat):Int:=Ij d (s.take n)
def Il (d:DyD) (dh:List Int) (p:Int) (s:List Int) (i:Nat):Bool:= !(decide (iP (nth dh (nth s i).toNat/2^p.toNat) 1=0)||(s.drop (i+1)).any (fun c=>decide (bi d (nth s i) c<0)))
def jby (d:DyD) (dh:List Int) (p:Int) (s:List Int):Bool:=(List.range s.length).all (Il d dh p s)&&decide (Ij d s<=YM d)
def OO (d:DyD) (dh:List Int) (p:Int) (l:List Int):Bool:=jby d dh p (wt d l)
def Lh (r:RoD) (p:Int) (l:List Int):Bool:=OO (rd r) (mH r) p l
def aH (on:List (List Int)) (b:Int) (n:Nat):Int:=(List.range n).foldl (fun s p=>if(nth on p).any (fun x=>decide (x=b))=true then bor s (1*2^p) else s) 0
def dE (on:List (List Int)) (b:Int):Int:=aH on b on.length
def DI (d:DyD) (b t:Int):Bool:=(decide (bm (wj d) (gN (bk d b)) t=0)&&decide (jbM (wj d) (gN (bk d b)) t=0))&&decide (t≠0)
end U
def ue:wO:=⟨[.val (.ptr tRo),.val .int,.val .int],[.int],false,fun d=>[d.1.isSome=true,E2 (U.rd (U.ro d.1)),gR (U.rd (U.ro d.1)) d.2.1,gR (U.rd (U.ro d.1)) d.2.2.1],fun d=>(bi (U.rd (U.ro d.1)) d.2.1 d.2.2.1,())⟩
abbrev je4 (d:Option RoD×Int×Int×Unit):=(wE ((((0:Int),[],[],()),[],[],(0:Int),(0:Int),[],()),[],[],[],()) d.1)
abbrev jfn (d:Option RoD×Int×Int×Unit):=(nth (je4 d).1.2.2.1 d.2.1.toNat)
abbrev jfy (d:Option RoD×Int×Int×Unit):=(nth (je4 d).1.2.2.1 d.2.2.1.toNat)
def uf:Prop:=∀(d:Option RoD×Int×Int×Unit),d.1.isSome=true->E2 (U.rd (U.ro d.1))->gR (U.rd (U.ro d.1)) d.2.1->gR (U.rd (U.ro d.1)) d.2.2.1->d.1.isSome=true/\0<=d.2.1/\d.2.1<(↑(je4 d).1.2.2.1.length:Int)/\d.1.isSome=true/\0<=d.2.2.1/\d.2.2.1<(↑(je4 d).1.2.2.1.length:Int)/\wn ((jfy d).2.2.1-(jfn d).2.2.2.1)/\d.1.isSome=true/\wn ((jfy d).2.2.1-(jfn d).2.2.2.1-(je4 d).1.2.2.2.1)/\d.1.isSome=true/\(0:Int)<=(jfn d).2.1/\(jfn d).2.1<(↑(je4 d).1.2.1.length:Int)/\(0:Int)<=(jfy d).2.1/\(jfy d).2.1<(↑(nth (je4 d).1.2.1 (jfn d).2.1.toNat).length:Int)/\wn ((jfy d).2.2.1-(jfn d).2.2.2.1-(je4 d).1.2.2.2.1-(nth (nth (je4 d).1.2.1 (jfn d).2.1.toNat) (jfy d).2.1.toNat).2.1)/\((jfy d).2.2.1-(jfn d).2.2.2.1-(je4 d).1.2.2.2.1-(nth (nth (je4 d).1.2.1 (jfn d).2.1.toNat) (jfy d).2.1.toNat).2.1,())=(bi (U.rd (U.ro d.1)) d.2.1 d.2.2.1,())
def qG:wO:=⟨[.val .int,.val .int,.ref (.ptr tRo)],[.int],false,fun d=>[d.2.2.1.isSome=true,gR (U.rd (U.ro d.2.2.1)) d.1,gR (U.rd (U.ro d.2.2.1)) d.2.1],fun d=>(td (U.rd (U.ro d.2.2.1)) d.1 d.2.1,())⟩
abbrev jg3 (d:Int×Int×Option RoD×Unit):=(wE ((((0:Int),[],[],()),[],[],(0:Int),(0:Int),[],()),[],[],[],()) d.2.2.1)
def nL:Prop:=∀(d:Int×Int×Option RoD×Unit),d.2.2.1.isSome=true->gR (U.rd (U.ro d.2.2.1)) d.1->gR (U.rd (U.ro d.2.2.1)) d.2.1->d.2.2.1.isSome=true/\0<=d.1/\d.1<(↑(jg3 d).1.2.2.1.length:Int)/\d.2.2.1.isSome=true/\0<=d.2.1/\d.2.1<(↑(jg3 d).1.2.2.1.length:Int)/\(yM [cI (nth (jg3 d).1.2.2.1 d.1.toNat).2.2.1 (nth (jg3 d).1.2.2.1 d.2.1.toNat).2.2.1,cI d.1 d.2.1],())=(td (U.rd (U.ro d.2.2.1)) d.1 d.2.1,())
def cZ:wO:=⟨[.val (.ptr tRo),.val (.slice .int)],[.slice .int],false,fun d=>[d.1.isSome=true,DH (U.rd (U.ro d.1)) d.2.1],fun d=>(wt (U.rd (U.ro d.1)) d.2.1,())⟩
abbrev jii (d:Option RoD×List Int×Unit):=(bM fun(a:Int×Int×Unit)=>(td (U.rd (U.ro d.1)) a.1 a.2.1,()))
def db:Prop:=∀(d:Option RoD×List Int×Unit),d.1.isSome=true->DH (U.rd (U.ro d.1)) d.2.1->(d.2.1.length<=12/\iM (fun(a:Int×Int×Unit)=>[d.1.isSome=true,gR (U.rd (U.ro d.1)) a.1,gR (U.rd (U.ro d.1)) a.2.1]) d.2.1/\vN (jii d) d.2.1/\True)/\∀(r:(List Int×Unit)×Unit),r.1.1=k8 (jii d) d.2.1->r.1=(wt (U.rd (U.ro d.1)) d.2.1,())
theorem mf:(jai (Lw 9 [(224,qG)] [] [(223,q8)] []) (fun _=>none) (hkC (Lw 9 [(224,qG)] [] [(223,q8)] []) (fun _=>none) jam [8] [(222,20,vf)]) Tryz.f209 (w6 Tryz.f209) cZ)=db:=by kernel_rfl
def ug:wO:=⟨[.val .int,.ref (.ptr tRo),.ref .int],[.bool],false,fun d=>[d.2.1.isSome=true,E2 (U.rd (U.ro d.2.1)),gR (U.rd (U.ro d.2.1)) d.1,gR (U.rd (U.ro d.2.1)) d.2.2.1],fun d=>(decide (bi (U.rd (U.ro d.2.1)) d.2.2.1 d.1<0),())⟩
def uh:Prop:=∀(d:Int×Option RoD×Int×Unit),d.2.1.isSome=true->E2 (U.rd (U.ro d.2.1))->gR (U.rd (U.ro d.2.1)) d.1->gR (U.rd (U.ro d.2.1)) d.2.2.1->d.2.1.isSome=true/\E2 (U.rd (U.ro d.2.1))/\gR (U.rd (U.ro d.2.1)) d.2.2.1/\gR (U.rd (U.ro d.2.1)) d.1/\(decide (bi (U.rd (U.ro d.2.1)) d.2.2.1 d.1<0),())=(decide (bi (U.rd (U.ro d.2.1)) d.2.2.1 d.1<0),())
def CN:wO:=⟨[.val (.ptr tRo),.val .int,.val (.slice .int)],[.bool],false,fun d=>[d.1.isSome=true,Qe (U.ro d.1),Lz (U.rd (U.ro d.1)) d.2.1,DH (U.rd (U.ro d.1)) d.2.2.1],fun d=>(Lh (U.ro d.1) d.2.1 d.2.2.1,())⟩
def CO:Ann:=fun r=>match r with
 |4=>some fun σ=>{X:=Nat,sl:=fun i=>[(16,.dat .int (i:Int)),(7,.dat .int (vC (U.rd (U.ro (gd (.ptr tRo) σ 0))) (gd (.slice .int) σ 14) i))],ob:=fun _=>[],inv:=fun i=>i<=(gd (.slice .int) σ 14).length/\∀b:Nat,b<i->Il (U.rd (U.ro (gd (.ptr tRo) σ 0))) (mH (U.ro (gd (.ptr tRo) σ 0))) (gd .int σ 1) (gd (.slice .int) σ 14) b=true,mu:=fun i=>(gd (.slice .int) σ 14).length-i}
 |_=>none
abbrev jfR (d:Option RoD×Int×List Int×Unit):=(wE ((((0:Int),[],[],()),[],[],(0:Int),(0:Int),[],()),[],[],[],()) d.1)
abbrev jeM (d:Option RoD×Int×List Int×Unit):=(U.rd (U.ro d.1))
abbrev jew (d:Option RoD×Int×List Int×Unit):=(wt (jeM d) d.2.2.1)
abbrev jf7 (d:Option RoD×Int×List Int×Unit)(x:Nat):=(iP (nth (jfR d).2.1 (nth (jew d) (x:Int).toNat).toNat/(2:Int)^d.2.1.toNat) (1:Int)=0)
abbrev jhM (d:Option RoD×Int×List Int×Unit)(x:Nat):=((nth (jfR d).1.2.2.1 (nth (jew d) (x:Int).toNat).toNat).2.2.2.1-(nth (jfR d).1.2.2.1 (nth (jew d) (x:Int).toNat).toNat).2.2.1)
abbrev jfz (d:Option RoD×Int×List Int×Unit):=(↑(jew d).length:Int)
abbrev jij (d:Option RoD×Int×List Int×Unit)(x:Nat):=(decide (jf7 d x)||(List.take ((jfz d).toNat-((x:Int)+1).toNat) (List.drop ((x:Int)+1).toNat (jew d))).any (kZ fun(a:Int×Unit)=>(decide (bi (jeM d) (nth (jew d) (x:Int).toNat) a.1<0),())))
def CP:Prop:=∀(d:Option RoD×Int×List Int×Unit),d.1.isSome=true->Qe (U.ro d.1)->Lz (jeM d) d.2.1->DH (jeM d) d.2.2.1->d.1.isSome=true/\DH (jeM d) d.2.2.1/\((jew d).length<4611686018427387904->(∃(x:Nat),((0=(x:Int)/\0=vC (jeM d) (jew d) x/\True)/\True)/\x<=(jew d).length/\∀(b:Nat),b<x->Il (jeM d) (mH (U.ro d.1)) d.2.1 (jew d) b=true)/\∀(x:Nat),(x<=(jew d).length/\∀(b:Nat),b<x->Il (jeM d) (mH (U.ro d.1)) d.2.1 (jew d) b=true)->(decide ((x:Int)<(jfz d))=true->0<=(x:Int)/\(x:Int)<(jfz d)/\d.1.isSome=true/\0<=nth (jew d) (x:Int).toNat/\nth (jew d) (x:Int).toNat<(↑(jfR d).1.2.2.1.length:Int)/\d.1.isSome=true/\0<=nth (jew d) (x:Int).toNat/\nth (jew d) (x:Int).toNat<(↑(jfR d).1.2.2.1.length:Int)/\wn (jhM d x)/\wn (vC (jeM d) (jew d) x+(jhM d x))/\d.1.isSome=true/\0<=nth (jew d) (x:Int).toNat/\nth (jew d) (x:Int).toNat<(↑(jfR d).2.1.length:Int)/\0<=d.2.1/\d.2.1<=64/\((!decide (jf7 d x))=true->wn ((x:Int)+1))/\((!decide (jf7 d x))=true->0<=(x:Int)+1)/\((!decide (jf7 d x))=true->(x:Int)+1<=(jfz d))/\((!decide (jf7 d x))=true->(jfz d)<=(jfz d))/\((!decide (jf7 d x))=true->∀(g:Int),g∈List.take ((jfz d).toNat-((x:Int)+1).toNat) (List.drop ((x:Int)+1).toNat (jew d))->wu [d.1.isSome=true,E2 (jeM d),gR (jeM d) g,gR (jeM d) (nth (jew d) (x:Int).toNat)])/\((jij d x)=true->(false,())=(Lh (U.ro d.1) d.2.1 d.2.2.1,()))/\((jij d x)=false->wn ((x:Int)+1)/\∃(a:Nat),(((x:Int)+1=(a:Int)/\vC (jeM d) (jew d) x+(jhM d x)=vC (jeM d) (jew d) a/\True)/\True)/\(a<=(jew d).length/\∀(b:Nat),b<a->Il (jeM d) (mH (U.ro d.1)) d.2.1 (jew d) b=true)/\(jew d).length-a<(jew d).length-x))/\(decide ((x:Int)<(jfz d))=false->d.1.isSome=true/\(decide (vC (jeM d) (jew d) x<=(jfR d).1.q4.1),())=(Lh (U.ro d.1) d.2.1 d.2.2.1,())))
def xW:wO:=⟨[.val (.ptr tRo),.val .int],[.int],false,fun d=>[d.1.isSome=true,(bn (U.ro d.1)).length<=60],fun d=>(dE (bn (U.ro d.1)) d.2.1,())⟩
def xX:Ann:=fun r=>match r with
 |2=>some fun σ=>{X:=Nat,sl:=fun i=>[(12,.dat .int (i:Int)),(4,.dat .int (aH (bn (U.ro (gd (.ptr tRo) σ 0))) (gd .int σ 1) i))],ob:=fun _=>[],inv:=fun i=>i<=(bn (U.ro (gd (.ptr tRo) σ 0))).length,mu:=fun i=>(bn (U.ro (gd (.ptr tRo) σ 0))).length-i}
 |_=>none
abbrev jf8 (d:Option RoD×Int×Unit):=(wE ((((0:Int),[],[],()),[],[],(0:Int),(0:Int),[],()),[],[],[],()) d.1)
abbrev jeN (d:Option RoD×Int×Unit):=(bn (U.ro d.1))
def xY:Prop:=∀(d:Option RoD×Int×Unit),d.1.isSome=true->(jeN d).length<=60->d.1.isSome=true/\((jf8 d).2.2.1.length<4611686018427387904->(∃(x:Nat),((0=(x:Int)/\0=aH (jeN d) d.2.1 x/\True)/\True)/\x<=(jeN d).length)/\∀(x:Nat),x<=(jeN d).length->(decide ((x:Int)<(jf8 d).2.2.1.length)=true->0<=(x:Int)/\(x:Int)<(jf8 d).2.2.1.length/\(((nth (jf8 d).2.2.1 (x:Int).toNat).any fun(b:Int)=>decide (b=d.2.1))=true->0<=(x:Int)/\(x:Int)<=64/\wn ((1:Int)*2^(x:Int).toNat)/\wn ((x:Int)+1)/\∃(a:Nat),(((x:Int)+1=(a:Int)/\bor (aH (jeN d) d.2.1 x) ((1:Int)*2^(x:Int).toNat)=aH (jeN d) d.2.1 a/\True)/\True)/\a<=(jeN d).length/\(jeN d).length-a<(jeN d).length-x)/\(((nth (jf8 d).2.2.1 (x:Int).toNat).any fun(b:Int)=>decide (b=d.2.1))=false->wn ((x:Int)+1)/\∃(a:Nat),((aH (jeN d) d.2.1 x=aH (jeN d) d.2.1 a/\(x:Int)+1=(a:Int)/\True)/\True)/\a<=(jeN d).length/\(jeN d).length-a<(jeN d).length-x))/\(decide ((x:Int)<(jf8 d).2.2.1.length)=false->(aH (jeN d) d.2.1 x,())=(dE (jeN d) d.2.1,())))
def xZ:wO:=⟨[.val (.ptr tRo),.val .int,.val .int],[.bool],false,fun d=>[d.1.isSome=true,gR (U.rd (U.ro d.1)) d.2.1],fun d=>(DI (U.rd (U.ro d.1)) d.2.1 d.2.2.1,())⟩
abbrev jgw (d:Option RoD×Int×Int×Unit):=(wE ((((0:Int),[],[],()),[],[],(0:Int),(0:Int),[],()),[],[],[],()) d.1)
def x7:Prop:=∀(d:Option RoD×Int×Int×Unit),d.1.isSome=true->gR (U.rd (U.ro d.1)) d.2.1->d.1.isSome=true/\d.1.isSome=true/\0<=d.2.1/\d.2.1<(↑(jgw d).1.2.2.1.length:Int)/\(decide (bm (jgw d).1.1 (nth (jgw d).1.2.2.1 d.2.1.toNat).1 d.2.2.1=0)&&decide (jbM (jgw d).1.1 (nth (jgw d).1.2.2.1 d.2.1.toNat).1 d.2.2.1=0)&&decide (d.2.2.1≠0),())=(DI (U.rd (U.ro d.1)) d.2.1 d.2.2.1,())
theorem vP {d:DyD} (h:qn d=true):(wm d).length<=4/\(1<=(wY d).length/\(wY d).length<=5)/\(0<=AB d/\AB d<=300)/\(0<=YM d/\YM d<=1440)/\(w4 d).length<=30/\
 (∀r∈wY d,cq (wY d).length r=true)/\(∀b∈wm d,mC (wY d).length b=true)/\∀s∈w4 d,mD (wm d).length (wd (wj d)).length s=true:=by
 unfold qn at h;simp only[ji,jo,jT] at h;obtain⟨⟨e,f,g,i,j,k,l,m⟩,n,a,c⟩:=h;exact⟨e,⟨f,g⟩,⟨i,j⟩,⟨k,l⟩,m,n,a,c⟩
theorem jci {d:DyD} {b:Int} (h:gR d b):U.bk d b∈wm d:=by
 unfold U.bk;exact L.we (by unfold gR at h;omega)
theorem bK {d:DyD} (h:qn d=true) {b:Int} (a:gR d b):(0<=SI (U.bk d b)/\SI (U.bk d b)<((wY d).length:Int))/\0<=qP (U.bk d b)/\qP (U.bk d b)<dI (U.bk d b)/\dI (U.bk d b)<=1440:=by
 have:=(vP h).2.2.2.2.2.2.1 _ (jci a);unfold mC at this;have:=ja this;omega
theorem sF {d:DyD} (h:qn d=true) {i:Nat} (hi:i<(wY d).length):(nth (wY d) i).length=(wY d).length/\∀j,j<(wY d).length->0<=U.lo (nth (nth (wY d) i) j)/\U.lo (nth (nth (wY d) i) j)<=U.hi (nth (nth (wY d) i) j)/\U.hi (nth (nth (wY d) i) j)<=300:=by
 have:=(vP h).2.2.2.2.2.1 _ (L.we hi);unfold cq at this;rw[ji,jo,jT] at this;refine⟨this.1,fun j b=> ?_⟩;have a:=this.2 _ (L.we (l:=nth (wY d) i) (i:=j) (by omega));unfold sZ at a;exact ja a
theorem CQ {d:DyD} (h:qn d=true) {a b:Int} (c:gR d a) (e:gR d b):0<=ON d a b/\ON d a b<=300:=by
 have f:=(bK h c).1;have g:=(bK h e).1;have:=(sF h (i:=(SI (U.bk d a)).toNat) (by omega)).2 (SI (U.bk d b)).toNat (by omega);unfold ON;omega
theorem x8:uf:=by
 unfold uf jfy jfn je4;rintro⟨(_|r),a,b,⟨⟩⟩ h c d e;cases h;obtain⟨c1,c2,c⟩:E2 (U.rd r):=c;have d:gR (U.rd r) a:=d;have e:gR (U.rd r) b:=e;have g:=bK c d;have j:=bK c e;have k:=CQ c d e;have l:=(vP c).2.2.1;have m:=(sF c (i:=(SI (U.bk (U.rd r) a)).toNat) (by omega)).1;have f:(0<=a/\a<((wm (U.rd r)).length:Int))/\0<=b/\b<((wm (U.rd r)).length:Int):=⟨d,e⟩;refine⟨rfl,f.1.1,f.1.2,rfl,f.2.1,f.2.2,?_,rfl,?_,rfl,g.1.1,g.1.2,j.1.1,?_,?_,rfl⟩;show wn (qP (U.bk (U.rd r) b)-dI (U.bk (U.rd r) a));exact iZ6;show wn (qP (U.bk (U.rd r) b)-dI (U.bk (U.rd r) a)-AB (U.rd r));exact iZ6;show SI (U.bk (U.rd r) b)<((nth (wY (U.rd r)) (SI (U.bk (U.rd r) a)).toNat).length:Int);omega;show wn (qP (U.bk (U.rd r) b)-dI (U.bk (U.rd r) a)-AB (U.rd r)-ON (U.rd r) a b);exact iZ6
theorem ui:wX PR 211 ue:=wJ x8 Tryz.func211 kcN koN
theorem pB:nL:=by
 unfold nL jg3;rintro⟨a,b,(_|r),⟨⟩⟩ e c d;cases e;have c:gR (U.rd r) a:=c;have d:gR (U.rd r) b:=d;exact⟨rfl,c.1,c.2,rfl,d.1,d.2,rfl⟩
theorem nM:wX PR 224 qG:=wJ pB Tryz.func224 (kcC yJ (kcC bJ kcN)) koN
theorem jaE (d:DyD):fW (td d):=by
 have e:td d=S0 (fun a b=>cI (qP (U.bk d a)) (qP (U.bk d b))) cI:=by
  funext a b;unfold td;rw[qk,vR];rfl
 rw[e];exact pk (oe lZ (fun a=>qP (U.bk d a))) lZ
theorem UX {d:DyD} {a b:Int} (h:td d a b=0):a=b:=by
 unfold td at h;rw[qk] at h
 split at h
 contradiction;rw[vR] at h;exact aK.1 h
theorem UY (d:DyD) (a b:Int):decide (td d a b<0)=gO d a b:=by
 unfold td gO;rw[qk,vR];refine decide_eq_decide.2 ?_;by_cases c:qP (U.bk d a)<qP (U.bk d b);have e:cI (qP (U.bk d a)) (qP (U.bk d b))= -1:=(by unfold cI;rw[je c]);rw[e];simp;omega;by_cases f:qP (U.bk d b)<qP (U.bk d a);have e:cI (qP (U.bk d a)) (qP (U.bk d b))=1:=(by unfold cI;rw[jd c,je f]);rw[e];simp;omega;have e:cI (qP (U.bk d a)) (qP (U.bk d b))=0:=(by unfold cI;rw[jd c,jd f]);rw[e];unfold cI;simp only[ne_eq,not_true_eq_false,if_false]
 split<;>(try split)<;>omega
theorem jeg (d:DyD) (l:List Int):vN (gO d) l:=by
 have:=AT (t:= .int) (jaE d) (l:=l) (fun _ _ _ _ h=>UX h);have e:(wa .int fun(x:Int×Int×Unit)=>(td d x.1 x.2.1,()))=gO d:=by
  funext a b;exact UY d a b
 rw[e] at this;exact this
theorem ltK (d:DyD):(bM fun(x:Int×Int×Unit)=>(td d x.1 x.2.1,()))=gO d:=by
 funext a b;exact UY d a b
theorem uj:db:=by
 unfold db jii;rintro⟨(_|r),l,⟨⟩⟩ c f;cases c;obtain⟨d,b⟩:DH (U.rd r) l:=f;refine⟨⟨d,fun x g y h=>⟨rfl,b x g,b y h,tZ⟩,?_,tZ⟩,fun q a=> ?_⟩;have e:=ltK (U.rd r);show vN (bM fun(x:Int×Int×Unit)=>(td (U.rd r) x.1 x.2.1,())) l;rw[e];exact jeg _ l;have e:=ltK (U.rd r);have a:q.1.1=k8 (bM fun(x:Int×Int×Unit)=>(td (U.rd r) x.1 x.2.1,())) l:=a;rw[e] at a;obtain⟨⟨q,⟨⟩⟩,⟨⟩⟩:=q;rw[show q=_ from a];rfl
theorem J4:(Lw 9 [(224,qG)] [] [(223,q8)] []).ok PR:=Mx ⟨fun _=>nM,tZ⟩ trivial ⟨xU,tZ⟩ trivial
theorem sG:wX PR 209 cZ:=
 jb9 (body:=w6 Tryz.f209) (C:=Lw 9 [(224,qG)] [] [(223,q8)] []) (hk:=hkC (Lw 9 [(224,qG)] [] [(223,q8)] []) (fun _=>none) jam [8] [(222,20,vf)]) J4 mixed Tryz.func209 (by kernel_rfl) (by kernel_rfl) (by kernel_rfl) (by decide)
  (fun B=>FT J4 mixed Ms (UW mc) B) (mf.mpr uj)
theorem x9:uh:=by
 rintro⟨b,(_|r),a,⟨⟩⟩ c f e d;cases c;exact⟨rfl,f,d,e,rfl⟩
theorem uk:wX PR 210 ug:=wJ x9 Tryz.func210 (kcC ui kcN) koN
theorem pC {d:DyD} {s:List Int} {i:Nat} (h:i<s.length):vC d s (i+1)=vC d s i+(dI (U.bk d (nth s i))-qP (U.bk d (nth s i))):=by
 unfold vC Ij;rw[L.wN h,zw,jU];rfl
theorem M5 {d:DyD} (a:qn d=true) {s:List Int} (c:∀b∈s,gR d b):∀i,i<=s.length->0<=vC d s i/\vC d s i<=1440*(i:Int)
 |0,_=>⟨zR _,zR _⟩
 |i+1,hi=>by
  have f:=M5 a c i (by omega)
  have e:=bK a (c _ (L.we (l:=s) (i:=i) (by omega)))
  rw[pC (by omega)]
  omega
theorem M6 {d:DyD} {l:List Int} {b:Int}:b∈wt d l↔b∈l:=(qa l).mem_iff
theorem M7 (d:DyD) (l:List Int):(wt d l).length=l.length:=(qa l).length_eq
theorem Ek:CP:=by
 unfold CP jij jfz jhM jf7 jew jeM jfR Prod.q4;rintro⟨(_|r),p,l,⟨⟩⟩ D v q K;cases D;obtain⟨⟨c1,c2,u⟩,v⟩:Qe r:=v;have q:Lz (U.rd r) p:=q;obtain⟨z,A⟩:DH (U.rd r) l:=K;have N:=(wU c1).2.2.1;refine⟨rfl,⟨z,A⟩,fun _=> ?_⟩;obtain⟨s,o⟩:∃s,s=wt (U.rd r) l:=⟨_,rfl⟩;have O:s.length<=12:=(by rw[o,M7];exact z);have k:∀b∈s,gR (U.rd r) b:=fun b d=>A b (by rw[o] at d;exact M6.1 d)
 have t:U.ro (some r)=r:=rfl;simp only[t,<-o];refine⟨⟨0,⟨⟨rfl,rfl,tZ⟩,tZ⟩,jp _,fun b d=>by omega⟩,fun x w=>⟨fun h=> ?_,fun h=> ?_⟩⟩;have h:(x:Int)<s.length:=ja h;have a:x<s.length:=(by omega);have d:=k _ (L.we a);have H:=bK u d;have M:=M5 u k x (by omega);have C:((x:Int)+1).toNat=x+1:=(by omega);have B:(s.drop (x+1)).take (s.length-(x+1))=s.drop (x+1):=zv (by rw[zD];omega);have I:qP (U.bk (U.rd r) (nth s x))=(nth (wm (U.rd r)) (nth s x).toNat).2.2.1:=rfl;simp only[jw,C,B];have n:(nth s x)<((mH r).length:Int):=(by rw[v];exact d.2);have m:Il (U.rd r) (mH r) p s x= !(decide (iP (nth (mH r) (nth s x).toNat/2^p.toNat) 1=0)||(s.drop (x+1)).any (fun c=>decide (bi (U.rd r) (nth s x) c<0))):=rfl;have j:((s.drop (x+1)).any (kZ fun(y:Int×Unit)=>(decide (bi (U.rd r) (nth s x) y.fst<0),())))=(s.drop (x+1)).any (fun c=>decide (bi (U.rd r) (nth s x) c<0)):=rfl;unfold Lz at q;refine⟨by omega,h,rfl,d.1,d.2,rfl,d.1,d.2,?_,?_,rfl,d.1,n,q.1,by omega,fun _=>iZ6,fun _=>by omega,fun _=>by omega,fun _=>by omega,fun _ g J=>⟨rfl,⟨c1,c2,u⟩,k g (z8 J),d,tZ⟩,fun f=> ?_,fun f=>⟨iZ6,x+1,⟨⟨by simp,(pC a).symm,tZ⟩,tZ⟩,⟨by omega,fun b G=> ?_⟩,by omega⟩⟩;show wn (dI (U.bk (U.rd r) (nth s x))-qP (U.bk (U.rd r) (nth s x)));exact iZ6;show wn (vC (U.rd r) s x+(dI (U.bk (U.rd r) (nth s x))-qP (U.bk (U.rd r) (nth s x))));exact iZ6;have f:(decide (iP (nth (mH r) (nth s x).toNat/2^p.toNat) 1=0)||((s.drop (x+1)).any (kZ fun(y:Int×Unit)=>(decide (bi (U.rd r) (nth s x) y.fst<0),()))))=true:=f;have f:Il (U.rd r) (mH r) p s x=false:=(by rw[m,<-j,f];rfl);have:Lh r p l=false:=by
  unfold Lh OO jby;rw[<-o];have:(List.range s.length).all (Il (U.rd r) (mH r) p s)=false:=by
   rw[zU];exact⟨x,by simpa using a,by rw[f];simp⟩
  rw[this];rfl
 rw[this];by_cases e:b=x;subst e;have f:(decide (iP (nth (mH r) (nth s b).toNat/2^p.toNat) 1=0)||((s.drop (b+1)).any (kZ fun(y:Int×Unit)=>(decide (bi (U.rd r) (nth s b) y.fst<0),()))))=false:=f;rw[m,<-j,f];rfl;exact w.2 b (by omega);have h:¬(x:Int)<s.length:=jc h;have a:x=s.length:=(by have:=w.1;omega);refine⟨rfl,?_⟩;have E:(List.range s.length).all (Il (U.rd r) (mH r) p s)=true:=by
  rw[jT];intro i hi;exact w.2 i (by rw[a];simpa using hi)
 have F:vC (U.rd r) s x=Ij (U.rd r) s:=by
  unfold vC;rw[a,zv (jj _)]
 rw[F];have:Lh r p l=decide (Ij (U.rd r) s<=YM (U.rd r)):=by
  unfold Lh OO jby;rw[<-o,E,Bool.true_and]
 rw[this];rfl
theorem CR:wX PR 182 CN:=vF CO Ek Tryz.func182 (kcC sG (kcC uk (kcC yG kcN))) koN
theorem CS (on:List (List Int)) (b:Int) (n:Nat):aH on b (n+1)=if(nth on n).any (fun x=>decide (x=b))=true then bor (aH on b n) (1*2^n) else aH on b n:=by
 unfold aH;rw[zg,jU];rfl
theorem mg (n:Nat):(1:Int)*2^n=2^n:=Int.one_mul _
theorem CT:xY:=by
 unfold xY jeN jf8;rintro⟨(_|r),b,⟨⟩⟩ g d;cases g;have d:(bn r).length<=60:=d;have c:U.ro (some r)=r:=rfl;refine⟨rfl,fun _=>⟨⟨0,⟨⟨rfl,rfl,tZ⟩,tZ⟩,jp _⟩,fun x f=>⟨fun h=> ?_,fun h=> ?_⟩⟩⟩;have h:(x:Int)<(bn r).length:=ja h;have e:=CS (bn r) b x;have i:BT.qz ((2:Int)^x):=BT.iw (by omega);unfold BT.qz at i;simp only[jw,c];refine⟨by omega,h,fun a=>⟨by omega,by omega,by rw[mg];exact iZ6,iZ6,x+1,⟨⟨by simp,?_,tZ⟩,tZ⟩,by omega,by omega⟩,fun a=>⟨iZ6,x+1,⟨⟨?_,by simp,tZ⟩,tZ⟩,by omega,by omega⟩⟩;rw[e];have a:((nth (bn r) x).any fun y=>decide (y=b))=true:=a;rw[je a];rw[e];have a:((nth (bn r) x).any fun y=>decide (y=b))=false:=a;rw[jd (by rw[a];simp)];have h:¬(x:Int)<(bn r).length:=jc h;have f:x<=(bn r).length:=f;rw[show x=(bn r).length by omega];rfl
theorem iI:wX PR 106 xW:=vF xX CT Tryz.func106 (kcC cX kcN) koN
theorem CU:x7:=by
 unfold x7 jgw;rintro⟨(_|r),b,t,⟨⟩⟩ c a;cases c;have a:gR (U.rd r) b:=a;exact⟨rfl,rfl,a.1,a.2,rfl⟩
theorem Aa:wX PR 107 xZ:=wJ CU Tryz.func107 (kcC MQ kcN) koN
theorem pD {l:List ShD} {s:ShD}:s∈qe l↔s∈l:=by
 have e:qe l=bu (fun a b=>decide (a=b)) (k8 (wa tSh fun x=>(di x.1 x.2.1,())) l):=by
  unfold qe;congr 1
 rw[e,L.comp_mem];exact(qa l).mem_iff
theorem J5 (l:List ShD):(qe l).Nodup:=by
 have e:qe l=bu (fun a b=>decide (a=b)) (k8 (wa tSh fun x=>(di x.1 x.2.1,())) l):=by
  unfold qe;congr 1
 rw[e];refine L.asc_nodup (lt:=wa tSh fun x=>(di x.1 x.2.1,())) (fun x=> ?_) (L.comp_asc (XV _) (bU (XV l)));exact(XV [x]).irrefl x (kU.2 rfl)
theorem Zg (l:List ShD):∀i,i<=l.length->∀k,wH 0 (wx .int k (yC [] l i))=(((l.take i).countP (fun s=>decide (yY s=k)):Nat):Int)
 |0,_,k=>rfl
 |i+1,hi,k=>by
  have a:=Zg l i (by omega)
  rw[eE (by omega),L.wN (by omega),zQ]
  unfold nj
  by_cases e:k=yY (nth l i)
  rw[e]
  rw[M.pR (kt:= .int) (yY (nth l i)) (wH 0 (wx .int (yY (nth l i)) (yC [] l i))+1) (yC [] l i)]
  show wH 0 (wx .int (yY (nth l i)) (yC [] l i))+1=_
  rw[a]
  simp
  rw[M.dH (kt:= .int) (k:=yY (nth l i)) (k':=k) e (wH 0 (wx .int (yY (nth l i)) (yC [] l i))+1) (yC [] l i),a]
  have:decide (yY (nth l i)=k)=false:=zm fun h=>e h.symm
  simp[this]
theorem PM {l:List ShD} {i:Nat} (h:i<l.length):tb [] l i=(l.take i).any (fun s=>decide (yY s=yY (nth l i))):=by
 unfold tb Qd;rw[<-eE h,Zg l (i+1) (by omega),L.wN h,zQ];rw[jX,jo,zb];have b:List.countP (fun s=>decide (yY s=yY (nth l i))) [nth l i]=1:=(by simp);rw[b];constructor;intro a;have:0<(l.take i).countP (fun s=>decide (yY s=yY (nth l i))):=(by omega);rw[List.countP_pos_iff] at this;exact this;intro a;have:0<(l.take i).countP (fun s=>decide (yY s=yY (nth l i))):=List.countP_pos_iff.2 a;omega
theorem jaF (l:List ShD):S2 l=false↔(l.map yY).Nodup:=by
 have g:S2 l=false↔∀i,i<l.length->tb [] l i=false:=by
  unfold S2;constructor;intro h i hi;cases k:tb [] l i with
  |false=>rfl
  |true=>
   exfalso;have b:(List.range l.length).findIdx? (tb [] l)≠none:=by
    intro f;rw[ku] at f;have:=f i (jE.2 hi);rw[k] at this;cases this
   unfold mG yZ at h;cases d:(List.range l.length).findIdx? (tb [] l) with
   |none=>exact b d
   |some j=>
    rw[d] at h;have h:=jc h;exact h (j7 j)
  intro h;rw[(FZ h).1];rfl
 rw[g,kP,kg,zB];constructor;intro h i j hi a m e;have:=h j a;rw[PM a,zj] at this;have c:=this (l[i]) (by rw[zc];exact⟨i,by omega,rfl⟩);rw[L.qb a] at c;simp[e] at c;intro h i hi;rw[PM hi,zj];intro s b;rw[zc] at b;obtain⟨j,a,rfl⟩:=b;have:=h j i (by omega) hi (by omega);rw[L.qb hi];simpa using this
theorem UZ (l:List ShD):S2 (qe l)=false↔∀a∈l,∀b∈l,yY a=yY b->a=b:=by
 rw[jaF];constructor;intro h a c b d e;exact L.nodup_inj h (pD.2 c) (pD.2 d) e;intro h;rw[kP,kg];exact(List.Pairwise.imp_of_mem (fun{a b} c d f e=>f (h a (pD.1 c) b (pD.1 d) e)) (J5 l))
theorem U0 (l:List ShD):bD l=false↔∀a∈l,∀b∈l,yY a=yY b->a=b:=by
 have k:bD l=false↔∀i,i<l.length->∀j,j<i->DF (nth l i) (nth l j)=false:=by
  unfold bD aa AW;rw[zj];constructor;intro h i hi j d;have:=h i (jE.2 hi);rw[zZ,zj] at this;have:=this (nth l j) (by rw[zc];exact⟨j,by omega,(L.qb (by omega)).symm⟩);simpa using this;intro h i hi;have hi:=jE.1 hi;rw[zZ,zj];intro s g;rw[zc] at g;obtain⟨j,d,rfl⟩:=g;have:=h i hi j (by omega);rw[L.qb (l:=l) (i:=j) (by omega)] at this;simpa using this
 rw[k];have f:∀a b:ShD,DF a b=false↔(yY a=yY b->a=b):=by
  intro a b;unfold DF;rw[kl];simp only[jH,ze,jo];constructor;rintro(h|h) e;exact absurd e h;exact h;intro h;by_cases e:yY a=yY b;exact .inr (h e);exact .inl e
 constructor;intro h a m b n e;obtain⟨i,hi,rfl⟩:=L.mem_iff.1 m;obtain⟨j,d,rfl⟩:=L.mem_iff.1 n;rcases kG i j with c|rfl|c;exact((f _ _).1 (h j d i c) e.symm).symm;rfl;exact(f _ _).1 (h i hi j c) e;intro h i hi j d;exact(f _ _).2 (h _ (L.we hi) _ (L.we (by omega)))
theorem U1 (l:List ShD):S2 (qe l)=bD l:=by
 have:=(UZ l).trans (U0 l).symm;cases a:S2 (qe l) with
 |false=>exact(this.1 a).symm
 |true=>
  cases b:bD l with
  |false=>rw[this.2 b] at a;cases a
  |true=>rfl
theorem de (d:DyD):w5 d=gQ d:=by
 unfold w5 uK gQ;rw[U1]
 split
 rfl
 split
 rfl;rw[jd (by simp)]
abbrev tSt:Ty:= .st [.int,.int]
abbrev jdc:Sh:= .box 168 [.dat .int,.dat (.slice tPe),.dat (.slice tLw),.dat (.slice (.slice tSp)),.dat (.slice tBk),.dat .int,.dat .int,.dat (.slice tSh),.row 3 .int .yes,.row 31 (.slice .int) .no,.row 3 .int .unk]
namespace U
def noI:List Int:=[]
def yn (b:jdc.D):RoD:=(((b.1,b.2.1,b.2.2.1,()),b.2.2.2.1,b.2.2.2.2.1,b.2.2.2.2.2.1,b.2.2.2.2.2.2.1,b.2.2.2.2.2.2.2.1,()),b.2.2.2.2.2.2.2.2.1,b.2.2.2.2.2.2.2.2.2.1,b.2.2.2.2.2.2.2.2.2.2.1,())
def AC (b:jdc.D) (x:List (List Int)×List Int):jdc.D:=(b.1,b.2.1,b.2.2.1,b.2.2.2.1,b.2.2.2.2.1,b.2.2.2.2.2.1,b.2.2.2.2.2.2.1,b.2.2.2.2.2.2.2.1,b.2.2.2.2.2.2.2.2.1,x.1,x.2,())
def fc (s:ShD):Int×Int×Unit:=(lm s,gP s,())
def qU (l:List ShD) (n:Nat):List ((Int×Int×Unit)×ShD):=(l.take n).foldl (fun m s=>fu tSt (fc s) s m) []
def yd (m:List ((Int×Int×Unit)×ShD)) (s:ShD):Bool:= !(!decide (wH (Ty.dflt tSh) (wx tSt (fc s) m)=s)|| !decide (Ww s=1))
def Li (d:DyD) (dh:List Int) (m:List ((Int×Int×Unit)×ShD)) (x:List (List Int)×List Int) (s:ShD):List (List Int)×List Int:=
 if yd m s=true then(if OO d dh (gP s) (nth x.1 (gP s).toNat++[lm s])=true then(x.1.set (gP s).toNat (nth x.1 (gP s).toNat++[lm s]),x.2) else(x.1,x.2++[yY s])) else x
def jel (l:List ShD):List ShD:=k8 (wa tSh fun x=>(ww x.1 x.2.1,())) l
def q9 (d:DyD):List ShD:=jel (qe (w4 d))
def yi (r:RoD) (l:List ShD) (n:Nat):List (List Int)×List Int:=(l.take n).foldl (Li (rd r) (mH r) (qU l l.length)) (bn r,jdI r)
def bv (r:RoD):List (List Int)×List Int:=((yi r (q9 (rd r)) (q9 (rd r)).length).1,DE (yi r (q9 (rd r)) (q9 (rd r)).length).2)
def jbz (l:List (List Int)):Prop:=∀x∈l,x=noI
def YN (r:RoD):Prop:=(w5 (rd r)=0/\(mH r).length=(wm (rd r)).length)/\((bn r).length=(wd (wj (rd r))).length/\jbz (bn r))/\jdI r=noI
def dl (r:RoD) (l:List ShD) (n:Nat) (x:List (List Int)×List Int):Prop:=x.1.length=(wd (wj (rd r))).length/\x.2.length<=n/\∀p:Nat,(nth x.1 p).Nodup/\∀b∈nth x.1 p,gR (rd r) b/\∃i:Nat,i<n/\fc (nth l i)=(b,(p:Int),())/\wH (Ty.dflt tSh) (wx tSt (fc (nth l i)) (qU l l.length))=nth l i
end U
def bx (σ:St) (o:Nat):List SV:=match σ.obj o with|some (.box _ _ cs)=>cs|_=>[]
def gb (t:Ty) (σ:St) (o:Nat):t.Data:=match yH σ t (bx σ o) with|some (x,_)=>x|none=>t.dflt
abbrev El:qS:=Us 3
def ul:qS:=⟨[.own jdc true],[],fun d=>[YN (yn d.1)],fun d=>((),(AC d.1 (bv (yn d.1)),()))⟩
def um:Ann:=fun r=>match r with
 |4=>some fun σ=>{X:=Nat,sl:=fun i=>[(20,.dat .int (i:Int))],ob:=fun i=>[(9,some (.map false tSt tSh (qU (gr tSh σ 3) i)))],inv:=fun i=>i<=(gr tSh σ 3).length,mu:=fun i=>(gr tSh σ 3).length-i}
 |9=>some fun σ=>{X:=Nat,sl:=fun i=>[(34,.dat .int (i:Int))],ob:=fun i=>[(400009,some (.row 31 (.slice .int) false .no (yi (gb tRo σ 1000000) (gr tSh σ 3) i).1)),(400010,some (.row 3 .int false .unk (yi (gb tRo σ 1000000) (gr tSh σ 3) i).2))],inv:=fun i=>i<=(gr tSh σ 3).length/\dl (gb tRo σ 1000000) (gr tSh σ 3) i (yi (gb tRo σ 1000000) (gr tSh σ 3) i),mu:=fun i=>(gr tSh σ 3).length-i}
 |_=>none
abbrev jeF (d:(Int×List PeD×List LwD×List (List (Int×Int×Unit))×List BkD×Int×Int×List ShD×List Int×List (List Int)×List Int×Unit)×Unit):=(((d.1.1,d.1.2.1,d.1.2.2.1,()),d.1.2.2.2.1,d.1.q4.1,d.1.q4.2.1,d.1.q4.2.2.1,d.1.q4.2.2.2.1,()),d.1.q4.q4)
abbrev jg4:=(Ty.int.pair (Ty.int.pair Ty.unit))
abbrev jik:=(wa (Ty.int.pair (Ty.int.pair (Ty.int.pair jg4))) fun(a:ShD×ShD×Unit)=>(ww a.1 a.2.1,()))
abbrev jep (d:(Int×List PeD×List LwD×List (List (Int×Int×Unit))×List BkD×Int×Int×List ShD×List Int×List (List Int)×List Int×Unit)×Unit):=(k8 jik (qe d.1.q4.2.2.2.1))
abbrev jet (d:(Int×List PeD×List LwD×List (List (Int×Int×Unit))×List BkD×Int×Int×List ShD×List Int×List (List Int)×List Int×Unit)×Unit)(a:Nat):=(nth (jep d) (a:Int).toNat)
abbrev jex (d:(Int×List PeD×List LwD×List (List (Int×Int×Unit))×List BkD×Int×Int×List ShD×List Int×List (List Int)×List Int×Unit)×Unit)(a:Nat):=(yi (jeF d) (jep d) a)
abbrev jf9 (d:(Int×List PeD×List LwD×List (List (Int×Int×Unit))×List BkD×Int×Int×List ShD×List Int×List (List Int)×List Int×Unit)×Unit)(a:Nat):=(some (((d.1.1,d.1.2.1,d.1.2.2.1,()),d.1.2.2.2.1,d.1.q4.1,d.1.q4.2.1,d.1.q4.2.2.1,d.1.q4.2.2.2.1,()),d.1.q4.q4.1,(jex d a).1,(jex d a).2,()))
abbrev jil:=((0:Int),(0:Int),(0:Int),(0:Int),(0:Int),())
def uo:Prop:=∀(d:(Int×List PeD×List LwD×List (List (Int×Int×Unit))×List BkD×Int×Int×List ShD×List Int×List (List Int)×List Int×Unit)×Unit),YN (yn d.1)->d.1.q4.2.2.2.1.length<=100000/\(∀(c:ShD),c∈qe d.1.q4.2.2.2.1->∀(y:ShD),y∈qe d.1.q4.2.2.2.1->wu [])/\vN jik (qe d.1.q4.2.2.2.1)/\((jep d).length<4611686018427387904->(∃(x:Nat),((0=(x:Int)/\True)/\[]=qU (jep d) x/\True)/\x<=(jep d).length)/\∀(x:Nat),x<=(jep d).length->(decide ((x:Int)<(jep d).length)=true->0<=(x:Int)/\(x:Int)<(jep d).length/\wn ((x:Int)+1)/\∃(b:Nat),(((x:Int)+1=(b:Int)/\True)/\fu jg4 (nth (jep d) (x:Int).toNat).2.2.2 (nth (jep d) (x:Int).toNat) (qU (jep d) x)=qU (jep d) b/\True)/\b<=(jep d).length/\(jep d).length-b<(jep d).length-x)/\(decide ((x:Int)<(jep d).length)=false->(jep d).length<4611686018427387904->(∃(x:Nat),((0=(x:Int)/\True)/\d.1.q4.q4.2.1=(yi (jeF d) (jep d) x).1/\d.1.q4.q4.2.2.1=(yi (jeF d) (jep d) x).2/\True)/\x<=(jep d).length/\dl (jeF d) (jep d) x (yi (jeF d) (jep d) x))/\∀(a:Nat),a<=(jep d).length/\dl (jeF d) (jep d) a (jex d a)->(decide ((a:Int)<(jep d).length)=true->0<=(a:Int)/\(a:Int)<(jep d).length/\((!decide (wH jil (wx jg4 (jet d a).2.2.2 (qU (jep d) x))=nth (jep d) (a:Int).toNat)||decide ((jet d a).2.2.1≠1))=true->wn ((a:Int)+1)/\∃(b:Nat),(((a:Int)+1=(b:Int)/\True)/\(jex d a).2=(yi (jeF d) (jep d) b).2/\(jex d a).1=(yi (jeF d) (jep d) b).1/\True)/\(b<=(jep d).length/\dl (jeF d) (jep d) b (yi (jeF d) (jep d) b))/\(jep d).length-b<(jep d).length-a)/\((!decide (wH jil (wx jg4 (jet d a).2.2.2 (qU (jep d) x))=nth (jep d) (a:Int).toNat)||decide ((jet d a).2.2.1≠1))=false->(0:Int)<=(jet d a).q4.1/\(jet d a).q4.1<(↑(jex d a).1.length:Int)/\(0:Int)<=(jet d a).q4.1/\(jet d a).q4.1<(↑(jex d a).1.length:Int)/\(0:Int)<=(jet d a).q4.1/\(jet d a).q4.1<(↑(jex d a).1.length:Int)/\(↑(nth (jex d a).1 (jet d a).q4.1.toNat).length:Int)=(nth (jex d a).1 (jet d a).q4.1.toNat).length/\(↑(nth (jex d a).1 (jet d a).q4.1.toNat).length:Int)=(nth (jex d a).1 (jet d a).q4.1.toNat).length/\((nth (jex d a).1 (jet d a).q4.1.toNat).length+[(jet d a).2.2.2.1].length)*8<=140737488355328/\(jf9 d a).isSome=true/\Qe (U.ro (jf9 d a))/\Lz (U.rd (U.ro (jf9 d a))) (jet d a).q4.1/\DH (U.rd (U.ro (jf9 d a))) (nth (jex d a).1 (jet d a).q4.1.toNat++[(jet d a).2.2.2.1])/\(Lh (U.ro (jf9 d a)) (jet d a).q4.1 (nth (jex d a).1 (jet d a).q4.1.toNat++[(jet d a).2.2.2.1])=true->(0:Int)<=(jet d a).q4.1/\(jet d a).q4.1<(↑(jex d a).1.length:Int)/\wn ((a:Int)+1)/\∃(b:Nat),(((a:Int)+1=(b:Int)/\True)/\(jex d a).2=(yi (jeF d) (jep d) b).2/\(jex d a).1.set (jet d a).q4.1.toNat (nth (jex d a).1 (jet d a).q4.1.toNat++[(jet d a).2.2.2.1])=(yi (jeF d) (jep d) b).1/\True)/\(b<=(jep d).length/\dl (jeF d) (jep d) b (yi (jeF d) (jep d) b))/\(jep d).length-b<(jep d).length-a)/\(Lh (U.ro (jf9 d a)) (jet d a).q4.1 (nth (jex d a).1 (jet d a).q4.1.toNat++[(jet d a).2.2.2.1])=false->((jex d a).2.length+[(jet d a).1].length)*8<=140737488355328/\wn ((a:Int)+1)/\∃(b:Nat),(((a:Int)+1=(b:Int)/\True)/\(jex d a).1=(yi (jeF d) (jep d) b).1/\(d.1.1=d.1.1/\d.1.2.1=d.1.2.1/\d.1.2.2.1=d.1.2.2.1/\d.1.2.2.2.1=d.1.2.2.2.1/\d.1.q4.1=d.1.q4.1/\d.1.q4.2.1=d.1.q4.2.1/\d.1.q4.2.2.1=d.1.q4.2.2.1/\d.1.q4.2.2.2.1=d.1.q4.2.2.2.1/\True/\True/\True/\True)/\(jex d a).2++[(jet d a).1]=(yi (jeF d) (jep d) b).2/\True)/\(b<=(jep d).length/\dl (jeF d) (jep d) b (yi (jeF d) (jep d) b))/\(jep d).length-b<(jep d).length-a)))/\(decide ((a:Int)<(jep d).length)=false->()=()/\((d.1.1,d.1.2.1,d.1.2.2.1,d.1.2.2.2.1,d.1.q4.1,d.1.q4.2.1,d.1.q4.2.2.1,d.1.q4.2.2.2.1,d.1.q4.q4.1,(jex d a).1,DE (jex d a).2,()),())=(AC d.1 (bv (yn d.1)),()))))
theorem gi {d:DyD} (h:w5 d=0):E2 d/\∀a∈w4 d,∀b∈w4 d,yY a=yY b->a=b:=by
 unfold w5 uK at h;cases c:wo (wj d) with
 |false=>rw[c] at h;simp at h
 |true=>
  cases e:Ii d with
  |false=>rw[c,e] at h;simp at h
  |true=>
   cases f:qn d with
   |false=>rw[c,e,f] at h;simp at h
   |true=>
    cases g:S2 (qe (w4 d)) with
    |true=>rw[c,e,f,g] at h;simp at h
    |false=>exact⟨⟨c,e,f⟩,(UZ _).1 g⟩
theorem jaG:fW ww:=by
 have e:ww=S0 (fun a b=>cI (DR a) (DR b)) (fun a b=>cI (yY a) (yY b)):=by
  funext a b;unfold ww;rw[qk,vR];rfl
 rw[e];exact pk (oe lZ DR) (oe lZ yY)
theorem U2 {a b:ShD} (h:ww a b=0):yY a=yY b:=by
 unfold ww at h;rw[qk,vR] at h
 split at h
 contradiction;exact aK.1 h
theorem jdX {d:DyD} (h:w5 d=0):vN (wa tSh fun x=>(ww x.1 x.2.1,())) (qe (w4 d)):=
 AT jaG (fun a b e f c=>(gi h).2 a (pD.1 e) b (pD.1 f) (U2 c))
theorem im {d:DyD} {s:ShD}:s∈q9 d↔s∈w4 d:=((qa _).mem_iff).trans pD
theorem eN (d:DyD):(q9 d).Nodup:=(qa _).nodup_iff.2 (J5 _)
theorem jaH (d:DyD):(q9 d).length<=(w4 d).length:=by
 unfold q9 jel;rw[(qa _).length_eq];exact US _
theorem mZ {d:DyD} (h:qn d=true) {s:ShD} (a:s∈w4 d):(0<=gP s/\gP s<((wd (wj d)).length:Int))/\gR d (lm s):=by
 have:=(vP h).2.2.2.2.2.2.2 _ a;unfold mD at this;have:=ja this;unfold gR;omega
theorem CV {l:List ShD} {i:Nat} (h:i<l.length):qU l (i+1)=fu tSt (fc (nth l i)) (nth l i) (qU l i):=by
 unfold qU;rw[L.wN h,jU];rfl
theorem sH {r:RoD} {l:List ShD} {i:Nat} (h:i<l.length):yi r l (i+1)=Li (U.rd r) (mH r) (qU l l.length) (yi r l i) (nth l i):=by
 unfold yi;rw[L.wN h,jU];rfl
theorem jdw {d:DyD} {l:List Int} (c:l.Nodup) (a:∀b∈l,gR d b):l.length<=(wm d).length:=by
 have:=L.nodup_len l ((List.range (wm d).length).map (fun(b:Nat)=>(b:Int))) c (fun x e=>by
  have:=a x e;unfold gR at this;exact jZ.2 ⟨x.toNat,jE.2 (by omega),by omega⟩)
 simpa using this
section
variable {r:RoD} {l:List ShD} {i:Nat}
theorem U3 (t:qn (U.rd r)=true) (u:∀s∈l,s∈w4 (U.rd r)) (nd:l.Nodup) (h:i<l.length) {x:List (List Int)×List Int} (w:dl (U.rd r,mH r,bn r,jdI r,()) l i x)
 (g:yd (qU l l.length) (nth l i)=true):(nth x.1 (gP (nth l i)).toNat++[lm (nth l i)]).Nodup/\(∀b∈nth x.1 (gP (nth l i)).toNat++[lm (nth l i)],gR (U.rd r) b)/\
  ∀b∈nth x.1 (gP (nth l i)).toNat++[lm (nth l i)],∃j:Nat,j<i+1/\fc (nth l j)=(b,((gP (nth l i)).toNat:Int),())/\wH (Ty.dflt tSh) (wx tSt (fc (nth l j)) (qU l l.length))=nth l j:=by
 obtain⟨z,A,p⟩:=w;have v:=mZ t (u _ (L.we h));have d:wH (Ty.dflt tSh) (wx tSt (fc (nth l i)) (qU l l.length))=nth l i:=by
  unfold yd at g;simp only[jQ,jN,ze,jo] at g;exact g.1
 have n:((gP (nth l i)).toNat:Int)=gP (nth l i):=(by omega);obtain⟨y,k⟩:=p (gP (nth l i)).toNat;refine⟨?_,fun b c=> ?_,fun b c=> ?_⟩;refine zG.2 ⟨y,by simp,fun a q b c e=> ?_⟩;simp at c;subst c;subst e;obtain⟨_,j,m,f,e2⟩:=k _ q;rw[n] at f;have o:fc (nth l j)=fc (nth l i):=f;rw[o,d] at e2;have:=(kP.1 nd);rw[zB] at this;refine this j i (by omega) h m ?_;rw[<-L.qb,<-L.qb h];exact e2.symm;rcases jr.1 c with c|c;exact(k b c).1;simp at c;subst c;exact v.2;rcases jr.1 c with c|c;obtain⟨_,j,m,f,e2⟩:=k b c;exact⟨j,by omega,f,e2⟩;simp at c;subst c;exact⟨i,by omega,by rw[n];rfl,d⟩
theorem U4 {r:RoD} {x:List (List Int)×List Int} (a:dl r l i x):dl r l (i+1) x:=
 ⟨a.1,by have:=a.2.1;omega,fun p=>⟨(a.2.2 p).1,fun b c=>⟨((a.2.2 p).2 b c).1,by
  obtain⟨j,d,e⟩:=((a.2.2 p).2 b c).2
  exact⟨j,by omega,e⟩⟩⟩⟩
theorem Zh (g:qn (U.rd r)=true) (j:∀s∈l,s∈w4 (U.rd r)) (nd:l.Nodup) (h:i<l.length) {x:List (List Int)×List Int} (a:dl r l i x):
 dl r l (i+1) (Li (U.rd r) (mH r) (qU l l.length) x (nth l i)):=by
 unfold Li;cases k:yd (qU l l.length) (nth l i) with
 |false=>rw[jd (by simp)];exact U4 a
 |true=>
  rw[je rfl];have d:=U3 g j nd h a k;have m:=mZ g (j _ (L.we h))
  split
  refine⟨by show(x.1.set _ _).length=_;rw[zM];exact a.1,by have:=a.2.1;show x.2.length<=_;omega,fun p=> ?_⟩;have c:(gP (nth l i)).toNat<x.1.length:=(by rw[a.1];omega);show(nth (x.1.set (gP (nth l i)).toNat (nth x.1 (gP (nth l i)).toNat++[lm (nth l i)])) p).Nodup/\_;rw[L.gj c]
  split
  rename_i e;subst e;exact⟨d.1,fun b f=>⟨d.2.1 b f,d.2.2 b f⟩⟩;exact(U4 a).2.2 p;refine⟨a.1,?_,(U4 a).2.2⟩;have:=a.2.1;show(x.2++[yY (nth l i)]).length<=_;rw[jG];simp;omega
end
theorem PN {l:List (List Int)} (h:jbz l) (p:Nat):nth l p=[]:=by
 by_cases a:p<l.length;exact h _ (L.we a);unfold nth;rw[zf,List.getElem?_eq_none (by omega)];rfl
theorem U5 {r:RoD} {l:List ShD} (a:(bn r).length=(wd (wj (U.rd r))).length) (c:jbz (bn r)) (d:jdI r=U.noI):dl r l 0 (yi r l 0):=by
 refine⟨a,?_,fun p=> ?_⟩;show(jdI r).length<=0;rw[d];exact jj 0;have e:nth (yi r l 0).1 p=[]:=PN c p;rw[e];exact⟨kV,fun b f=>by cases f⟩
theorem jcj (m:List ((Int×Int×Unit)×ShD)) (s:ShD):yd m s= !(!decide (wH (Ty.dflt tSh) (wx tSt (fc s) m)=s)||decide (Ww s≠1)):=by
 unfold yd;by_cases h:Ww s=1<;>simp[h]
section
variable {r:RoD} {l:List ShD} {i:Nat}
theorem PO (h:i<l.length) (a:yd (qU l l.length) (nth l i)=false):yi r l (i+1)=yi r l i:=by
 rw[sH h];unfold Li;rw[a,jd (by simp)]
theorem U6 (h:i<l.length) (a:yd (qU l l.length) (nth l i)=true) (b:OO (U.rd r) (mH r) (gP (nth l i)) (nth (yi r l i).1 (gP (nth l i)).toNat++[lm (nth l i)])=true):
 yi r l (i+1)=((yi r l i).1.set (gP (nth l i)).toNat (nth (yi r l i).1 (gP (nth l i)).toNat++[lm (nth l i)]),(yi r l i).2):=by
 rw[sH h];unfold Li;rw[a,je rfl,je b]
theorem Zi (h:i<l.length) (a:yd (qU l l.length) (nth l i)=true) (b:OO (U.rd r) (mH r) (gP (nth l i)) (nth (yi r l i).1 (gP (nth l i)).toNat++[lm (nth l i)])=false):
 yi r l (i+1)=((yi r l i).1,(yi r l i).2++[yY (nth l i)]):=by
 rw[sH h];unfold Li;rw[a,je rfl,b,jd (by simp)]
end
theorem Ab:uo:=by
 unfold uo jil jf9 jex jet jep jik jg4 jeF Prod.q4;rintro⟨b,⟨⟩⟩ J;obtain⟨⟨hk,N⟩,⟨O,B⟩,C⟩:YN (yn b):=J;have F:=(gi hk).1;have u:=F.2.2;have v:(w4 (U.rd (yn b))).length<=30:=(vP u).2.2.2.2.1;have H:b.2.2.2.2.2.2.2.1.length<=30:=v;have M:(q9 (U.rd (yn b))).length<=30:=jD (jaH _) v;have g:∀s∈q9 (U.rd (yn b)),s∈w4 (U.rd (yn b)):=fun s D=>im.1 D
 have w:=eN (U.rd (yn b));have K:(wm (U.rd (yn b))).length<=4:=(vP u).1;refine⟨by show b.2.2.2.2.2.2.2.1.length<=100000;omega,fun _ _ _ _=>tZ,jdX hk,fun _=>⟨⟨0,⟨⟨rfl,tZ⟩,rfl,tZ⟩,jp _⟩,fun x I=>⟨fun h=> ?_,fun h _=>⟨⟨0,⟨⟨rfl,tZ⟩,rfl,rfl,tZ⟩,jp _,U5 (r:=yn b) O B C⟩,fun y n=>⟨fun t=> ?_,fun t=> ?_⟩⟩⟩⟩⟩;have h:(x:Int)<(q9 (U.rd (yn b))).length:=ja h;have D:=CV (l:=q9 (U.rd (yn b))) (i:=x) (by omega);exact⟨by omega,h,iZ6,x+1,⟨⟨by simp,tZ⟩,D.symm,tZ⟩,by show x+1<=(q9 (U.rd (yn b))).length;omega,by show(q9 (U.rd (yn b))).length-(x+1)<(q9 (U.rd (yn b))).length-x;omega⟩;have I:x<=(q9 (U.rd (yn b))).length:=I;have h:¬(x:Int)<(q9 (U.rd (yn b))).length:=jc h;have E:x=(q9 (U.rd (yn b))).length:=(by omega);have t:(y:Int)<(q9 (U.rd (yn b))).length:=ja t;have a:y<(q9 (U.rd (yn b))).length:=(by omega);obtain⟨_,e⟩:y<=(q9 (U.rd (yn b))).length/\dl (yn b) (q9 (U.rd (yn b))) y (yi (yn b) (q9 (U.rd (yn b))) y):=n;have c:=Zh (r:=yn b) u g w a e;rw[<-sH a] at c;have up:y+1<=(q9 (U.rd (yn b))).length:=a;have A:(q9 (U.rd (yn b))).length-(y+1)<(q9 (U.rd (yn b))).length-y:=(by omega);have q:=mZ u (g _ (L.we a));have o:=jcj (qU (q9 (U.rd (yn b))) (q9 (U.rd (yn b))).length) (nth (q9 (U.rd (yn b))) y);subst E;refine⟨by omega,t,fun p=> ?_,fun p=> ?_⟩;have f:yd (qU (q9 (U.rd (yn b))) (q9 (U.rd (yn b))).length) (nth (q9 (U.rd (yn b))) y)=false:=by
  rw[o];have p:(!decide (wH (Ty.dflt tSh) (wx tSt (fc (nth (q9 (U.rd (yn b))) y)) (qU (q9 (U.rd (yn b))) (q9 (U.rd (yn b))).length))=nth (q9 (U.rd (yn b))) y)||decide (Ww (nth (q9 (U.rd (yn b))) y)≠1))=true:=p;rw[p];rfl
 have d:=PO (r:=yn b) a f;exact⟨iZ6,y+1,⟨⟨by simp,tZ⟩,jF (·.2) d.symm,jF (·.1) d.symm,tZ⟩,⟨up,c⟩,A⟩;have f:yd (qU (q9 (U.rd (yn b))) (q9 (U.rd (yn b))).length) (nth (q9 (U.rd (yn b))) y)=true:=by
  rw[o];have p:(!decide (wH (Ty.dflt tSh) (wx tSt (fc (nth (q9 (U.rd (yn b))) y)) (qU (q9 (U.rd (yn b))) (q9 (U.rd (yn b))).length))=nth (q9 (U.rd (yn b))) y)||decide (Ww (nth (q9 (U.rd (yn b))) y)≠1))=false:=p;rw[p];rfl
 have j:=U3 (r:=yn b) u g w a e f;have z:=jdw j.1 j.2.1;have G:(nth (yi (yn b) (q9 (U.rd (yn b))) y).1 (gP (nth (q9 (U.rd (yn b))) y)).toNat).length<=4:=by
  rw[jG] at z;omega
 have k:0<=gP (nth (q9 (U.rd (yn b))) y):=q.1.1;have m:gP (nth (q9 (U.rd (yn b))) y)<((yi (yn b) (q9 (U.rd (yn b))) y).1.length:Int):=(by rw[e.1];exact q.1.2);have P:=e.2.1;refine⟨k,m,k,m,k,m,rfl,rfl,?_,rfl,⟨F,N⟩,q.1,⟨jD z (by omega),j.2.1⟩,fun n=> ?_,fun n=> ?_⟩;show((nth (yi (yn b) (q9 (U.rd (yn b))) y).1 (gP (nth (q9 (U.rd (yn b))) y)).toNat).length+1)*8<=140737488355328;omega;have d:=U6 (r:=yn b) a f n;exact⟨k,m,iZ6,y+1,⟨⟨by simp,tZ⟩,jF (·.2) d.symm,jF (·.1) d.symm,tZ⟩,⟨up,c⟩,A⟩;have d:=Zi (r:=yn b) a f n;refine⟨?_,iZ6,y+1,⟨⟨by simp,tZ⟩,jF (·.1) d.symm,⟨rfl,rfl,rfl,rfl,rfl,rfl,rfl,rfl,tZ,tZ,tZ,tZ⟩,jF (·.2) d.symm,tZ⟩,⟨up,c⟩,A⟩;show((yi (yn b) (q9 (U.rd (yn b))) y).2.length+1)*8<=140737488355328;omega;have t:¬(y:Int)<(q9 (U.rd (yn b))).length:=jc t;have n:=n.1;have n:y<=(q9 (U.rd (yn b))).length:=n;have a:y=(q9 (U.rd (yn b))).length:=(by omega);subst a;exact⟨rfl,rfl⟩
theorem Em:gE PR 183 El:=XB Tryz.sortI 3 (vz Tryz.func183 (c:=w6 Tryz.f183) (by kernel_rfl) (by kernel_rfl))
theorem uq:gE PR 143 ul:=rX um Ab Tryz.func143 (kcC MZ (kcC CR kcN)) (koC sy (koC bB (koC Em koN)))
end Go.X
namespace Go.X
open U
open Go.Proofs
namespace U
def iN (l:List Int) (n:Nat):Int:=(l.take n).foldl (fun s p=>bor s (1*2^p.toNat)) 0
def Qf (l:List Int):Int:=iN l l.length
def ye (d:DyD) (n:Nat):List Int:=((wm d).take n).map (fun b=>Qf (dh (wj d) (gN b)))
def jbN (d:DyD):List (List Int):=List.replicate (wd (wj d)).length noI
def LA (d:DyD):RoD:=(d,ye d (wm d).length,jbN d,noI,())
def S3 (d:DyD):RoD:=(d,ye d (wm d).length,(bv (LA d)).1,(bv (LA d)).2,())
def tq (d:DyD):Option RoD:=if w5 d=0 then some (S3 d) else none
end U
def J6:qS:=⟨[.val tDy,.nil true],[.cl (.dat (.ptr tRo)),.cl (.dat .int)],fun d=>[(w4 d.1).length<=100000],fun d=>((tq d.1,w5 d.1,()),())⟩
def U7:Ann:=fun r=>match r with
 |8=>some fun σ=>{X:=Nat,sl:=fun i=>[(39,.dat .int (i:Int))],ob:=fun i=>[(27,some (.box 168 false (((bx σ 27).set 8 (.own (ou 27 8) .int)).set 10 (.own (ou 27 10) .int)))),(ou 27 10,some (.row 3 .int false .yes U.noI)),(ou 27 8,some (.row 3 .int false .yes (ye (gb tDy σ 2) i)))],inv:=fun i=>i<=(wm (gb tDy σ 2)).length,mu:=fun i=>(wm (gb tDy σ 2)).length-i}
 |13=>some fun σ=>{X:=Nat,sl:=fun i=>[(53,.dat .int (i:Int)),(12,.dat .int (iN (gd (.slice .int) σ 51) i))],ob:=fun _=>[],inv:=fun i=>i<=(gd (.slice .int) σ 51).length,mu:=fun i=>(gd (.slice .int) σ 51).length-i}
 |3000005=>some fun _=>{X:=Unit,sl:=fun _=>[],ob:=fun _=>[],inv:=fun _=>True,mu:=fun _=>0}
 |_=>none
abbrev jeG (d:DyD×Unit×Unit)(x:Nat):=(dh d.1.1 (nth d.1.2.2.1 (x:Int).toNat).1)
abbrev jim (d:DyD×Unit×Unit):=(d.1.1.1=d.1.1.1/\d.1.1.2.1=d.1.1.2.1/\d.1.1.2.2.1=d.1.1.2.2.1/\d.1.2.1=d.1.2.1/\d.1.2.2.1=d.1.2.2.1/\d.1.2.2.2.1=d.1.2.2.2.1/\d.1.q4.1=d.1.q4.1/\d.1.q4.2.1=d.1.q4.2.1/\True/\True/\True/\True)
abbrev jga (d:DyD×Unit×Unit):=(d.1.1.2.1.length:Int)
abbrev jin (d:DyD×Unit×Unit)(x:Nat):=(yn (d.1.1.1,d.1.1.2.1,d.1.1.2.2.1,d.1.2.1,d.1.2.2.1,d.1.2.2.2.1,d.1.q4.1,d.1.q4.2.1,ye d.1 x,List.replicate (jga d).toNat [],U.noI,()))
abbrev je5 (d:DyD×Unit×Unit)(x:Nat):=(AC (d.1.1.1,d.1.1.2.1,d.1.1.2.2.1,d.1.2.1,d.1.2.2.1,d.1.2.2.2.1,d.1.q4.1,d.1.q4.2.1,ye d.1 x,List.replicate (jga d).toNat [],U.noI,()) (bv (jin d x)))
def J7:Prop:=∀(d:DyD×Unit×Unit),(w4 d.1).length<=100000->(w4 d.1).length<=100000/\(decide (w5 d.1≠0)=true->(none,w5 d.1,())=(tq d.1,w5 d.1,())/\()=())/\(decide (w5 d.1≠0)=false->0<=(jga d)/\(jga d)=(jga d)/\(jga d).toNat*24<=140737488355328/\((!true)=true->(!true)=true/\(!true)=true/\False)/\((!true)=false->(!true)=false/\(!true)=false/\(!true)=false/\(!true)=false/\(false=true->(none,(1:Int),())=(tq d.1,w5 d.1,())/\()=())/\(qF->d.1.2.2.1.length<4611686018427387904->(∃(x:Nat),((0=(x:Int)/\True)/\(jim d)/\U.noI=[]/\ye d.1 x=[]/\True)/\x<=(wm d.1).length)/\∀(x:Nat),x<=(wm d.1).length->(decide ((x:Int)<d.1.2.2.1.length)=true->0<=(x:Int)/\(x:Int)<d.1.2.2.1.length/\((jeG d x).length<4611686018427387904->(∃(a:Nat),((0=(a:Int)/\0=iN (jeG d x) a/\True)/\True)/\a<=(jeG d x).length)/\∀(a:Nat),a<=(jeG d x).length->(decide ((a:Int)<(jeG d x).length)=true->0<=(a:Int)/\(a:Int)<(jeG d x).length/\0<=nth (jeG d x) (a:Int).toNat/\nth (jeG d x) (a:Int).toNat<=64/\wn ((1:Int)*2^(nth (jeG d x) (a:Int).toNat).toNat)/\wn ((a:Int)+1)/\∃(b:Nat),(((a:Int)+1=(b:Int)/\bor (iN (jeG d x) a) ((1:Int)*2^(nth (jeG d x) (a:Int).toNat).toNat)=iN (jeG d x) b/\True)/\True)/\b<=(jeG d x).length/\(jeG d x).length-b<(jeG d x).length-a)/\(decide ((a:Int)<(jeG d x).length)=false->((ye d.1 x).length+[iN (jeG d x) a].length)*8<=140737488355328/\wn ((x:Int)+1)/\∃(b:Nat),(((x:Int)+1=(b:Int)/\True)/\U.noI=U.noI/\(jim d)/\ye d.1 x++[iN (jeG d x) a]=ye d.1 b/\True)/\b<=(wm d.1).length/\(wm d.1).length-b<(wm d.1).length-x)))/\(decide ((x:Int)<d.1.2.2.1.length)=false->YN (jin d x)/\(some ((((je5 d x).1,(je5 d x).2.1,(je5 d x).2.2.1,()),(je5 d x).2.2.2.1,(je5 d x).q4.1,(je5 d x).q4.2.1,(je5 d x).q4.2.2.1,(je5 d x).q4.2.2.2.1,()),(je5 d x).q4.q4.1,(je5 d x).q4.q4.2.1,(je5 d x).q4.q4.2.2.1,()),(0:Int),())=(tq d.1,w5 d.1,())/\()=()))))
theorem ur {l:List Int} {i:Nat} (h:i<l.length):iN l (i+1)=bor (iN l i) (1*2^(nth l i).toNat):=by
 unfold iN;rw[L.wN h,jU];rfl
theorem U8 {d:DyD} {i:Nat} (h:i<(wm d).length):ye d (i+1)=ye d i++[Qf (dh (wj d) (gN (nth (wm d) i)))]:=by
 unfold ye;rw[L.wN h,zw];rfl
theorem X0 (d:DyD) (i:Nat):(ye d i).length<=i:=by
 unfold ye;rw[zp,jY];omega
theorem U9 {c:CrD} (h:wo c=true) {j:JbD} {p:Int} (a:p∈dh c j):0<=p/\p<8:=by
 have d:=(wU h).2.2.1;unfold dh at a
 split at a
 unfold cv at a;obtain⟨n,b,rfl⟩:=jZ.1 a;have:=jE.1 (jS.1 b).1;omega;cases a
theorem jaI {c:CrD} (h:wo c=true) (j:JbD):(dh c j).length<=8:=by
 have a:=(wU h).2.2.1;unfold dh
 split
 unfold cv;rw[zp];exact jD (zF _ _) (by simpa using a);exact jp _
theorem Va {d:DyD} (h:w5 d=0):YN (LA d):=by
 refine⟨⟨h,?_⟩,⟨?_,fun x a=> ?_⟩,rfl⟩;show(ye d (wm d).length).length=(wm d).length;unfold ye;simp;show(jbN d).length=(wd (wj d)).length;unfold jbN;simp;have a:x∈jbN d:=a;unfold jbN at a;exact(List.mem_replicate.1 a).2
theorem M8:J7:=by
 unfold J7 je5 jin jga jim jeG Prod.q4;rintro⟨d,⟨⟩,⟨⟩⟩ j;refine⟨j,fun h=>⟨?_,rfl⟩,fun h=>⟨j7 _,rfl,?_,fun c=>(by cases c),fun _=>⟨rfl,rfl,rfl,rfl,fun c=>(by cases c),fun _=> ?_⟩⟩⟩;have h:w5 d≠0:=ja h;show(none,w5 d,())=(tq d,w5 d,());unfold tq;rw[jd h];have hk:w5 d=0:=jR.1 (jc h);have e:=(wU (gi hk).1.1).2.2.1;have e:d.1.2.1.length<=8:=e;show((d.1.2.1.length:Int)).toNat*24<=140737488355328;omega;have hk:w5 d=0:=jR.1 (jc h);clear j h;have f:=(gi hk).1;have r:=f.2.2;have g:(wm d).length<=4:=(vP r).1;have n:d.2.2.1.length<=4:=g;refine fun _=>⟨⟨0,⟨⟨rfl,tZ⟩,⟨rfl,rfl,rfl,rfl,rfl,rfl,rfl,rfl,tZ,tZ,tZ,tZ⟩,rfl,rfl,tZ⟩,jp _⟩,fun x o=>⟨fun h=>⟨by omega,ja h,fun _=>⟨⟨0,⟨⟨rfl,rfl,tZ⟩,tZ⟩,jp _⟩,fun y p=>⟨fun a=> ?_,fun a=> ?_⟩⟩⟩,fun h=> ?_⟩⟩
 have a:(y:Int)<(dh (wj d) (nth d.2.2.1 (x:Int).toNat).1).length:=ja a;have b:y<(dh (wj d) (nth d.2.2.1 (x:Int).toNat).1).length:=(by omega);have s:=U9 f.1 (L.we b);have k:=ur b;have e:=jaI f.1 (nth d.2.2.1 (x:Int).toNat).1;have q:BT.qz ((2:Int)^(nth (dh (wj d) (nth d.2.2.1 (x:Int).toNat).1) y).toNat):=BT.iw (by omega);unfold BT.qz at q;exact⟨by omega,a,s.1,by show nth (dh (wj d) (nth d.2.2.1 (x:Int).toNat).1) y<=64;omega,by show wn (1*2^(nth (dh (wj d) (nth d.2.2.1 (x:Int).toNat).1) y).toNat);rw[mg];exact iZ6,iZ6,y+1,⟨⟨by simp,k.symm,tZ⟩,tZ⟩,by show y+1<=(dh (wj d) (nth d.2.2.1 (x:Int).toNat).1).length;omega,by show(dh (wj d) (nth d.2.2.1 (x:Int).toNat).1).length-(y+1)<(dh (wj d) (nth d.2.2.1 (x:Int).toNat).1).length-y;omega⟩;have h:(x:Int)<(wm d).length:=ja h;have k:=U8 (d:=d) (i:=x) (by omega);have j:=X0 d x;have p:y<=(dh (wj d) (nth d.2.2.1 (x:Int).toNat).1).length:=p;have a:¬(y:Int)<(dh (wj d) (nth d.2.2.1 (x:Int).toNat).1).length:=jc a;have m:y=(dh (wj d) (nth d.2.2.1 (x:Int).toNat).1).length:=(by omega);subst m;refine⟨?_,iZ6,x+1,⟨⟨by simp,tZ⟩,rfl,⟨rfl,rfl,rfl,rfl,rfl,rfl,rfl,rfl,tZ,tZ,tZ,tZ⟩,k.symm,tZ⟩,by show x+1<=(wm d).length;omega,by show(wm d).length-(x+1)<(wm d).length-x;omega⟩;show((ye d x).length+1)*8<=140737488355328;omega;have h:¬(x:Int)<(wm d).length:=jc h;have o:x<=(wm d).length:=o;have l:x=(wm d).length:=(by omega);subst l;refine⟨Va hk,?_⟩;refine⟨?_,rfl⟩;show(some (S3 d),(0:Int),())=(tq d,w5 d,());unfold tq;rw[je hk,hk]
theorem xd:gE PR 105 J6:=rX U7 M8 Tryz.func105 (kcC F0 (kcC XP kcN)) (koC uq koN)
namespace U
def ae (d:DyD) (n:Nat):List Int:=(List.range n).map (fun(b:Nat)=>dE (bn (S3 d)) (b:Int))
def cJ (d:DyD):List Int:=if w5 d=0 then ae d (wm d).length else[]
def Qg (d:DyD) (b:Nat):Bool:=DI d (b:Int) (dE (bn (S3 d)) (b:Int))
def ag (d:DyD) (n:Nat):List Int:=((List.range n).filter (Qg d)).map (fun(b:Nat)=>(b:Int))
def kY (d:DyD):List Int:=if w5 d=0 then ag d (wm d).length else[]
def Lj (d:DyD) (p:Int):Bool:=kX p 0 (((wd (wj d)).length:Int)-1)
def Wz (d:DyD) (b:Int):Bool:=kX b 0 (((wm d).length:Int)-1)
end U
def Rt:wO:=⟨[.val tDy],[.slice .int,.int],false,fun d=>[(w4 d.1).length<=100000],fun d=>(cJ d.1,w5 d.1,())⟩
def Ru:Ann:=fun r=>match r with
 |6=>some fun σ=>{X:=Nat,sl:=fun i=>[(19,.dat .int (i:Int)),(6,.own 6 .int)],ob:=fun i=>[(6,some (.row 3 .int false .yes (ae (gb tDy σ 1) i)))],inv:=fun i=>i<=(wm (gb tDy σ 1)).length,mu:=fun i=>(wm (gb tDy σ 1)).length-i}
 |_=>none
def Rv:Prop:=∀(d:DyD×Unit),(w4 d.1).length<=100000->(w4 d.1).length<=100000/\(decide (w5 d.1≠0)=true->([],w5 d.1,())=(cJ d.1,w5 d.1,()))/\(decide (w5 d.1≠0)=false->d.1.2.2.1.length<4611686018427387904->(∃(x:Nat),((0=(x:Int)/\True/\True)/\ae d.1 x=[]/\True)/\x<=(wm d.1).length)/\∀(x:Nat),x<=(wm d.1).length->(decide ((x:Int)<d.1.2.2.1.length)=true->(tq d.1).isSome=true/\(bn (U.ro (tq d.1))).length<=60/\((ae d.1 x).length+[dE (bn (U.ro (tq d.1))) (x:Int)].length)*8<=140737488355328/\wn ((x:Int)+1)/\∃(a:Nat),(((x:Int)+1=(a:Int)/\True/\True)/\ae d.1 x++[dE (bn (U.ro (tq d.1))) (x:Int)]=ae d.1 a/\True)/\a<=(wm d.1).length/\(wm d.1).length-a<(wm d.1).length-x)/\(decide ((x:Int)<d.1.2.2.1.length)=false->(ae d.1 x,(0:Int),())=(cJ d.1,w5 d.1,())))
def M9:wO:=⟨[.val tDy],[.slice .int,.int],false,fun d=>[(w4 d.1).length<=100000],fun d=>(kY d.1,w5 d.1,())⟩
def Na:Ann:=fun r=>match r with
 |6=>some fun σ=>{X:=Nat,sl:=fun i=>[(19,.dat .int (i:Int)),(6,.own 6 .int)],ob:=fun i=>[(6,some (.row 3 .int false .yes (ag (gb tDy σ 1) i)))],inv:=fun i=>i<=(wm (gb tDy σ 1)).length,mu:=fun i=>(wm (gb tDy σ 1)).length-i}
 |_=>none
def Nb:Prop:=∀(d:DyD×Unit),(w4 d.1).length<=100000->(w4 d.1).length<=100000/\(decide (w5 d.1≠0)=true->([],w5 d.1,())=(kY d.1,w5 d.1,()))/\(decide (w5 d.1≠0)=false->d.1.2.2.1.length<4611686018427387904->(∃(x:Nat),((0=(x:Int)/\True/\True)/\ag d.1 x=[]/\True)/\x<=(wm d.1).length)/\∀(x:Nat),x<=(wm d.1).length->(decide ((x:Int)<d.1.2.2.1.length)=true->(tq d.1).isSome=true/\(bn (U.ro (tq d.1))).length<=60/\(tq d.1).isSome=true/\gR (U.rd (U.ro (tq d.1))) (x:Int)/\(DI (U.rd (U.ro (tq d.1))) (x:Int) (dE (bn (U.ro (tq d.1))) (x:Int))=true->((ag d.1 x).length+[(x:Int)].length)*8<=140737488355328/\wn ((x:Int)+1)/\∃(a:Nat),(((x:Int)+1=(a:Int)/\True/\True)/\ag d.1 x++[(x:Int)]=ag d.1 a/\True)/\a<=(wm d.1).length/\(wm d.1).length-a<(wm d.1).length-x)/\(DI (U.rd (U.ro (tq d.1))) (x:Int) (dE (bn (U.ro (tq d.1))) (x:Int))=false->wn ((x:Int)+1)/\∃(a:Nat),((True/\(x:Int)+1=(a:Int)/\True)/\ag d.1 x=ag d.1 a/\True)/\a<=(wm d.1).length/\(wm d.1).length-a<(wm d.1).length-x))/\(decide ((x:Int)<d.1.2.2.1.length)=false->(ag d.1 x,(0:Int),())=(kY d.1,w5 d.1,())))
theorem Nc {r:RoD} {l:List ShD} (d:qn (U.rd r)=true) (e:∀s∈l,s∈w4 (U.rd r)) (nd:l.Nodup) (a:(bn r).length=(wd (wj (U.rd r))).length) (b:jbz (bn r)) (c:jdI r=U.noI):
 ∀i,i<=l.length->dl r l i (yi r l i)
 |0,_=>U5 a b c
 |i+1,hi=>by
  rw[sH hi]
  exact Zh d e nd hi (Nc d e nd a b c i (by omega))
structure jaJ (d:DyD):Prop where
 may:Qe (S3 d)
 len:(bn (S3 d)).length=(wd (wj d)).length
 row:∀p,(nth (bn (S3 d)) p).Nodup/\∀b∈nth (bn (S3 d)) p,gR d b
theorem Vb {d:DyD} (h:w5 d=0):jaJ d:=by
 obtain⟨⟨_,i⟩,⟨j,c⟩,e⟩:=Va h;have f:=(gi h).1;have a:=Nc (r:=LA d) (l:=q9 d) f.2.2 (fun s k=>im.1 k) (eN d) j c e _ (jj _);refine⟨⟨f,i⟩,a.1,fun p=> ?_⟩;have:=a.2.2 p;exact⟨this.1,fun b g=>(this.2 b g).1⟩
theorem jaJ.len60 {d:DyD} (h:jaJ d):(bn (S3 d)).length<=60:=by
 have a:=(wU h.may.1.1).2.2.1;have a:(wd (wj d)).length<=8:=a;rw[h.len];omega
theorem Zj {d:DyD} (h:w5 d=0):tq d=some (S3 d):=je h
theorem Rw (d:DyD) (n:Nat):ae d (n+1)=ae d n++[dE (bn (S3 d)) (n:Int)]:=by
 unfold ae;rw[zg,zw];rfl
theorem Vc:Rv:=by
 rintro⟨d,⟨⟩⟩ j;refine⟨j,fun h=> ?_,fun h _=>⟨⟨0,⟨⟨rfl,tZ,tZ⟩,rfl,tZ⟩,jp _⟩,fun x g=>⟨fun a=> ?_,fun a=> ?_⟩⟩⟩;have h:w5 d≠0:=ja h;show([],w5 d,())=(cJ d,w5 d,());unfold cJ;rw[jd h];have hk:w5 d=0:=jR.1 (jc h);have f:=Vb hk;have i:(wm d).length<=4:=(vP f.may.1.2.2).1;have a:(x:Int)<(wm d).length:=ja a;have k:=Rw d x;have e:(ae d x).length=x:=(by unfold ae;simp);have b:=Zj hk;refine⟨by show(tq d).isSome=true;rw[b];rfl,by show(bn (U.ro (tq d))).length<=60;rw[b];exact f.len60,?_,iZ6,x+1,⟨⟨by simp,tZ,tZ⟩,?_,tZ⟩,by show x+1<=(wm d).length;omega,by show(wm d).length-(x+1)<(wm d).length-x;omega⟩;show((ae d x).length+1)*8<=_;omega;show ae d x++[dE (bn (U.ro (tq d))) (x:Int)]=ae d (x+1);rw[b,k];rfl;have hk:w5 d=0:=jR.1 (jc h);have g:x<=(wm d).length:=g;have a:¬(x:Int)<(wm d).length:=jc a;have c:x=(wm d).length:=(by omega);subst c;show(ae d _,(0:Int),())=(cJ d,w5 d,());unfold cJ;rw[je hk,hk]
theorem Ry:wX PR 66 Rt:=vF Ru Vc Tryz.func66 (kcC iI kcN) (koC xd koN)
theorem Rz (d:DyD) (n:Nat):ag d (n+1)=ag d n++(if Qg d n=true then[(n:Int)] else[]):=by
 unfold ag;rw[L.vQ,zw];by_cases h:Qg d n=true;rw[je h,je h];rfl;rw[jd h,jd h];rfl
theorem RA:Nb:=by
 rintro⟨d,⟨⟩⟩ p;refine⟨p,fun h=> ?_,fun h _=>⟨⟨0,⟨⟨rfl,tZ,tZ⟩,rfl,tZ⟩,jp _⟩,fun x m=>⟨fun b=> ?_,fun b=> ?_⟩⟩⟩;have h:w5 d≠0:=ja h;show([],w5 d,())=(kY d,w5 d,());unfold kY;rw[jd h];have hk:w5 d=0:=jR.1 (jc h);have l:=Vb hk;have o:(wm d).length<=4:=(vP l.may.1.2.2).1;have b:(x:Int)<(wm d).length:=ja b;have e:=Rz d x;have k:(ag d x).length<=x:=by
  unfold ag;rw[zp];exact jD (zF _ _) (by simp)
 have c:=Zj hk;have i:(tq d).isSome=true:=(by rw[c];rfl);have e2:(bn (U.ro (tq d))).length<=60:=(by rw[c];exact l.len60);have n:gR (U.rd (U.ro (tq d))) (x:Int):=(by rw[c];exact⟨by omega,b⟩);have j:DI (U.rd (U.ro (tq d))) (x:Int) (dE (bn (U.ro (tq d))) (x:Int))=Qg d x:=(by rw[c];rfl);have up:x+1<=(wm d).length:=(by omega);have g:(wm d).length-(x+1)<(wm d).length-x:=(by omega);refine⟨i,e2,i,n,fun a=> ?_,fun a=> ?_⟩;have a:Qg d x=true:=(by rw[<-j];exact a);refine⟨?_,iZ6,x+1,⟨⟨by simp,tZ,tZ⟩,?_,tZ⟩,up,g⟩;show((ag d x).length+1)*8<=_;omega;rw[je a] at e;exact e.symm;have a:Qg d x=false:=(by rw[<-j];exact a);refine⟨iZ6,x+1,⟨⟨tZ,by simp,tZ⟩,?_,tZ⟩,up,g⟩;rw[jd (by rw[a];simp),j8] at e;exact e.symm;have hk:w5 d=0:=jR.1 (jc h);have m:x<=(wm d).length:=m;have b:¬(x:Int)<(wm d).length:=jc b;have f:x=(wm d).length:=(by omega);subst f;show(ag d _,(0:Int),())=(kY d,w5 d,());unfold kY;rw[je hk,hk]
theorem Nd:wX PR 67 M9:=vF Na RA Tryz.func67 (kcC iI (kcC Aa kcN)) (koC xd koN)
theorem pE {l:List Int} (h:∀p∈l,0<=p/\p<8):∀n,n<=l.length->BT.qz (iN l n)/\∀q,BT.has (iN l n) q=true->q<8
 |0,_=>⟨BT.DO,fun q a=>by rw[show iN l 0=0 from rfl,BT.tn] at a;cases a⟩
 |n+1,d=>by
  have b:=pE h n (by omega)
  have e:=h _ (L.we (l:=l) (i:=n) (by omega))
  have c:BT.qz ((2:Int)^(nth l n).toNat):=BT.iw (by omega)
  rw[ur (by omega),mg]
  refine⟨BT.bor_set b.1 c,fun q a=> ?_⟩
  rw[BT.has_bor b.1 c,zr,BT.AZ,jo] at a
  rcases a with a|a
  exact b.2 q a
  omega
end Go.X
namespace Go.X
open U
open Go.Proofs
end Go.X
namespace Go.X
open U
open Go.Proofs
end Go.X
