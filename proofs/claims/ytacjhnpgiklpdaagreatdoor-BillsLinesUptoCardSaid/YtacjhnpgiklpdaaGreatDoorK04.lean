/-
  Part 4 of the road: a checked reading of bodies, and what the functions on it do (T L BT BS NL DF RC FX A1 P1 A2 P2 A4 P4 A5 P5 A3 P6 CM MP O1 B1 P7 IS B2 P8 B3 P9 DI B4 P10 B5 P11 B6 P12 P13 B7 P14 B8 P15).
-/
import Derived.Test.YtacjhnpgiklpdaaGreatDoorK03
import Derived.Test.YtacjhnpgiklpdaaGreatDoorProg
import Derived.KernelRfl
import Derived.Shelf.SlSortCmp.WholeK
import Derived.Shelf.Sort.Plain
namespace Go.X
open U
open Go.Proofs
abbrev bT:=true
abbrev bF:=false
abbrev vO:Value:=.int .i64 0
abbrev qy0:Ty:=.st [.int,.int]
abbrev qy1:Ty:=.ptr (.uint .u8)
abbrev qy2:Ty:=.ptr (.uint .u64)
abbrev qy3:Ty:=.slice (.slice .int)
abbrev qy4:Ty:=.st [.int,.int,.int]
abbrev qy5:Ty:=.st [.int,.int,.bool]
abbrev qy6:Ty:=.slice qy0
abbrev qy7:Ty:=.slice qy4
abbrev qy8:Ty:=.slice qy5
abbrev qy9:Ty:=.st [.int,.int,.int,.int,.int]
abbrev qy10:Ty:=.st [.int,.int,.bool,.uint .u8]
abbrev qy11:Ty:=.slice qy6
abbrev qy12:Ty:=.map .int qy4
abbrev qy13:Ty:=.st [.int,.int,.int,.int,.int,.int]
abbrev qy14:Ty:=.slice qy9
abbrev qy15:Ty:=.slice qy13
abbrev qy16:Ty:=.st [.slice .int,.int,.int,.slice .int,.bool,.int]
abbrev qy17:Ty:=.map qy0 qy9
abbrev qy18:Ty:=.slice qy16
abbrev qy19:Ty:=.st [qy13,.int,.int,.int]
abbrev qy20:Ty:=.slice qy19
abbrev qy21:Ty:=.st [.int,.int,.int,.int,.int,.int,.int,.int,.slice .int,qy6]
abbrev qy22:Ty:=.st [.int,qy18,qy8]
abbrev qy23:Ty:=.st [qy22,qy13,qy5]
abbrev qy24:Ty:=.ptr qy23
abbrev qy25:Ty:=.st [qy19,qy21,.int,.int,.slice .int,.int,.int,.bool,.int]
abbrev qy26:Ty:=.ptr qy25
abbrev qy27:Ty:=.map .int qy26
abbrev qy28:Ty:=.st [qy22,qy11,qy20,.int,.int,qy14]
abbrev qy29:Ty:=.st [qy28,.slice .int,qy3,.slice .int]
abbrev qy30:Ty:=.ptr qy29
abbrev qy31:Ty:=.st [qy28,.slice .int,.slice .int,qy21,qy7]
abbrev qy32:Ty:=.st [qy31,qy27]
def rr (i:Nat)(t:Ty)(n:Nat)(a:Bool)(f:List (Nat×Nat))(s:Bool)(e b:Nat)(z:List Value)(c m:Bool)(k:Nat)(q:Bool):TI:=⟨i,t,n,a,f,s,e,b,z,c,m,k,q,false,false,false⟩
def rf (i:Nat):TI:=⟨i,.unit,1,false,[],false,0,8,[.nilFunc],false,false,0,false,false,false,true⟩
def rq (i:Nat):TI:=⟨i,.unit,1,false,[],false,0,8,[.pointer none],false,false,0,false,false,true,false⟩
def ti:List TI:=[
 rf 1,
 rr 2 .int 1 bF [] bF 0 8 [vO] bF bF 0 bT,
 rr 3 .int 1 bF [] bF 0 8 [vO] bF bF 0 bT,
 rr 4 .bool 1 bF [] bF 0 1 [.bool false] bT bF 0 bF,
 rr 5 (.uint .u8) 1 bF [] bF 0 1 [.int .u8 0] bF bF 0 bF,
 rr 6 (.uint .u8) 1 bF [] bF 0 1 [.int .u8 0] bF bF 0 bF,
 rr 7 qy10 4 bT [(0,2),(1,3),(2,4),(3,6)] bF 0 24 [vO,vO,.bool false,.int .u8 0] bT bF 0 bT,
 rr 8 qy10 4 bT [(0,2),(1,3),(2,4),(3,6)] bF 0 24 [vO,vO,.bool false,.int .u8 0] bT bF 0 bT,
 rr 12 (.uint .u64) 1 bF [] bF 0 8 [.int .u64 0] bF bF 0 bF,
 rq 15,
 rq 16,
 rq 17,
 rr 18 .unit 1 bT [(0,17)] bF 0 8 [.pointer none] bF bF 0 bF,
 rr 19 .unit 1 bT [(0,17)] bF 0 8 [.pointer none] bF bF 0 bF,
 rr 21 (.uint .i32) 1 bF [] bF 0 4 [.int .i32 0] bF bF 0 bF,
 rr 22 qy18 1 bF [] bT 136 24 [.slice none 0 0] bF bF 0 bF,
 rr 23 qy8 1 bF [] bT 145 24 [.slice none 0 0] bF bF 0 bF,
 rr 24 qy22 3 bT [(0,3),(1,22),(2,23)] bF 0 56 [vO,.slice none 0 0,.slice none 0 0] bF bF 0 bF,
 rr 25 qy22 3 bT [(0,3),(1,22),(2,23)] bF 0 56 [vO,.slice none 0 0,.slice none 0 0] bF bF 0 bF,
 rr 26 qy11 1 bF [] bT 107 24 [.slice none 0 0] bF bF 0 bF,
 rr 27 qy20 1 bF [] bT 65 24 [.slice none 0 0] bF bF 0 bF,
 rr 28 qy14 1 bF [] bT 134 24 [.slice none 0 0] bF bF 0 bF,
 rr 29 qy28 8 bT [(0,25),(3,26),(4,27),(5,3),(6,3),(7,28)] bF 0 144 [vO,.slice none 0 0,.slice none 0 0,.slice none 0 0,.slice none 0 0,vO,vO,.slice none 0 0] bF bF 0 bF,
 rr 30 qy28 8 bT [(0,25),(3,26),(4,27),(5,3),(6,3),(7,28)] bF 0 144 [vO,.slice none 0 0,.slice none 0 0,.slice none 0 0,.slice none 0 0,vO,vO,.slice none 0 0] bF bF 0 bF,
 rr 31 (.slice .int) 1 bF [] bT 3 24 [.slice none 0 0] bF bF 0 bF,
 rr 32 qy6 1 bF [] bT 87 24 [.slice none 0 0] bF bF 0 bF,
 rr 33 qy21 10 bT [(0,3),(1,3),(2,3),(3,3),(4,3),(5,3),(6,3),(7,3),(8,31),(9,32)] bF 0 112 [vO,vO,vO,vO,vO,vO,vO,vO,.slice none 0 0,.slice none 0 0] bF bF 0 bF,
 rr 34 qy21 10 bT [(0,3),(1,3),(2,3),(3,3),(4,3),(5,3),(6,3),(7,3),(8,31),(9,32)] bF 0 112 [vO,vO,vO,vO,vO,vO,vO,vO,.slice none 0 0,.slice none 0 0] bF bF 0 bF,
 rr 35 qy7 1 bF [] bT 95 24 [.slice none 0 0] bF bF 0 bF,
 rr 36 qy31 21 bT [(0,30),(8,31),(9,31),(10,34),(20,35)] bF 0 328 [vO,.slice none 0 0,.slice none 0 0,.slice none 0 0,.slice none 0 0,vO,vO,.slice none 0 0,.slice none 0 0,.slice none 0 0,vO,vO,vO,vO,vO,vO,vO,vO,.slice none 0 0,.slice none 0 0,.slice none 0 0] bF bF 0 bF,
 rr 37 qy31 21 bT [(0,30),(8,31),(9,31),(10,34),(20,35)] bF 0 328 [vO,.slice none 0 0,.slice none 0 0,.slice none 0 0,.slice none 0 0,vO,vO,.slice none 0 0,.slice none 0 0,.slice none 0 0,vO,vO,vO,vO,vO,vO,vO,vO,.slice none 0 0,.slice none 0 0,.slice none 0 0] bF bF 0 bF,
 rr 38 qy4 3 bT [(0,3),(1,3),(2,3)] bF 0 24 [vO,vO,vO] bT bF 0 bT,
 rr 39 qy4 3 bT [(0,3),(1,3),(2,3)] bF 0 24 [vO,vO,vO] bT bF 0 bT,
 rf 40,
 rf 41,
 rf 42,
 rr 43 .int 1 bF [] bF 0 8 [vO] bF bF 0 bT,
 rf 45,
 rf 46,
 rf 47,
 rf 49,
 rf 51,
 rf 52,
 rf 53,
 rr 54 qy15 1 bF [] bT 61 24 [.slice none 0 0] bF bF 0 bF,
 rf 56,
 rf 57,
 rf 58,
 rf 59,
 rr 60 qy13 6 bT [(0,3),(1,3),(2,3),(3,3),(4,3),(5,3)] bF 0 48 [vO,vO,vO,vO,vO,vO] bT bF 0 bT,
 rr 61 qy13 6 bT [(0,3),(1,3),(2,3),(3,3),(4,3),(5,3)] bF 0 48 [vO,vO,vO,vO,vO,vO] bT bF 0 bT,
 rr 62 qy13 6 bT [(0,3),(1,3),(2,3),(3,3),(4,3),(5,3)] bF 0 48 [vO,vO,vO,vO,vO,vO] bT bF 0 bT,
 rr 63 qy13 6 bT [(0,3),(1,3),(2,3),(3,3),(4,3),(5,3)] bF 0 48 [vO,vO,vO,vO,vO,vO] bT bF 0 bT,
 rr 64 qy19 9 bT [(0,63),(6,3),(7,3),(8,3)] bF 0 72 [vO,vO,vO,vO,vO,vO,vO,vO,vO] bT bF 0 bT,
 rr 65 qy19 9 bT [(0,63),(6,3),(7,3),(8,3)] bF 0 72 [vO,vO,vO,vO,vO,vO,vO,vO,vO] bT bF 0 bT,
 rf 67,
 rf 68,
 rf 69,
 rf 70,
 rr 71 qy27 1 bF [] bF 79 8 [.map none] bF bT 3 bF,
 rr 72 qy32 22 bT [(0,37),(21,71)] bF 0 336 [vO,.slice none 0 0,.slice none 0 0,.slice none 0 0,.slice none 0 0,vO,vO,.slice none 0 0,.slice none 0 0,.slice none 0 0,vO,vO,vO,vO,vO,vO,vO,vO,.slice none 0 0,.slice none 0 0,.slice none 0 0,.map none] bF bF 0 bF,
 rr 73 qy32 22 bT [(0,37),(21,71)] bF 0 336 [vO,.slice none 0 0,.slice none 0 0,.slice none 0 0,.slice none 0 0,vO,vO,.slice none 0 0,.slice none 0 0,.slice none 0 0,vO,vO,vO,vO,vO,vO,vO,vO,.slice none 0 0,.slice none 0 0,.slice none 0 0,.map none] bF bF 0 bF,
 rf 75,
 rf 76,
 rf 77,
 rf 78,
 {rr 79 qy26 1 bF [] bF 0 8 [.pointer none] bF bF 0 bF with pt:=true},
 rf 80,
 rf 81,
 rf 82,
 rf 83,
 rr 84 qy25 26 bT [(0,65),(9,34),(19,3),(20,3),(21,31),(22,3),(23,3),(24,4),(25,3)] bF 0 256 [vO,vO,vO,vO,vO,vO,vO,vO,vO,vO,vO,vO,vO,vO,vO,vO,vO,.slice none 0 0,.slice none 0 0,vO,vO,.slice none 0 0,vO,vO,.bool false,vO] bF bF 0 bF,
 rr 85 qy25 26 bT [(0,65),(9,34),(19,3),(20,3),(21,31),(22,3),(23,3),(24,4),(25,3)] bF 0 256 [vO,vO,vO,vO,vO,vO,vO,vO,vO,vO,vO,vO,vO,vO,vO,vO,vO,.slice none 0 0,.slice none 0 0,vO,vO,.slice none 0 0,vO,vO,.bool false,vO] bF bF 0 bF,
 rr 86 qy0 2 bT [(0,3),(1,3)] bF 0 16 [vO,vO] bT bF 0 bT,
 rr 87 qy0 2 bT [(0,3),(1,3)] bF 0 16 [vO,vO] bT bF 0 bT,
 rf 88,
 rf 89,
 rf 90,
 rf 91,
 rr 92 (.uint .u64) 1 bF [] bF 0 8 [.int .u64 0] bF bF 0 bF,
 rf 93,
 rr 94 qy4 3 bT [(0,3),(1,3),(2,3)] bF 0 24 [vO,vO,vO] bT bF 0 bT,
 rr 95 qy4 3 bT [(0,3),(1,3),(2,3)] bF 0 24 [vO,vO,vO] bT bF 0 bT,
 rf 96,
 rf 97,
 rf 98,
 rf 99,
 rr 100 qy12 1 bF [] bF 95 8 [.map none] bF bT 3 bF,
 rf 102,
 rf 103,
 rf 104,
 rf 105,
 rf 106,
 rr 107 qy6 1 bF [] bT 131 24 [.slice none 0 0] bF bF 0 bF,
 rf 108,
 rf 109,
 rf 110,
 rf 111,
 rf 112,
 rf 113,
 rf 115,
 rf 116,
 rf 117,
 rf 118,
 rf 119,
 rf 120,
 rf 121,
 rf 122,
 rf 123,
 rf 124,
 rf 125,
 rf 126,
 rr 127 qy15 1 bF [] bT 63 24 [.slice none 0 0] bF bF 0 bF,
 rf 129,
 rr 130 qy0 2 bT [(0,3),(1,3)] bF 0 16 [vO,vO] bT bF 0 bT,
 rr 131 qy0 2 bT [(0,3),(1,3)] bF 0 16 [vO,vO] bT bF 0 bT,
 rf 132,
 rr 133 qy9 5 bT [(0,3),(1,3),(2,3),(3,3),(4,3)] bF 0 40 [vO,vO,vO,vO,vO] bT bF 0 bT,
 rr 134 qy9 5 bT [(0,3),(1,3),(2,3),(3,3),(4,3)] bF 0 40 [vO,vO,vO,vO,vO] bT bF 0 bT,
 rr 135 qy16 6 bT [(0,31),(1,3),(2,3),(3,31),(4,4),(5,3)] bF 0 80 [.slice none 0 0,vO,vO,.slice none 0 0,.bool false,vO] bF bF 0 bF,
 rr 136 qy16 6 bT [(0,31),(1,3),(2,3),(3,31),(4,4),(5,3)] bF 0 80 [.slice none 0 0,vO,vO,.slice none 0 0,.bool false,vO] bF bF 0 bF,
 {rr 137 qy30 1 bF [] bF 0 8 [.pointer none] bF bF 0 bF with pt:=true},
 rf 139,
 rf 140,
 rf 141,
 rf 142,
 rf 143,
 rr 144 qy5 3 bT [(0,3),(1,3),(2,4)] bF 0 24 [vO,vO,.bool false] bT bF 0 bT,
 rr 145 qy5 3 bT [(0,3),(1,3),(2,4)] bF 0 24 [vO,vO,.bool false] bT bF 0 bT,
 rf 146,
 rf 147,
 rf 148,
 rf 149,
 rf 150,
 rf 151,
 rf 152,
 rf 153,
 rf 154,
 rf 155,
 rf 156,
 rr 157 (.map .int .int) 1 bF [] bF 3 8 [.map none] bF bT 3 bF,
 rf 158,
 rf 159,
 rf 160,
 rf 161,
 rf 162,
 rf 163,
 rf 164,
 rf 165,
 rr 166 qy3 1 bF [] bT 31 24 [.slice none 0 0] bF bF 0 bF,
 rr 167 qy29 11 bT [(0,30),(8,31),(9,166),(10,31)] bF 0 216 [vO,.slice none 0 0,.slice none 0 0,.slice none 0 0,.slice none 0 0,vO,vO,.slice none 0 0,.slice none 0 0,.slice none 0 0,.slice none 0 0] bF bF 0 bF,
 rr 168 qy29 11 bT [(0,30),(8,31),(9,166),(10,31)] bF 0 216 [vO,.slice none 0 0,.slice none 0 0,.slice none 0 0,.slice none 0 0,vO,vO,.slice none 0 0,.slice none 0 0,.slice none 0 0,.slice none 0 0] bF bF 0 bF,
 rf 169,
 rf 170,
 rf 171,
 rf 172,
 rf 173,
 rf 174,
 rf 175,
 rf 176,
 rf 177,
 rf 178,
 rf 179,
 rf 180,
 rf 181,
 rr 182 .int 1 bF [] bF 0 8 [vO] bF bF 0 bT,
 rf 184,
 rf 185,
 rf 186,
 rf 187,
 rf 188,
 rr 189 (.uint .u32) 1 bF [] bF 0 4 [.int .u32 0] bF bF 0 bF,
 rf 190,
 rr 191 (.uint .u64) 1 bF [] bF 0 8 [.int .u64 0] bF bF 0 bF,
 {rr 192 qy24 1 bF [] bF 0 8 [.pointer none] bF bF 0 bF with pt:=true},
 rf 194,
 rr 195 (.uint .u64) 1 bF [] bF 0 8 [.int .u64 0] bF bF 0 bF,
 rf 196,
 rr 197 qy17 1 bF [] bF 134 8 [.map none] bF bT 199 bF,
 rr 198 qy0 2 bT [(0,3),(1,3)] bF 0 16 [vO,vO] bT bF 0 bT,
 rr 199 qy0 2 bT [(0,3),(1,3)] bF 0 16 [vO,vO] bT bF 0 bT,
 rf 200,
 rf 201,
 rf 202,
 rf 203,
 rf 204,
 rf 205,
 rf 206,
 rf 207,
 rf 208,
 rf 209,
 rf 210,
 rf 211,
 rf 212,
 rr 213 (.uint .u64) 1 bF [] bF 0 8 [.int .u64 0] bF bF 0 bF,
 rf 214,
 rf 215,
 rf 216,
 {rr 217 (.ptr .int) 1 bF [] bF 0 8 [.pointer none] bF bF 0 bF with pt:=true},
 rf 218,
 rr 219 qy23 12 bT [(0,25),(3,63),(9,145)] bF 0 128 [vO,.slice none 0 0,.slice none 0 0,vO,vO,vO,vO,vO,vO,vO,vO,.bool false] bF bF 0 bF,
 rr 220 qy23 12 bT [(0,25),(3,63),(9,145)] bF 0 128 [vO,.slice none 0 0,.slice none 0 0,vO,vO,vO,vO,vO,vO,vO,vO,.bool false] bF bF 0 bF,
 rf 221,
 rf 222,
 rf 223,
 rf 224,
 rf 225,
 rf 226,
 rf 227,
 rf 228,
 rf 229,
 rf 230,
 {rr 231 qy2 1 bF [] bF 0 8 [.pointer none] bF bF 0 bF with pt:=true},
 rf 233,
 rf 234,
 rf 235,
 rf 236,
 rf 237,
 rf 238,
 rf 239,
 rf 240,
 rf 241,
 rf 242,
 rf 243,
 rf 244,
 rf 245,
 rf 246,
 rf 247,
 rf 248,
 rf 249,
 rf 251,
 rf 252,
 rf 253,
 rf 254,
 rf 256,
 rf 258,
 rf 259,
 rf 260,
 rf 261,
 rf 262,
 rf 263,
 rf 264,
 rf 265,
 rf 266,
 rf 267,
 rr 271 .unit 0 bT [(0,270)] bF 0 0 [] bF bF 0 bF,
 rr 272 .unit 0 bT [(0,270)] bF 0 0 [] bF bF 0 bF,
 rr 273 (.uint .u8) 1 bF [] bF 0 1 [.int .u8 0] bF bF 0 bF,
 rr 274 (.uint .u8) 1 bF [] bF 0 1 [.int .u8 0] bF bF 0 bF,
 rf 275,
 {rr 276 qy1 1 bF [] bF 0 8 [.pointer none] bF bF 0 bF with pt:=true},
 rr 277 (.uint .i32) 1 bF [] bF 0 4 [.int .i32 0] bF bF 0 bF,
 rr 278 (.uint .i32) 1 bF [] bF 0 4 [.int .i32 0] bF bF 0 bF,
 rr 279 .unit 11 bT [(0,12),(1,12),(2,189),(3,273),(4,5),(5,5),(6,274),(7,275),(8,276),(9,277),(10,278)] bF 0 48 [.int .u64 0,.int .u64 0,.int .u32 0,.int .u8 0,.int .u8 0,.int .u8 0,.int .u8 0,.nilFunc,.pointer none,.int .i32 0,.int .i32 0] bF bF 0 bF,
 rr 280 .unit 11 bT [(0,12),(1,12),(2,189),(3,273),(4,5),(5,5),(6,274),(7,275),(8,276),(9,277),(10,278)] bF 0 48 [.int .u64 0,.int .u64 0,.int .u32 0,.int .u8 0,.int .u8 0,.int .u8 0,.int .u8 0,.nilFunc,.pointer none,.int .i32 0,.int .i32 0] bF bF 0 bF,
 rf 281,
 rf 283]
def strs:List Nat:=[9,10,11]
noncomputable abbrev PR:Program:=Tryz.prog
theorem YQ:ti.all (jec PR)=true:=by kernel_rfl
def jbB (P:Program) (k:Nat):Bool:=match P.underlying k with|some .string=>true|_=>false
theorem VI {P:Program} {l:List Nat} (a:l.all (jbB P)=true) (T:Nat) (h:bY l T=true):P.underlying T=some .string:=by
 have:=jT.1 a T ((yn _ _).1 h);unfold jbB at this
 split at this
 assumption
 cases this
theorem jbC:strs.all (jbB PR)=true:=by kernel_rfl
theorem QD:∀T,bY strs T=true->PR.underlying T=some .string:=VI jbC
theorem mixed:PR.follows .mixedOrders=true:=by kernel_rfl
def jey (n:Nat) (fs:List (Nat×wQ)):Ctx:=⟨n,ti,fs,fun _ _ _ _=>none,strs,false⟩
def ctx (n:Nat) (fs:List (Nat×wQ)) (os:List (Nat×q7)):Ctx:=⟨n,ti,fs,jes (jey n fs) os,strs,false⟩
def nN:List (Nat×wQ)->Prop
 |[]=>True
 |p::r=>(p.2.own=false->wV PR p.1 p.2)/\nN r
def dz:List (Nat×q7)->Prop
 |[]=>True
 |p::r=>gX PR p.1 p.2/\dz r
theorem eK:∀{l:List (Nat×wQ)},nN l->∀f s,wH l f=some s->s.own=false->wV PR f s
 |[],_,f,s,h,_=>by simp[wH] at h
 | (j,x)::r,hk,f,s,h,ho=>by
  simp only[wH] at h
  cases a:Nat.beq j f with
  |true=>rw[a] at h;simp at h;subst h;have:=jb a;subst this;exact hk.1 ho
  |false=>rw[a] at h;exact eK hk.2 f s h ho
theorem pq:∀{l:List (Nat×q7)},dz l->∀f s,wH l f=some s->gX PR f s
 |[],_,f,s,h=>by simp[wH] at h
 | (j,x)::r,hk,f,s,h=>by
  simp only[wH] at h
  cases a:Nat.beq j f with
  |true=>rw[a] at h;simp at h;subst h;have:=jb a;subst this;exact hk.1
  |false=>rw[a] at h;exact pq hk.2 f s h
theorem VJ {n:Nat} {fs:List (Nat×wQ)} (h:nN fs):(jey n fs).ok PR:=
 ⟨Ql YQ,eK h,QD,rfl,fun _ _ _ _ _ a=>by cases a⟩
theorem oD {n:Nat} {fs:List (Nat×wQ)} {os:List (Nat×q7)} (h:nN fs) (b:dz os):(ctx n fs os).ok PR:=
 ⟨Ql YQ,eK h,QD,rfl,fun _ _ _ _ _ a=>RV (VJ h) (pq b) a⟩
def gd (t:Ty) (σ:St) (s:Nat):t.Data:=match σ.get s with
 | .dat a d=>(match qH a t d with|some x=>x|none=>t.dflt)
 |_=>t.dflt
def gr (t:Ty) (σ:St) (o:Nat):List t.Data:=match σ.obj o with
 |some (.row _ a _ _ l)=>(match qH (.slice a) (.slice t) l with|some l'=>l'|none=>[])
 |_=>[]
def gfn (ps rs:List Ty) (σ:St) (s:Nat):(Ty.st ps).Data->(Ty.st rs).Data:=match σ.get s with
 | .fn a b _ F=>if h:a=ps/\b=rs then h.1▸h.2▸F else fun _=>(Ty.st rs).dflt
 |_=>fun _=>(Ty.st rs).dflt
def qf (fn:Func):Code:=match fn.body with|some c=>c|none=> .skip
theorem je4 {f:Nat} {fn:Func} {n:Nat} {fs:List (Nat×wQ)} {os:List (Nat×q7)} {s:wQ} {A:Ann} (h:jcT (ctx n fs os) A fn (qf fn) s) (d:PR.funcs[f]? =some fn) (c:fn.body=some (qf fn)) (a:(fn.name== "runtime.NumGoroutine")=false)
 (e:fn.ntmps=n) (b:Nat.ble s.ps.length n=true) (hk:nN fs) (g:dz os):wV PR f s:=
 jde (oD hk g) mixed d c a e (jy b) A h
theorem jdq {f:Nat} {fn:Func} {n:Nat} {fs:List (Nat×wQ)} {os:List (Nat×q7)} {s:q7} {A:Ann} (h:Vn (ctx n fs os) A fn (qf fn) s) (e:PR.funcs[f]? =some fn) (d:fn.body=some (qf fn)) (a:(fn.name== "runtime.NumGoroutine")=false)
 (g:fn.ntmps=n) (c:Nat.ble s.ps.length n=true) (b:ai (Nc s.ps 0)=true) (hk:nN fs) (i:dz os):gX PR f s:=
 jdh (oD hk i) mixed e d a g (jy c) b A h
abbrev qF:Prop:=false=false
theorem tZ:True:=True.intro
theorem iZ6 {x:Int} (a: -9223372036854775808<=x:=by omega) (b:x<=9223372036854775807:=by omega):wm x:=⟨a,b⟩
theorem kcC {f:Nat} {s:wQ} {fs:List (Nat×wQ)} (h:wV PR f s) (hk:nN fs):nN ((f,s)::fs):=⟨fun _=>h,hk⟩
theorem kcN:nN []:=trivial
theorem koC {f:Nat} {s:q7} {fs:List (Nat×q7)} (h:gX PR f s) (hk:dz fs):dz ((f,s)::fs):=⟨h,hk⟩
theorem koN:dz []:=trivial
theorem qY (A:Ann) {f:Nat} {fn:Func} {fs:List (Nat×wQ)} {os:List (Nat×q7)} {s:wQ} {P:Prop} (h:P) (e:PR.funcs[f]? =some fn) (hk:nN fs) (g:dz os) (d:jcT (ctx fn.ntmps fs os) A fn (qf fn) s=P:=by kernel_rfl) (c:fn.body=some (qf fn):=by kernel_rfl) (a:(fn.name== "runtime.NumGoroutine")=false:=by kernel_rfl) (b:Nat.ble s.ps.length fn.ntmps=true:=by kernel_rfl):wV PR f s:=je4 (d.mpr h) e c a rfl b hk g
theorem wK {f:Nat} {fn:Func} {fs:List (Nat×wQ)} {os:List (Nat×q7)} {s:wQ} {P:Prop} (h:P) (e:PR.funcs[f]? =some fn) (hk:nN fs) (g:dz os) (d:jcT (ctx fn.ntmps fs os) (fun _=>none) fn (qf fn) s=P:=by kernel_rfl) (c:fn.body=some (qf fn):=by kernel_rfl) (a:(fn.name== "runtime.NumGoroutine")=false:=by kernel_rfl) (b:Nat.ble s.ps.length fn.ntmps=true:=by kernel_rfl):wV PR f s:=je4 (d.mpr h) e c a rfl b hk g
theorem sA (A:Ann) {f:Nat} {fn:Func} {fs:List (Nat×wQ)} {os:List (Nat×q7)} {s:q7} {P:Prop} (h:P) (g:PR.funcs[f]? =some fn) (hk:nN fs) (i:dz os) (e:Vn (ctx fn.ntmps fs os) A fn (qf fn) s=P:=by kernel_rfl) (d:fn.body=some (qf fn):=by kernel_rfl) (a:(fn.name== "runtime.NumGoroutine")=false:=by kernel_rfl) (c:Nat.ble s.ps.length fn.ntmps=true:=by kernel_rfl) (b:ai (Nc s.ps 0)=true:=by kernel_rfl):gX PR f s:=jdq (e.mpr h) g d a rfl c b hk i
theorem CN {f:Nat} {fn:Func} {fs:List (Nat×wQ)} {os:List (Nat×q7)} {s:q7} {P:Prop} (h:P) (g:PR.funcs[f]? =some fn) (hk:nN fs) (i:dz os) (e:Vn (ctx fn.ntmps fs os) (fun _=>none) fn (qf fn) s=P:=by kernel_rfl) (d:fn.body=some (qf fn):=by kernel_rfl) (a:(fn.name== "runtime.NumGoroutine")=false:=by kernel_rfl) (c:Nat.ble s.ps.length fn.ntmps=true:=by kernel_rfl) (b:ai (Nc s.ps 0)=true:=by kernel_rfl):gX PR f s:=jdq (e.mpr h) g d a rfl c b hk i
def Mv (n:Nat) (fs:List (Nat×wQ)) (os:List (Nat×q7)) (cs:List (Nat×pk)) (vs:List (Nat×HK)):Ctx:=⟨n,ti,fs,jex (jey n fs) os cs vs,strs,false⟩
def VK:List (Nat×pk)->Prop
 |[]=>True
 |p::r=>JZ PR p.1 p.2/\VK r
def VL:List (Nat×HK)->Prop
 |[]=>True
 |p::r=>VOK PR p.1 p.2/\VL r
theorem CO:∀{l:List (Nat×pk)},VK l->∀f s,wH l f=some s->JZ PR f s
 |[],_,f,s,h=>by simp[wH] at h
 | (j,x)::r,hk,f,s,h=>by
  simp only[wH] at h
  cases a:Nat.beq j f with
  |true=>rw[a] at h;simp at h;subst h;have:=jb a;subst this;exact hk.1
  |false=>rw[a] at h;exact CO hk.2 f s h
theorem CP:∀{l:List (Nat×HK)},VL l->∀f s,wH l f=some s->VOK PR f s
 |[],_,f,s,h=>by simp[wH] at h
 | (j,x)::r,hk,f,s,h=>by
  simp only[wH] at h
  cases a:Nat.beq j f with
  |true=>rw[a] at h;simp at h;subst h;have:=jb a;subst this;exact hk.1
  |false=>rw[a] at h;exact CP hk.2 f s h
theorem Nu {n:Nat} {fs:List (Nat×wQ)} {os:List (Nat×q7)} {cs:List (Nat×pk)} {vs:List (Nat×HK)} (h:nN fs) (c:dz os) (a:VK cs) (d:VL vs):(Mv n fs os cs vs).ok PR:=
 ⟨Ql YQ,eK h,QD,rfl,fun _ _ _ _ _ b=>RX (VJ h) (pq c) (CO a) (CP d) b⟩
theorem jdr {f:Nat} {fn:Func} {n:Nat} {fs:List (Nat×wQ)} {os:List (Nat×q7)} {s:pk} {A:Ann} (h:VB (ctx n fs os) A fn (qf fn) s) (d:PR.funcs[f]? =some fn) (c:fn.body=some (qf fn)) (a:(fn.name== "runtime.NumGoroutine")=false)
 (e:fn.ntmps=n) (b:Nat.ble s.ps.length n=true) (hk:nN fs) (g:dz os):JZ PR f s:=
 jdn (oD hk g) mixed d c a e (jy b) A h
end Go.X
namespace Go.X
open U
namespace L
theorem qM {α:Type} [Inhabited α] {l:List α} {i:Nat} (h:i<l.length):nth l i=l[i]:=by
 unfold nth;simp[h]
theorem wO {α:Type} [Inhabited α] {l:List α} {i:Nat} (h:i<l.length):l.take (i+1)=l.take i++[nth l i]:=by
 rw[qM h];exact List.take_succ_eq_append_getElem h
theorem wh {α:Type} [Inhabited α] {l:List α} {i:Nat} (h:i<l.length):nth l i∈l:=by
 rw[qM h];exact kP h
theorem mem_iff {α:Type} [Inhabited α] {l:List α} {x:α}:x∈l↔∃i,i<l.length/\nth l i=x:=by
 constructor;intro h;obtain⟨i,hi,e⟩:=List.getElem_of_mem h;exact⟨i,hi,by rw[qM hi,e]⟩;rintro⟨i,hi,rfl⟩;exact wh hi
theorem all_false {α:Type} [Inhabited α] {l:List α} {i:Nat} {p:α->Bool} (h:i<l.length) (a:p (nth l i)=false):l.all p=false:=by
 rw[zU];exact⟨nth l i,wh h,by simp[a]⟩
theorem FU {x:Int} (a: -9223372036854775808<=x) (b:x<=9223372036854775807):wm x:=⟨a,b⟩
end L
namespace BT
theorem Bs (k:Nat):(2:Int)^k=((2^k:Nat):Int):=by simp
theorem div_nat (n k:Nat):(n:Int)/2^k=((n/2^k:Nat):Int):=by simp
theorem pow63 {k:Nat} (h:k<=62):2^k<2^63:=Nat.pow_lt_pow_right (by decide) (by omega)
theorem ofInt_nat {n:Nat} (a:n<2^63):(BitVec.ofInt 64 (n:Int)).toNat=n:=by
 simp only[BitVec.toNat_ofInt];omega
theorem wrap_nat {n:Nat} (h:n<2^63):IntKind.i64.wrap (n:Int)=(n:Int):=by
 unfold IntKind.wrap;simp[IntKind.signed,IntKind.bits];omega
theorem wrapU_nat {n:Nat} (h:n<2^63):IntKind.u64.wrap (n:Int)=(n:Int):=by
 unfold IntKind.wrap;simp[IntKind.signed,IntKind.bits];omega
theorem band_nat {a b:Nat} (c:a<2^63) (d:b<2^63):fO (a:Int) (b:Int)=((a&&&b:Nat):Int):=by
 unfold fO;rw[BitVec.toNat_and,ofInt_nat c,ofInt_nat d];exact wrap_nat (kF Nat.and_le_left c)
theorem uand_nat {a b:Nat} (c:a<2^63) (d:b<2^63):gJ (a:Int) (b:Int)=((a&&&b:Nat):Int):=by
 unfold gJ;rw[BitVec.toNat_and,ofInt_nat c,ofInt_nat d];exact wrapU_nat (kF Nat.and_le_left c)
theorem bor_nat {a b:Nat} (c:a<2^63) (d:b<2^63):bor (a:Int) (b:Int)=((a|||b:Nat):Int):=by
 unfold bor;rw[BitVec.toNat_or,ofInt_nat c,ofInt_nat d,wrap_nat (ku c d)]
def qh (s:Int):Prop:=0<=s/\s<2^62
def has (s:Int) (p:Nat):Bool:=s.toNat.testBit p
theorem nat_of {s:Int} (h:qh s):∃n:Nat,s=(n:Int)/\n<2^62:=⟨s.toNat,by unfold qh at h;omega,by unfold qh at h;omega⟩
theorem lt63 {n:Nat} (h:n<2^62):n<2^63:=by omega
theorem has_shr {s:Int} (h:qh s) (p:Nat):decide (fO (s/2^p) 1=1)=has s p:=by
 obtain⟨n,rfl,b⟩:=nat_of h;unfold has;rw[jw,div_nat];have a:n/2^p<2^63:=kF (Nat.div_le_self _ _) (lt63 b);rw[show(1:Int)=((1:Nat):Int) from rfl,band_nat a (by decide),kG,kz];exact decide_eq_decide.2 ⟨fun h=>by omega,fun h=>by omega⟩
theorem has_ushr {s:Int} (h:qh s) (p:Nat):decide (gJ (s/2^p) 1=1)=has s p:=by
 obtain⟨n,rfl,b⟩:=nat_of h;unfold has;rw[jw,div_nat];have a:n/2^p<2^63:=kF (Nat.div_le_self _ _) (lt63 b);rw[show(1:Int)=((1:Nat):Int) from rfl,uand_nat a (by decide),kG,kz];exact decide_eq_decide.2 ⟨fun h=>by omega,fun h=>by omega⟩
theorem bit_num {s:Int} (h:qh s) (p:Nat):fO (s/2^p) 1=if has s p=true then 1 else 0:=by
 obtain⟨n,rfl,b⟩:=nat_of h;unfold has;rw[jw,div_nat];have a:n/2^p<2^63:=kF (Nat.div_le_self _ _) (lt63 b);rw[show(1:Int)=((1:Nat):Int) from rfl,band_nat a (by decide),kG,kz]
 split
 rename_i h;have:=ja h;omega;rename_i h;have:¬(n/2^p%2=1):=fun e=>h (jG e);omega
theorem tR (p:Nat):has 0 p=false:=by unfold has;simp
theorem Bt (k p:Nat):has ((2:Int)^k) p=decide (k=p):=by
 unfold has;rw[Bs,jw,Nat.testBit_two_pow]
theorem has_bor {a b:Int} (c:qh a) (d:qh b) (p:Nat):has (bor a b) p=(has a p||has b p):=by
 obtain⟨n,rfl,f⟩:=nat_of c;obtain⟨m,rfl,e⟩:=nat_of d;unfold has;rw[bor_nat (lt63 f) (lt63 e)];simp only[jw,kZ]
theorem bor_set {a b:Int} (e:qh a) (f:qh b):qh (bor a b):=by
 obtain⟨n,rfl,d⟩:=nat_of e;obtain⟨m,rfl,c⟩:=nat_of f;rw[bor_nat (lt63 d) (lt63 c)];have:n|||m<2^62:=ku d c;unfold qh;omega
theorem Ev:qh 0:=by unfold qh;omega
theorem iS {k:Nat} (h:k<=61):qh ((2:Int)^k):=by
 rw[Bs];have:2^k<2^62:=Nat.pow_lt_pow_right (by decide) (by omega);obtain⟨q,a⟩:∃q,q=2^k:=⟨_,rfl⟩;rw[<-a] at this⊢;unfold qh;omega
theorem ext {a b:Int} (c:qh a) (d:qh b) (h:∀p,has a p=has b p):a=b:=by
 obtain⟨n,rfl,f⟩:=nat_of c;obtain⟨m,rfl,e⟩:=nat_of d;have:n=m:=kf (fun i=>by have:=h i;unfold has at this;simpa using this);rw[this]
theorem has_lt {s:Int} {k:Nat} (c:0<=s) (h:s<2^k) {p:Nat} (b:has s p=true):p<k:=by
 obtain⟨n,rfl⟩:∃n:Nat,s=(n:Int):=⟨s.toNat,by omega⟩;rw[Bs] at h;unfold has at b;rw[jw] at b;have d:=Nat.ge_two_pow_of_testBit b;rcases Nat.lt_or_ge p k with a|a;exact a;have:=Nat.pow_le_pow_right (n:=2) (by decide) a;omega
theorem lt_of_has {s:Int} {k:Nat} (a:qh s) (h:∀p,has s p=true->p<k):s<2^k:=by
 obtain⟨n,rfl,b⟩:=nat_of a;rw[Bs];have:n<2^k:=Nat.lt_pow_two_of_testBit n (fun i hi=>by
  cases e:n.testBit i with
  |false=>rfl
  |true=>have:=h i (by unfold has;simpa using e);omega)
 omega
theorem or_two {n p:Nat} (h:n.testBit p=false):n+2^p=n|||2^p:=by
 have f:n=2^(p+1)*(n/2^(p+1))+n%2^(p+1):=(Nat.div_add_mod _ _).symm;have c:n%2^(p+1)<2^p:=by
  have b:n%2^(p+1)<2^(p+1):=Nat.mod_lt _ (Nat.pow_pos (by decide));rcases Nat.lt_or_ge (n%2^(p+1)) (2^p) with a|a
  .exact a
  .exfalso;have:(n%2^(p+1)).testBit p=true:=Nat.testBit_of_two_pow_le_and_two_pow_add_one_gt a b;rw[Nat.testBit_mod_two_pow,h] at this;simp at this
 apply kf;intro i;rw[kZ,Nat.testBit_two_pow];have e:n+2^p=2^(p+1)*(n/2^(p+1))+(2^p+n%2^(p+1)):=(by omega);have g:2^p+n%2^(p+1)<2^(p+1):=zC (Nat.add_lt_add_left c _) (by rw[Nat.pow_succ];omega);rw[e,kN _ g]
 conv=>rhs;rw[f,kN _ (Nat.mod_lt _ (Nat.pow_pos (by decide)))]
 have e2:2^p+n%2^(p+1)=2^p*1+n%2^(p+1):=(by omega);by_cases hi:i<p+1
 .rw[jg hi,jg hi,e2,kN _ c];by_cases d:i<p
  .rw[jg d,zn (by omega),kQ]
  .have:i=p:=(by omega);subst this;rw[jd d,Nat.sub_self,jG rfl,Bool.or_true];simp
 .rw[jd hi,jd hi,zn (by omega),kQ]
theorem add_two {s:Int} (b:qh s) {p:Nat} (c:p<=61) (h:has s p=false):s+2^p=bor s (2^p):=by
 obtain⟨n,rfl,a⟩:=nat_of b;rw[Bs,bor_nat (lt63 a) (pow63 (by omega))];unfold has at h;rw[jw] at h;rw[<-or_two h];omega
def size (s:Int):Int:=(((List.range 62).countP (fun p=>has s p):Nat):Int)
theorem size_zero:size 0=0:=by
 unfold size;have:(List.range 62).countP (fun p=>has 0 p)=0:=zX.2 (fun p _=>by rw[tR];simp);rw[this];rfl
theorem Bu (s:Int):0<=size s/\size s<=62:=by
 have:=List.countP_le_length (l:=List.range 62) (p:=fun p=>has s p);rw[zG] at this;unfold size;omega
theorem has_half {s:Int} (a:qh s) (p:Nat):has (s/2) p=has s (p+1):=by
 obtain⟨n,rfl,b⟩:=nat_of a;unfold has;have:((n:Int)/2).toNat=n/2:=(by omega);rw[this,jw,kA]
theorem size_half {s:Int} (d:qh s):size s=s%2+size (s/2):=by
 obtain⟨n,e,i⟩:=nat_of d;have b:has (s/2) 61=false:=by
  rw[has_half d];subst e;unfold has;rw[jw];exact Nat.testBit_lt_two_pow i
 have j:(List.range 62)=0::(List.range 61).map (·+1):=by
  rw[show(62:Nat)=61+1 from rfl,List.range_succ_eq_map]
 have c:(List.range 62)=List.range 61++[61]:=(by rw[show(62:Nat)=61+1 from rfl,zc]);have f:(has s 0=true)↔s%2=1:=by
  subst e;unfold has;rw[jw,Nat.testBit_zero];simp only[jp];omega
 have g:(List.range 62).countP (fun p=>has (s/2) p)=(List.range 61).countP (fun p=>has s (p+1)):=by
  rw[c,zK];simp only[kh,List.countP_nil,b];simp only[has_half d];simp
 unfold size;rw[g]
 conv=>lhs;rw[j]
 rw[kh,List.countP_map];have h:((fun p=>has s p)∘fun(x:Nat)=>x+1)=fun p=>has s (p+1):=rfl
 rw[h];by_cases a:has s 0=true
 .rw[jg a];have:=f.1 a;omega
 .rw[jd a];have:¬s%2=1:=fun e=>a (f.2 e);omega
end BT
namespace BT
theorem uor_nat {a b:Nat} (c:a<2^63) (d:b<2^63):uor (a:Int) (b:Int)=((a|||b:Nat):Int):=by
 unfold uor;rw[BitVec.toNat_or,ofInt_nat c,ofInt_nat d,wrapU_nat (ku c d)]
theorem has_uor {a b:Int} (c:qh a) (d:qh b) (p:Nat):has (uor a b) p=(has a p||has b p):=by
 obtain⟨n,rfl,f⟩:=nat_of c;obtain⟨m,rfl,e⟩:=nat_of d;unfold has;rw[uor_nat (lt63 f) (lt63 e)];simp only[jw,kZ]
theorem uor_set {a b:Int} (e:qh a) (f:qh b):qh (uor a b):=by
 obtain⟨n,rfl,d⟩:=nat_of e;obtain⟨m,rfl,c⟩:=nat_of f;rw[uor_nat (lt63 d) (lt63 c)];have:n|||m<2^62:=ku d c;unfold qh;omega
theorem pred_odd (k:Nat):(2*k+1)&&&(2*k+1-1)=2*k:=by
 apply kf;intro i;rw[Nat.testBit_and,Nat.add_sub_cancel];cases i with
 |zero=>simp
 |succ i=>
  rw[kA,kA];have:(2*k+1)/2=k:=(by omega);have a:(2*k)/2=k:=(by omega);rw[this,a,Bool.and_self]
theorem pred_even (k:Nat) (_:k≠0):(2*k)&&&(2*k-1)=2*(k&&&(k-1)):=by
 apply kf;intro i;rw[Nat.testBit_and];cases i with
 |zero=>simp
 |succ i=>
  rw[kA,kA,kA];have:(2*k)/2=k:=(by omega);have a:(2*k-1)/2=k-1:=(by omega);have b:(2*(k&&&(k-1)))/2=k&&&(k-1):=(by omega);rw[this,a,b,Nat.testBit_and]
theorem size_dbl {k:Nat} (h:k<2^61):size ((2*k:Nat):Int)=size (k:Int):=by
 rw[size_half (s:=((2*k:Nat):Int)) (by unfold qh;omega)];have a:((2*k:Nat):Int)%2=0:=(by omega);have b:((2*k:Nat):Int)/2=(k:Int):=(by omega);rw[a,b];omega
theorem size_odd {k:Nat} (h:k<2^61):size ((2*k+1:Nat):Int)=1+size (k:Int):=by
 rw[size_half (s:=((2*k+1:Nat):Int)) (by unfold qh;omega)];have a:((2*k+1:Nat):Int)%2=1:=(by omega);have b:((2*k+1:Nat):Int)/2=(k:Int):=(by omega);rw[a,b]
theorem pred_nat:∀(n:Nat),n≠0->n<2^62->(n&&&(n-1))<n/\size ((n&&&(n-1):Nat):Int)+1=size (n:Int)
 |n,b,d=>by
  rcases Nat.mod_two_eq_zero_or_one n with e|e
  obtain⟨k,rfl⟩:∃k,n=2*k:=⟨n/2,by omega⟩
  have hk:k≠0:=by omega
  obtain⟨c,a⟩:=pred_nat k hk (by omega)
  rw[pred_even k hk]
  exact⟨by omega,by rw[size_dbl (by omega),size_dbl (by omega)];exact a⟩
  obtain⟨k,rfl⟩:∃k,n=2*k+1:=⟨n/2,by omega⟩
  rw[pred_odd]
  exact⟨by omega,by rw[size_dbl (by omega),size_odd (by omega)];omega⟩
termination_by n=>n
theorem pred {s:Int} (d:qh s) (h:s≠0):qh (gJ s (s-1))/\gJ s (s-1)<s/\size (gJ s (s-1))+1=size s:=by
 obtain⟨n,rfl,a⟩:=nat_of d;have b:n≠0:=(by omega);have e:(n:Int)-1=((n-1:Nat):Int):=(by omega);rw[e,uand_nat (lt63 a) (by omega)];obtain⟨f,c⟩:=pred_nat n b a;exact⟨by unfold qh;omega,by omega,c⟩
end BT
namespace U
def fD {α:Type} (eq:α->α->Bool) (p:α):List α->List α
 |[]=>[]
 |y::r=>if eq y p=true then fD eq y r else y::fD eq y r
def bN {α:Type} (eq:α->α->Bool):List α->List α
 |[]=>[]
 |x::r=>x::fD eq x r
def jcB {α:Type} (eq:α->α->Bool) (l:List α) (i:Nat):Prop:=1<=i/\i<=l.length/\bN eq (l.take i)=l.take i
def oI {α:Type} (eq:α->α->Bool) (l:List α) (n:Nat):Int:=((bN eq (l.take n)).length:Int)
def PG {α:Type} (eq:α->α->Bool) (l:List α) (i k:Nat) (r:List α):Prop:=1<=k/\i+k<=l.length/\r.length=l.length/\bN eq (l.take (i+k))=r.take (bN eq (l.take (i+k))).length/\r.drop (i+k-1)=l.drop (i+k-1)/\(bN eq (l.take (i+k))).length<i+k
end U
namespace L
theorem nodup_len {α:Type}:∀(a b:List α),a.Nodup->(∀x∈a,x∈b)->a.length<=b.length
 |[],_,_,_=>by simp
 |x::a,b,hn,h=>by
  obtain⟨e,f,rfl⟩:=List.append_of_mem (h x (by simp))
  rw[zt] at hn
  have:=nodup_len a (e++f) hn.2 (fun y d=>by
   have:=h y (by simp[d])
   rw[jr,jk] at this
   rw[jr]
   rcases this with c|c|c
   exact .inl c
   subst c;exact absurd d hn.1
   exact .inr c)
  simp at this⊢
  omega
theorem oM {α:Type} [DecidableEq α]:∀{a b:List α},a.Nodup->b.Nodup->(∀n,n∈a↔n∈b)->a.Perm b
 |[],b,_,_,h=>by
  have:b=[]:=by
   cases b with
   |nil=>rfl
   |cons x r=>exact absurd ((h x).2 (by simp)) (by simp)
  rw[this]
 |x::r,b,ha,hb,h=>by
  have i:x∈b:=(h x).1 (by simp);have f:=List.perm_cons_erase i;refine(List.Perm.cons x (oM (zt.1 ha).2 (hb.erase x) (fun n=> ?_))).trans f.symm;rw[hb.mem_erase_iff];constructor;intro c;exact⟨fun e=>by subst e;exact(zt.1 ha).1 c,(h n).1 (jm _ c)⟩;rintro⟨d,c⟩;rcases jk.1 ((h n).2 c) with e|g;exact absurd e d;exact g
theorem nodup_inj {α β:Type} {f:α->β}:∀{l:List α},(l.map f).Nodup->∀{x y:α},x∈l->y∈l->f x=f y->x=y
 |[],_,_,_,h,_,_=>by simp at h
 |a::r,hn,x,y,hx,hy,e=>by
  simp only[zz,zt] at hn
  rcases jk.1 hx with rfl|c
  rcases jk.1 hy with rfl|b
  rfl
  exact absurd (jV.2 ⟨y,b,e.symm⟩) hn.1
  rcases jk.1 hy with rfl|b
  exact absurd (jV.2 ⟨x,c,e⟩) hn.1
  exact nodup_inj hn.2 c b e
theorem nth_take {α:Type} [Inhabited α] {l:List α} {i n:Nat} (h:i<n):nth (l.take n) i=nth l i:=by
 unfold nth;rw[ze,ze,jQ h]
theorem nth_drop {α:Type} [Inhabited α] {l r:List α} {a n:Nat} (h:l.drop a=r.drop a) (b:a<=n):nth l n=nth r n:=by
 have e:=jF (fun x=>x[n-a]?) h;simp only[zh] at e;rw[show a+(n-a)=n by omega] at e;unfold nth;rw[ze,ze,e]
theorem nth_map {α β:Type} [Inhabited α] [Inhabited β] {f:α->β} {l:List α} {i:Nat} (h:i<l.length):nth (l.map f) i=f (nth l i):=by
 rw[qM (by simpa using h),qM h];simp
theorem bj {α:Type} [Inhabited α] {l:List α} {i j:Nat} {x:α} (h:i<l.length):nth (l.set i x) j=if i=j then x else nth l j:=by
 unfold nth;rw[ze,ze,kr]
 split
 rename_i e;subst e;simp[h];rfl
theorem Bv {α:Type} [Inhabited α] {n i:Nat} {x:α} (h:i<n):nth (List.replicate n x) i=x:=by
 unfold nth;rw[ze,kC,jg h];rfl
theorem ext_nth {α:Type} [Inhabited α] {a b:List α} (h:a.length=b.length) (d:∀i,i<a.length->nth a i=nth b i):a=b:=by
 apply List.ext_getElem h;intro i c e;rw[<-qM c,<-qM e];exact d i c
theorem range_map_nth {α:Type} [Inhabited α] (l:List α):(List.range l.length).map (nth l)=l:=by
 apply ext_nth;simp;intro i hi;rw[nth_map (by simpa using hi)];congr 1;rw[qM (by simpa using hi)];simp
section
variable {α:Type} [Inhabited α] {eq:α->α->Bool}
theorem compT_snoc (y:α):∀(r:List α) (p:α),fD eq p (r++[y])=fD eq p r++(if eq y (nth (p::r) r.length)=true then[] else[y])
 |[],p=>rfl
 |z::r,p=>by
  have e:nth (p::z::r) (z::r).length=nth (z::r) r.length:=rfl
  rw[e]
  simp only[j7,fD]
  split
  exact compT_snoc y r z
  rw[compT_snoc y r z];rfl
theorem comp_snoc (y:α) {l:List α} (h:l≠[]):bN eq (l++[y])=bN eq l++(if eq y (nth l (l.length-1))=true then[] else[y]):=by
 cases l with
 |nil=>exact absurd rfl h
 |cons x r=>
  show x::fD eq x (r++[y])=_;rw[compT_snoc];have:(x::r).length-1=r.length:=(by simp);rw[this];rfl
theorem comp_take {l:List α} {n:Nat} (b:1<=n) (a:n<l.length):bN eq (l.take (n+1))=bN eq (l.take n)++(if eq (nth l n) (nth l (n-1))=true then[] else[nth l n]):=by
 rw[L.wO a,comp_snoc];have e:(l.take n).length-1=n-1:=(by rw[j6];omega);rw[e,nth_take (by omega)];intro e;have:=jF List.length e;rw[j6,zr] at this;omega
end
theorem comp_short {α:Type} {eq:α->α->Bool} {l:List α} (h:l.length<2):bN eq l=l:=by
 match l,h with
 |[],_=>rfl
 |[x],_=>rfl
theorem comp_len {α:Type} {eq:α->α->Bool} (l:List α):(bN eq l).length<=l.length:=by
 have:∀(r:List α) (p:α),(fD eq p r).length<=r.length:=by
  intro r
  induction r with
  |nil=>intro p;simp[fD]
  |cons y r a=>
   intro p;unfold fD
   split
   have:=a y;simp;omega;have:=a y;simp;omega
 cases l with
 |nil=>simp[bN]
 |cons x r=>have:=this r x;simp[bN];omega
theorem inv9_next {α:Type} [Inhabited α] {eq:α->α->Bool} {l r:List α} {i k:Nat} (hi:1<=i) (h:PG eq l i k r) (g:i+k<l.length):
 (eq (nth r (i+k)) (nth r (i+k-1))=false->oI eq l (i+(k+1))=oI eq l (i+k)+1/\PG eq l i (k+1) (r.set (oI eq l (i+k)).toNat (nth r (i+k))))/\
 (eq (nth r (i+k)) (nth r (i+k-1))=true->oI eq l (i+(k+1))=oI eq l (i+k)/\PG eq l i (k+1) r):=by
 obtain⟨s,t,j,d,e,p⟩:=h;have o:nth r (i+k)=nth l (i+k):=nth_drop e (by omega);have e2:nth r (i+k-1)=nth l (i+k-1):=nth_drop e (by omega);have a:=comp_take (eq:=eq) (l:=l) (n:=i+k) (by omega) g;rw[show i+k+1=i+(k+1) by omega] at a;have m:r.drop (i+k)=l.drop (i+k):=by
  have:=jF (List.drop 1) e;rw[List.drop_drop,List.drop_drop,show i+k-1+1=i+k by omega] at this;exact this
 rw[o,e2];obtain⟨c,b⟩:∃c,c=bN eq (l.take (i+k)):=⟨_,rfl⟩;rw[<-b] at a d p;have q:(oI eq l (i+k))=(c.length:Int):=(by unfold oI;rw[<-b]);rw[q];refine⟨fun f=> ?_,fun f=> ?_⟩;rw[jd (by rw[f];simp)] at a;refine⟨by unfold oI;rw[a];simp,by omega,by omega,by simpa using j,?_,?_,?_⟩;rw[a];simp only[jw,jI,j8,zr];rw[List.take_add_one,List.getElem?_set_self (by omega)];rw[List.take_set_of_le (by omega),<-d];rfl;rw[show i+(k+1)-1=i+k by omega];simp only[jw];rw[List.drop_set_of_lt (by omega)];exact m;rw[a];simp;omega;rw[jg f,jZ] at a;refine⟨by unfold oI;rw[a],by omega,by omega,j,?_,?_,?_⟩;rw[a];exact d;rw[show i+(k+1)-1=i+k by omega];exact m;rw[a];omega
theorem compT_sub {α:Type} {eq:α->α->Bool}:∀(r:List α) (p x:α),x∈fD eq p r->x∈r
 |[],_,_,h=>by simp[fD] at h
 |y::r,p,x,h=>by
  unfold fD at h
  split at h
  exact jm _ (compT_sub r y x h)
  rcases jk.1 h with rfl|h
  simp
  exact jm _ (compT_sub r y x h)
theorem comp_sub {α:Type} {eq:α->α->Bool} {l:List α} {x:α} (h:x∈bN eq l):x∈l:=by
 cases l with
 |nil=>simp[bN] at h
 |cons y r=>
  unfold bN at h;rcases jk.1 h with rfl|h;simp;exact jm _ (compT_sub r y x h)
theorem compT_mem {α:Type} [DecidableEq α]:∀(r:List α) (p x:α),x∈r->x=p\/x∈fD (fun a b=>decide (a=b)) p r
 |y::r,p,x,h=>by
  unfold fD
  rcases jk.1 h with rfl|h
  by_cases e:x=p
  exact .inl e
  rw[jd (by simpa using e)];right;simp
  rcases compT_mem r y x h with rfl|c
  by_cases e:x=p
  exact .inl e
  rw[jd (by simpa using e)];right;simp
  right
  split
  exact c
  exact jm _ c
theorem comp_mem {α:Type} [DecidableEq α] {l:List α} {x:α}:x∈bN (fun a b=>decide (a=b)) l↔x∈l:=by
 refine⟨comp_sub,fun h=> ?_⟩;cases l with
 |nil=>simp at h
 |cons y r=>
  unfold bN;rcases jk.1 h with rfl|h;simp;rcases compT_mem r y x h with rfl|c;simp;exact jm _ c
theorem comp_asc {α:Type} [DecidableEq α] {lt:α->α->Bool}:∀{l:List α},yc lt l->RY lt l->(bN (fun a b=>decide (a=b)) l).Pairwise (fun a b=>lt a b=true):=by
 have i:∀(r:List α) (p:α),yc lt (p::r)->RY lt (p::r)->(p::fD (fun a b=>decide (a=b)) p r).Pairwise (fun a b=>lt a b=true):=by
  intro r
  induction r with
  |nil=>intro p _ _;exact List.pairwise_singleton _ _
  |cons y r n=>
   intro p f j;have d:=zA.1 j;have k:yc lt (y::r):=f.sub (fun z c=>jm _ c);have hi:=n y k d.2;unfold fD;by_cases e:y=p;rw[jg (by simpa using e)];subst e;exact hi;rw[jd (by simpa using e)];refine zA.2 ⟨fun z c=> ?_,hi⟩;have g:lt p y=true:=by
    cases h:lt p y with
    |true=>rfl
    |false=>exact absurd (f.total p y (by simp) (by simp) h (d.1 y (by simp))).symm e
   rcases jk.1 c with rfl|c;exact g;have m:=compT_sub r y z c;exact f.trans p y z (by simp) (by simp) (by simp[m]) g ((zA.1 hi).1 z c)
 intro l f j;cases l with
 |nil=>exact List.Pairwise.nil
 |cons p r=>exact i r p f j
theorem asc_nodup {α:Type} {lt:α->α->Bool} {l:List α} (hi:∀x,lt x x=false) (h:l.Pairwise (fun a b=>lt a b=true)):l.Nodup:=
 h.imp (fun{a b} h e=>by subst e;rw[hi] at h;cases h)
theorem filter_take {α:Type} [Inhabited α] {p:α->Bool} {l:List α} {i:Nat} (h:i<l.length):(l.take (i+1)).filter p=(l.take i).filter p++(if p (nth l i)=true then[nth l i] else[]):=by
 rw[wO h,kE];congr 1;by_cases e:p (nth l i)=true<;>simp[e]
theorem yf {p:Nat->Bool} {n:Nat}:(List.range (n+1)).filter p=(List.range n).filter p++(if p n=true then[n] else[]):=by
 rw[zc,kE];congr 1;by_cases e:p n=true<;>simp[e]
end L
end Go.X
namespace Go.X
open U
abbrev tSp:Ty:= .st [.int,.int]
abbrev tPe:Ty:= .st [.slice .int,.int,.int,.slice .int,.bool,.int]
abbrev tLw:Ty:= .st [.int,.int,.bool]
abbrev tCr:Ty:= .st [.int,.slice tPe,.slice tLw]
abbrev tJb:Ty:= .st [.int,.int,.int,.int,.int,.int]
abbrev tBk:Ty:= .st [tJb,.int,.int,.int]
abbrev tSh:Ty:= .st [.int,.int,.int,.int,.int]
abbrev tDy:Ty:= .st [tCr,.slice (.slice tSp),.slice tBk,.int,.int,.slice tSh]
abbrev SpD:Type:=Int×Int×Unit
abbrev PeD:Type:=List Int×Int×Int×List Int×Bool×Int×Unit
abbrev LwD:Type:=Int×Int×Bool×Unit
abbrev CrD:Type:=Int×List PeD×List LwD×Unit
abbrev JbD:Type:=Int×Int×Int×Int×Int×Int×Unit
abbrev BkD:Type:=JbD×Int×Int×Int×Unit
abbrev ShD:Type:=Int×Int×Int×Int×Int×Unit
abbrev DyD:Type:=CrD×List (List SpD)×List BkD×Int×Int×List ShD×Unit
namespace U
def lo (s:SpD):Int:=s.1
def hi (s:SpD):Int:=s.2.1
def k8 (n a b:Int):Bool:=decide (a<=n)&&decide (n<=b)
def lv (p:PeD):List Int:=p.1
def fd (p:PeD):Int:=p.2.1
def cl (p:PeD):Int:=p.2.2.1
def q9 (p:PeD):List Int:=p.2.2.2.1
def jcC (p:PeD):Bool:=p.2.2.2.2.1
def fe (p:PeD):Int:=p.2.2.2.2.2.1
def Um (l:LwD):Int:=l.1
def jcD (l:LwD):Int:=l.2.1
def jej (l:LwD):Bool:=l.2.2.1
def la (c:CrD):Int:=c.1
def wi (c:CrD):List PeD:=c.2.1
def yR (c:CrD):List LwD:=c.2.2.1
def Mw (j:JbD):Int:=j.1
def G1 (j:JbD):Int:=j.2.1
def X6 (j:JbD):Int:=j.2.2.1
def PH (j:JbD):Int:=j.2.2.2.1
def bU (j:JbD):Int:=j.2.2.2.2.1
def Z4 (j:JbD):Int:=j.2.2.2.2.2.1
def yS (b:BkD):JbD:=b.1
def T9 (b:BkD):Int:=b.2.1
def w8 (b:BkD):Int:=b.2.2.1
def gn (b:BkD):Int:=b.2.2.2.1
def gx (s:ShD):Int:=s.1
def Ez (s:ShD):Int:=s.2.1
def XS (s:ShD):Int:=s.2.2.1
def lL (s:ShD):Int:=s.2.2.2.1
def ao (s:ShD):Int:=s.2.2.2.2.1
def wq (d:DyD):CrD:=d.1
def w6 (d:DyD):List (List SpD):=d.2.1
def wo (d:DyD):List BkD:=d.2.2.1
def A0 (d:DyD):Int:=d.2.2.2.1
def Z5 (d:DyD):Int:=d.2.2.2.2.1
def w7 (d:DyD):List ShD:=d.2.2.2.2.2.1
def fE (L:Int) (p:PeD):Bool:=decide (((lv p).length:Int)=L/\0<=fd p/\fd p<=255/\0<=cl p/\cl p<=255/\(q9 p).length<=10/\0<=fe p/\fe p<=1000)&&((lv p).all (fun n=>k8 n 0 5)&&(q9 p).all (fun n=>k8 n 0 99))
def fF (l:LwD):Bool:=k8 (Um l) 1 5&&k8 (jcD l) 1 8
def wt (c:CrD):Bool:=decide (2<=la c/\la c<=5/\(wi c).length<=8/\(yR c).length=4)&&((wi c).all (fE (la c))&&(yR c).all fF)
def qb (c:CrD) (j:JbD):Bool:=decide (0<=Mw j/\Mw j<=la c-1/\0<=G1 j/\G1 j<=la c-1/\Mw j≠G1 j/\0<=X6 j/\X6 j<=99/\0<=PH j/\PH j<=7/\0<=bU j/\bU j<=3/\1<=Z4 j/\Z4 j<=8)
def vE (c:CrD) (j:JbD):Int:=if wt c=false then 30 else if qb c j=false then 31 else 0
def tG (s:SpD):Bool:=decide (0<=lo s/\lo s<=hi s/\hi s<=300)
def cJ (n:Nat) (r:List SpD):Bool:=decide (r.length=n)&&r.all tG
def mT (n:Nat) (b:BkD):Bool:=decide (0<=T9 b/\T9 b<=(n:Int)-1/\0<=w8 b/\w8 b<gn b/\gn b<=1440)
def mU (nb a:Nat) (s:ShD):Bool:=decide (0<=gx s/\gx s<=99/\0<=Ez s/\Ez s<=9999/\1<=XS s/\XS s<=2/\0<=lL s/\lL s<=(nb:Int)-1/\0<=ao s/\ao s<=(a:Int)-1)
def qv (d:DyD):Bool:=decide ((wo d).length<=4/\1<=(w6 d).length/\(w6 d).length<=5/\0<=A0 d/\A0 d<=300/\0<=Z5 d/\Z5 d<=1440/\(w7 d).length<=30)&&
 ((w6 d).all (cJ (w6 d).length)&&((wo d).all (mT (w6 d).length)&&(w7 d).all (mU (wo d).length (wi (wq d)).length)))
def Em (a b:ShD):Bool:=decide (gx a=gx b)&& !decide (a=b)
def Bp (l:List ShD) (i:Nat):Bool:=(l.take i).any (Em (nth l i))
def aB (l:List ShD) (n:Nat):Bool:=(List.range n).any (Bp l)
def bV (l:List ShD):Bool:=aB l l.length
def I4 (d:DyD):Bool:=(wo d).all (fun b=>qb (wq d) (yS b))
def aj (d:DyD):Int:=if wt (wq d)=false then 30 else if I4 d=false then 31 else if qv d=false then 50 else if bV (w7 d)=true then 51 else 0
def mV (l:List ShD) (i:Nat):Bool:= !((l.take i).any (fun x=>decide (x=nth l i)))
def cK (l:List ShD) (n m:Nat):List ShD:=((List.range n).filter (fun i=>decide (gx (nth l i)=(m:Int))&&mV l i)).map (nth l)
def vN (l:List ShD) (n:Nat):List ShD:=(List.range n).flatMap (cK l l.length)
def we (l:List ShD):List ShD:=vN l 100
def cL (p:PeD) (a:Int):Bool:=(q9 p).any (fun t=>decide (t=a))
def qd (s n:Int):Bool:=decide (fO (s/2^n.toNat) 1=1)
def qD (c:CrD) (j:JbD) (p:Int):Bool:= !(cL (nth (wi c) p.toNat) (X6 j))&&qd (fd (nth (wi c) p.toNat)) (PH j)&&qd (cl (nth (wi c) p.toNat)) (bU j)
def bk (d:DyD) (b:Int):BkD:=nth (wo d) b.toNat
def PI (d:DyD) (a b:Int):Int:=hi (nth (nth (w6 d) (T9 (bk d a)).toNat) (T9 (bk d b)).toNat)
def ak (d:DyD) (a b:Int):Bool:=decide (w8 (bk d a)<w8 (bk d b)\/(w8 (bk d a)=w8 (bk d b)/\a<b))
def bG (d:DyD) (a b:Int):Int:=w8 (bk d b)-gn (bk d a)-A0 d-PI d a b
def w5 (d:DyD) (a b:Int):Bool:=if ak d b a=true then decide (0<=bG d b a) else decide (0<=bG d a b)
def I5 (d:DyD) (l:List Int):Int:=(l.map (fun b=>gn (bk d b)-w8 (bk d b))).foldl (·+·) 0
def jaL (d:DyD) (l:List Int):Bool:=(List.range l.length).all (fun i=>(l.take i).all (fun b=>w5 d (nth l i) b))
def gp (d:DyD) (p:Int) (l:List Int):Bool:=l.all (fun b=>qD (wq d) (yS (bk d b)) p)&&(jaL d l&&decide (I5 d l<=Z5 d))
def qX (a b:ShD):Bool:=decide (Ez b<Ez a\/(Ez a=Ez b/\gx b<gx a))
def Bq (l:List ShD) (s:ShD):Bool:=decide (XS s=1)&& !(l.any (fun t=>decide (lL t=lL s)&&decide (ao t=ao s)&&qX t s))
def jcE (a b:ShD):Bool:=qX b a
def oi (t:List Int) (p:Int) (n:Nat):List Int:=((List.range n).filter (fun b=>qd (nth t b) p)).map (fun(b:Nat)=>(b:Int))
def on (t:List Int) (p:Int):List Int:=oi t p t.length
def cq (d:DyD) (x:List Int×List Int) (s:ShD):List Int×List Int:=
 if gp d (ao s) (on x.1 (ao s)++[lL s])=true then(x.1.set (lL s).toNat (nth x.1 (lL s).toNat+2^(ao s).toNat),x.2) else(x.1,x.2++[gx s])
def lf (c:CrD) (t:Int) (d a b:Int):Bool:=(List.range (wi c).length).any (fun i=>qd t (i:Int)&&decide (d<=nth (lv (nth (wi c) i)) a.toNat)&&decide (d<=nth (lv (nth (wi c) i)) b.toNat))
def db (c:CrD) (j:JbD):LwD:=nth (yR c) (bU j).toNat
end U
inductive Rch (J:Nat->Nat->Bool) (n s:Nat):Nat->Prop where
 |base:Rch J n s s
 |step {a b:Nat}:Rch J n s a->b<n->J a b=true->Rch J n s b
theorem Rch.lt {J:Nat->Nat->Bool} {n s t:Nat} (a:s<n) (h:Rch J n s t):t<n:=by
 cases h with
 |base=>exact a
 |step _ h _=>exact h
theorem Rch.trans {J:Nat->Nat->Bool} {n s t u:Nat} (a:Rch J n s t) (b:Rch J n t u):Rch J n s u:=by
 induction b with
 |base=>exact a
 |step _ c d e=>exact .step e c d
theorem Rch.symm {J:Nat->Nat->Bool} {n s t:Nat} (c:∀a b,J a b=J b a) (f:s<n) (h:Rch J n s t):Rch J n t s:=by
 induction h with
 |base=>exact .base
 |step d i e g=>
  rename_i a b;have:Rch J n b a:= .step .base (d.lt f) (by rw[c];exact e);exact this.trans g
theorem Rch.closed {J:Nat->Nat->Bool} {n s t:Nat} {S:Nat->Prop} (i:s<n) (c:S s) (f:∀a b,a<n->S a->b<n->J a b=true->S b) (h:Rch J n s t):S t:=by
 induction h with
 |base=>exact c
 |step d e g j=>exact f _ _ (d.lt i) j e g
namespace U
def nJ (J:Nat->Nat->Bool) (r a:Nat) (out:List Int) (b:Nat):List Int:=if nth out a=(r:Int)/\nth out b<0/\J a b=true then out.set b ((r:Int)+1) else out
def yB (J:Nat->Nat->Bool) (r a:Nat) (out:List Int) (k:Nat):List Int:=(List.range k).foldl (nJ J r a) out
def vW (J:Nat->Nat->Bool) (n r:Nat) (out:List Int) (k:Nat):List Int:=(List.range k).foldl (fun o a=>yB J r a o n) out
def y6 (n s:Nat):List Int:=(List.replicate n (-1:Int)).set s 0
def qI (J:Nat->Nat->Bool) (n s k:Nat):List Int:=(List.range k).foldl (fun o r=>vW J n r o n) (y6 n s)
def tH (J:Nat->Nat->Bool) (q:Nat) (x:List Int×List Int) (b:Nat):List Int×List Int:=if nth x.1 b<0/\J q b=true then(x.1.set b (nth x.1 q+1),x.2++[(b:Int)]) else x
def tI (J:Nat->Nat->Bool) (q:Nat) (x:List Int×List Int) (k:Nat):List Int×List Int:=(List.range k).foldl (tH J q) x
def aC (J:Nat->Nat->Bool) (n:Nat) (x:List Int×List Int):List Int×List Int:=match x.2 with
 |[]=>x
 |q::_=>((tI J q.toNat x n).1,(tI J q.toNat x n).2.drop 1)
def aL (J:Nat->Nat->Bool) (n s:Nat):Nat->List Int×List Int
 |0=>(y6 n s,[(s:Int)])
 |k+1=>aC J n (aL J n s k)
def jd4 (J:Nat->Nat->Bool) (n s:Nat):List Int:=(aL J n s (n+1)).1
end U
theorem pu (n s:Nat):(y6 n s).length=n:=by unfold y6;simp
theorem CQ {n s x:Nat} (a:s<n) (b:x<n):nth (y6 n s) x=if s=x then 0 else-1:=by
 unfold y6;rw[L.bj (by simpa using a),L.Bv b]
structure Uj (J:Nat->Nat->Bool) (n s r a b:Nat) (out:List Int):Prop where
 len:out.length=n
 val:∀x,x<n->nth out x= -1\/(0<=nth out x/\nth out x<=(r:Int)+1)
 top:(a=0/\b=0)->∀x,x<n->nth out x<=(r:Int)
 zero:0<=nth out s
 rch:∀x,x<n->0<=nth out x->Rch J n s x
 lev:∀x,x<n->0<nth out x->∃y,y<n/\nth out y=nth out x-1
 cls:∀x y,x<n->y<n->0<=nth out x->(nth out x<(r:Int)\/(nth out x=(r:Int)/\(x<a\/(x=a/\y<b))))->J x y=true->0<=nth out y
theorem VM {J:Nat->Nat->Bool} {n s r a b:Nat} {out:List Int} (_:s<n) (t:a<n) (u:b<n) (h:Uj J n s r a b out):Uj J n s r a (b+1) (nJ J r a out b):=by
 unfold nJ
 split
 rename_i q;obtain⟨c1,c2,v⟩:=q;have p:b<out.length:=(by rw[h.len];exact u);have c:∀j,nth (out.set b ((r:Int)+1)) j=if b=j then(r:Int)+1 else nth out j:=fun j=>L.bj p
 have o:b≠a:=fun e=>by subst e;omega
 refine⟨by simpa using h.len,fun x g=> ?_,fun e=>by omega,?_,fun x g f=> ?_,fun x g f=> ?_,fun x y g k f d l=> ?_⟩;rw[c];split;right;omega;exact h.val x g;rw[c];split;omega;exact h.zero;rw[c] at f
 split at f
 rename_i e;subst e;exact .step (h.rch a t (by omega)) u v;exact h.rch x g f;rw[c] at f⊢
 split at f
 rename_i e;subst e;rw[jg rfl];exact⟨a,t,by rw[c,jd o];omega⟩;rename_i e;rw[jd e];obtain⟨y,k,e2⟩:=h.lev x g f;refine⟨y,k,?_⟩;rw[c,jd (fun e=>by subst e;omega)];exact e2;rw[c] at f d⊢
 split
 omega;rename_i z
 split at f
 rename_i e;rw[jg e] at d;omega;rename_i e;rw[jd e] at d;refine h.cls x y g k f ?_ l;rcases d with d|⟨d,i|⟨i,w⟩⟩;exact .inl d;exact .inr ⟨d,.inl i⟩;exact .inr ⟨d,.inr ⟨i,by omega⟩⟩;rename_i q;refine⟨h.len,h.val,fun e=>by omega,h.zero,h.rch,h.lev,fun x y g k f d l=> ?_⟩;rcases d with d|⟨d,i|⟨i,w⟩⟩;exact h.cls x y g k f (.inl d) l;exact h.cls x y g k f (.inr ⟨d,.inl i⟩) l;by_cases e:y=b;subst e;subst i;rcases Int.lt_or_le (nth out y) 0 with m|m;exact absurd ⟨d,m,l⟩ q;exact m;exact h.cls x y g k f (.inr ⟨d,.inr ⟨i,by omega⟩⟩) l
theorem jas {J:Nat->Nat->Bool} {n s r a:Nat} {out:List Int} (c:s<n) (b:a<n) (h:Uj J n s r a 0 out):∀k,k<=n->Uj J n s r a k (yB J r a out k)
 |0,_=>h
 |k+1,hk=>by
  have:=VM c b (show k<n by omega) (jas c b h k (by omega))
  unfold yB at this⊢
  rw[zc,jU];exact this
theorem jbD {J:Nat->Nat->Bool} {n s r a:Nat} {out:List Int} (_:0<n) (h:Uj J n s r a n out):Uj J n s r (a+1) 0 out:=by
 refine⟨h.len,h.val,fun e=>by omega,h.zero,h.rch,h.lev,fun x y i c d b g=>h.cls x y i c d ?_ g⟩;rcases b with b|⟨b,f|⟨f,j⟩⟩;exact .inl b;by_cases e:x=a;exact .inr ⟨b,.inr ⟨e,c⟩⟩;exact .inr ⟨b,.inl (by omega)⟩;omega
theorem jat {J:Nat->Nat->Bool} {n s r:Nat} {out:List Int} (a:s<n) (h:Uj J n s r 0 0 out):∀k,k<=n->Uj J n s r k 0 (vW J n r out k)
 |0,_=>h
 |k+1,hk=>by
  have:=jbD (by omega) (jas a (show k<n by omega) (jat a h k (by omega)) n (jj _))
  unfold vW at this⊢
  rw[zc,jU];exact this
theorem jbE {J:Nat->Nat->Bool} {n s r:Nat} {out:List Int} (h:Uj J n s r n 0 out):Uj J n s (r+1) 0 0 out:=by
 refine⟨h.len,fun x a=> ?_,fun _ x a=> ?_,h.zero,h.rch,h.lev,fun x y a i d b g=>h.cls x y a i d ?_ g⟩;rcases h.val x a with e|⟨c,e2⟩;exact .inl e;exact .inr ⟨c,by omega⟩;rcases h.val x a with e|⟨c,e2⟩<;>omega
 rcases b with b|⟨b,f|⟨f,j⟩⟩;by_cases e:nth out x=(r:Int);exact .inr ⟨e,.inl a⟩;exact .inl (by omega);omega;omega
theorem jau {J:Nat->Nat->Bool} {n s:Nat} (c:s<n):∀k,Uj J n s k 0 0 (qI J n s k)
 |0=>by
  have hi:∀x,x<n->nth (qI J n s 0) x=if s=x then 0 else-1:=fun x a=>CQ c a
  refine⟨pu n s,fun x a=> ?_,fun _ x a=> ?_,by rw[hi s c,jg rfl];omega,fun x a b=> ?_,fun x a b=> ?_,fun x y a g b f d=> ?_⟩
  rw[hi x a];split<;>simp
  rw[hi x a];split<;>simp
  rw[hi x a] at b
  split at b
  rename_i e;subst e;exact .base
  omega
  rw[hi x a] at b;split at b<;>omega
  omega
 |k+1=>by
  have:=jbE (jat c (jau (J:=J) c k) n (jj _))
  unfold qI at this⊢
  rw[zc,jU];exact this
theorem VN {J:Nat->Nat->Bool} {n s r a b:Nat} {out:List Int} (h:Uj J n s r a b out):∀(k:Nat) x,x<n->nth out x=(k:Int)->∀j,j<=k->∃y,y<n/\nth out y=(j:Int)
 |0,x,c,e,j,d=>⟨x,c,by rw[e];omega⟩
 |k+1,x,c,e,j,d=>by
  by_cases f:j=k+1
  exact⟨x,c,by rw[e];omega⟩
  obtain⟨y,g,e2⟩:=h.lev x c (by omega)
  exact VN h k y g (by rw[e2];omega) j (by omega)
theorem jds {J:Nat->Nat->Bool} {n s x:Nat} (o:s<n) (u:x<n):nth (qI J n s n) x<0↔¬Rch J n s x:=by
 have h:=jau (J:=J) o n;have i:∀y,y<n->nth (qI J n s n) y<(n:Int):=by
  intro y p;have c:=h.top ⟨rfl,rfl⟩ y p;rcases Int.lt_or_le (nth (qI J n s n) y) (n:Int) with l|l;exact l;exfalso;have e:nth (qI J n s n) y=(n:Int):=(by omega);have d:=VN h n y p e;have:=L.nodup_len ((List.range (n+1)).map (fun(j:Nat)=>(j:Int))) (qI J n s n) (List.Pairwise.map _ (fun a b f=>by intro e2;exact f (by omega)) List.nodup_range) (fun z v=>by
   obtain⟨j,g,rfl⟩:=jV.1 v;obtain⟨w,t,q⟩:=d j (by have:=jD.1 g;omega);rw[<-q];exact L.wh (by rw[h.len];exact t))
  rw[h.len] at this;simp at this;omega
 constructor;intro A k;have:=k.closed (S:=fun y=>0<=nth (qI J n s n) y) o h.zero (fun a b m c r g=>h.cls a b m r c (.inl (i a m)) g);have this:0<=nth (qI J n s n) x:=this;omega;intro k;rcases Int.lt_or_le (nth (qI J n s n) x) 0 with c|c;exact c;exact absurd (h.rch x u c) k
def J6 (out:List Int):Nat:=out.countP (fun z=>decide (z<0))
theorem HM:∀{out:List Int} {b:Nat} {v:Int},b<out.length->nth out b<0->0<=v->J6 (out.set b v)+1=J6 out
 |[],b,v,h,_,_=>by simp at h
 |z::r,0,v,_,a,h2=>by
  have a:z<0:=a
  unfold J6
  rw[List.set_cons_zero,kh,kh,jd (by simpa using h2),jg (by simpa using a)]
 |z::r,b+1,v,h,a,h2=>by
  have:=HM (out:=r) (b:=b) (v:=v) (by simpa using h) a h2
  unfold J6 at this⊢
  rw[List.set_cons_succ,kh,kh]
  omega
structure jez (J:Nat->Nat->Bool) (n s:Nat) (ex:Nat->Nat->Prop) (x:List Int×List Int):Prop where
 len:x.1.length=n
 low:∀y,y<n->-1<=nth x.1 y/\nth x.1 y<=(n:Int)*2
 zero:0<=nth x.1 s
 rch:∀y,y<n->0<=nth x.1 y->Rch J n s y
 que:∀q,q∈x.2->0<=q/\q<(n:Int)/\0<=nth x.1 q.toNat
 cls:∀y z,y<n->z<n->0<=nth x.1 y->(y:Int)∉x.2\/ex y z->J y z=true->0<=nth x.1 z
def Nv (n:Nat) (x:List Int×List Int):Prop:=∀y,y<n->nth x.1 y+(J6 x.1:Int)<=(n:Int)-1
theorem GC (J:Nat->Nat->Bool) (q:Nat) (x:List Int×List Int) (k:Nat):tI J q x (k+1)=tH J q (tI J q x k) k:=by
 unfold tI;rw[zc,jU];rfl
structure InI (J:Nat->Nat->Bool) (n s q k:Nat) (x0 x:List Int×List Int):Prop where
 i:jez J n s (fun y z=>y=q/\z<k) x
 le:Nv n x
 mu:J6 x.1+x.2.length=J6 x0.1+x0.2.length
 pre:∃l,x.2=x0.2++l
 keep:∀y,y<n->0<=nth x0.1 y->nth x.1 y=nth x0.1 y
theorem jbF {J:Nat->Nat->Bool} {n s q k:Nat} {x0 x:List Int×List Int} (M:s<n) (p:q<n) (w:0<=nth x0.1 q) (hk:k<n) (h:InI J n s q k x0 x):InI J n s q (k+1) x0 (tH J q x k):=by
 have G:nth x.1 q=nth x0.1 q:=h.keep q p w;unfold tH
 split
 rename_i t;obtain⟨c1,c2⟩:=t;have m:k<x.1.length:=(by rw[h.i.len];exact hk);have b:∀j,nth (x.1.set k (nth x.1 q+1)) j=if k=j then nth x.1 q+1 else nth x.1 j:=fun j=>L.bj m
 have E:=HM (v:=nth x.1 q+1) m c1 (by omega);have F:=h.le q p;have u:k≠q:=fun e=>by subst e;omega
 obtain⟨l,C⟩:=h.pre;refine⟨⟨by simpa using h.i.len,fun y d=> ?_,?_,fun y d c=> ?_,fun z f=> ?_,fun y z d f c a g=> ?_⟩,fun y d=> ?_,?_,⟨l++[(k:Int)],by simp only[C,jM]⟩,fun y d c=> ?_⟩;simp only;rw[b];split;have:=h.i.low q p;omega;exact h.i.low y d;simp only;rw[b];split;omega;exact h.i.zero;simp only at c⊢;rw[b] at c
 split at c
 rename_i e;subst e;exact .step (h.i.rch q p (by omega)) hk c2;exact h.i.rch y d c;simp only at f⊢;rcases jr.1 f with f|f;obtain⟨H,I,K⟩:=h.i.que z f;refine⟨H,I,?_⟩;rw[b];split;omega;exact K;simp at f;subst f;refine⟨by omega,by omega,?_⟩;rw[jw,b,jg rfl];omega;simp only at c a⊢;rw[b] at c⊢
 split
 omega;rename_i B;by_cases e:k=y;subst e;rcases a with a|⟨a,_⟩;exact absurd (je _ (by simp)) a;exact absurd a u;rw[jd e] at c;refine h.i.cls y z d f c ?_ g;rcases a with a|⟨o,A⟩;exact .inl (fun D=>a (jh _ D));exact .inr ⟨o,by omega⟩;simp only;rw[b];split;omega;have:=h.le y d;omega;have:=h.mu;simp only[jI,j8,zr];omega;have:=h.keep y d c;simp only;rw[b,jd (fun e=>by subst e;omega)];exact this;rename_i t;refine⟨⟨h.i.len,h.i.low,h.i.zero,h.i.rch,h.i.que,fun y z d f c a g=> ?_⟩,h.le,h.mu,h.pre,h.keep⟩;rcases a with a|⟨o,A⟩;exact h.i.cls y z d f c (.inl a) g;by_cases e:z=k;subst e;subst o;rcases Int.lt_or_le (nth x.1 z) 0 with r|r;exact absurd ⟨r,g⟩ t;exact r;exact h.i.cls y z d f c (.inr ⟨o,by omega⟩) g
theorem VO {J:Nat->Nat->Bool} {n s q:Nat} {x:List Int×List Int} (e:s<n) (d:q<n) (b:0<=nth x.1 q) (hi:jez J n s (fun _ _=>False) x) (a:Nv n x):∀k,k<=n->InI J n s q k x (tI J q x k)
 |0,_=>⟨⟨hi.len,hi.low,hi.zero,hi.rch,hi.que,fun y z i j f c g=>hi.cls y z i j f (by rcases c with h|⟨_,h⟩;exact .inl h;omega) g⟩,a,rfl,⟨[],by simp[tI]⟩,fun _ _ _=>rfl⟩
 |k+1,hk=>by rw[GC];exact jbF e d b (by omega) (VO e d b hi a k (by omega))
structure jcW (J:Nat->Nat->Bool) (n s:Nat) (x:List Int×List Int):Prop where
 i:jez J n s (fun _ _=>False) x
 le:Nv n x
theorem YR {J:Nat->Nat->Bool} {n s:Nat} {x:List Int×List Int} (k:s<n) (h:jcW J n s x):jcW J n s (aC J n x)/\(x.2≠[]->J6 (aC J n x).1+(aC J n x).2.length+1=J6 x.1+x.2.length):=by
 obtain⟨st,o⟩:=x;cases o with
 |nil=>exact⟨h,fun h=>absurd rfl h⟩
 |cons q r=>
  obtain⟨p,t,m⟩:=h.i.que q (by simp);have hi:=VO k (q:=q.toNat) (by omega) m h.i h.le n (jj _);obtain⟨l,d⟩:=hi.pre;have e2:(aC J n (st,q::r))=((tI J q.toNat (st,q::r) n).1,r++l):=by
   show((tI J q.toNat (st,q::r) n).1,(tI J q.toNat (st,q::r) n).2.drop 1)=_;rw[d];rfl
  rw[e2];have b:=hi.mu;rw[d] at b;refine⟨⟨⟨hi.i.len,hi.i.low,hi.i.zero,hi.i.rch,fun z c=>hi.i.que z (by rw[d];simp only at c⊢;exact jm _ c),fun y z j c f a g=> ?_⟩,hi.le⟩,fun _=> ?_⟩;rcases a with a|a;by_cases e:y=q.toNat;exact hi.i.cls y z j c f (.inr ⟨e,c⟩) g;refine hi.i.cls y z j c f (.inl ?_) g;rw[d];intro b;rcases jk.1 b with e2|b;omega;exact a b;exact a.elim;simp only[j7,j8] at b⊢;omega
theorem QE {J:Nat->Nat->Bool} {n s:Nat} (f:s<n):jcW J n s (aL J n s 0)/\J6 (aL J n s 0).1+(aL J n s 0).2.length=n:=by
 have hi:∀x,x<n->nth (y6 n s) x=if s=x then 0 else-1:=fun x i=>CQ f i
 have h:J6 (y6 n s)+1=n:=by
  have:=HM (out:=List.replicate n (-1:Int)) (b:=s) (v:=0) (by simpa using f) (by rw[L.Bv f];decide) (by decide);unfold y6;rw[this];unfold J6;rw[List.countP_replicate];simp
 refine⟨⟨⟨pu n s,fun y d=> ?_,?_,fun y d c=> ?_,fun q g=> ?_,fun y z d k c a j=> ?_⟩,fun y d=> ?_⟩,?_⟩;show-1<=nth (y6 n s) y/\_;rw[show nth (aL J n s 0).1 y=_ from hi y d,hi y d];split<;>omega
 show 0<=nth (y6 n s) s;rw[hi s f,jg rfl];omega;have c:0<=nth (y6 n s) y:=c;rw[hi y d] at c
 split at c
 rename_i e;subst e;exact .base;omega;have g:q∈[(s:Int)]:=g;simp at g;subst g;refine⟨by omega,by omega,?_⟩;show 0<=nth (y6 n s) (s:Int).toNat;rw[jw,hi s f,jg rfl];omega;have c:0<=nth (y6 n s) y:=c;rw[hi y d] at c
 split at c
 rename_i e;subst e;rcases a with a|a;exact absurd (show(s:Int)∈[(s:Int)] by simp) a;exact a.elim;omega;show nth (y6 n s) y+(J6 (y6 n s):Int)<=(n:Int)-1;rw[hi y d];split<;>omega
 show J6 (y6 n s)+1=n;exact h
theorem CR {J:Nat->Nat->Bool} {n s:Nat} (b:s<n):∀k,jcW J n s (aL J n s k)/\((aL J n s k).2=[]\/J6 (aL J n s k).1+(aL J n s k).2.length+k=n)
 |0=>⟨(QE b).1,.inr (QE b).2⟩
 |k+1=>by
  obtain⟨d,a⟩:=CR b k
  obtain⟨f,g⟩:=YR b d
  refine⟨f,?_⟩
  by_cases e:(aL J n s k).2=[]
  left
  show(aC J n (aL J n s k)).2=[]
  unfold aC
  split
  exact e
  rename_i c;rw[e] at c;cases c
  right
  have:=g e
  rcases a with a|a
  exact absurd a e
  show J6 (aC J n (aL J n s k)).1+(aC J n (aL J n s k)).2.length+(k+1)=n
  omega
theorem jbG {J:Nat->Nat->Bool} {n s:Nat} (a:s<n):(aL J n s (n+1)).2=[]:=by
 rcases(CR (J:=J) a (n+1)).2 with h|h;exact h;omega
theorem YT {J:Nat->Nat->Bool} {n s k:Nat} (h:(aL J n s k).2=[]):∀m,k<=m->aL J n s m=aL J n s k:=by
 intro m c
 induction m with
 |zero=>have:k=0:=by omega
        subst this;rfl
 |succ m b=>
  by_cases e:k=m+1;rw[e];have e2:=b (by omega);show aC J n (aL J n s m)=_;rw[e2];unfold aC
  split
  rfl;rename_i a;rw[h] at a;cases a
theorem jdt {J:Nat->Nat->Bool} {n s x:Nat} (e:s<n) (l:x<n):nth (jd4 J n s) x<0↔¬Rch J n s x:=by
 have h:=(CR (J:=J) e (n+1)).1;have j:=jbG (J:=J) e;constructor;intro m d;have:=d.closed (S:=fun y=>0<=nth (jd4 J n s) y) e h.i.zero (fun a b f c g k=>h.i.cls a b f g c (.inl (by rw[j];simp)) k);have this:0<=nth (jd4 J n s) x:=this;omega;intro d;rcases Int.lt_or_le (nth (jd4 J n s) x) 0 with c|c;exact c;exact absurd (h.i.rch x l c) d
theorem jbH {J:Nat->Nat->Bool} {n a b:Nat} (e:∀x y,J x y=J y x) (c:a<n) (d:b<n):nth (qI J n a n) b<0↔nth (jd4 J n b) a<0:=by
 rw[jds c d,jdt d c];exact not_congr ⟨fun h=>h.symm e c,fun h=>h.symm e d⟩
namespace U
def gy {α:Type} (p:α->Bool) (l:List α):Int:=match l.findIdx? p with|some i=>(i:Int)|none=> -1
def wb {α:Type} (F:α×Unit->Bool×Unit) (g:α):Bool:=(F (g,())).1
end U
def gfb (t:Ty) (σ:St) (s:Nat):(Ty.st [t]).Data->(Ty.st [.bool]).Data:=gfn [t] [.bool] σ s
theorem vV:∀(l:List Prop) {k:Prop},wy l->k->asks l k
 |[],_,_,hk=>hk
 |_::r,_,h,hk=>⟨h.1,vV r h.2 hk⟩
theorem yt {α:Type} [Inhabited α] {l:List α} {p:α->Bool} {i:Nat} (h:i<l.length) (a:∀b:Nat,b<i->p (nth l b)=false) (c:p (nth l i)=true):gy p l=i:=by
 have:l.findIdx? p=some i:=by
  rw[zY];refine⟨h,by rw[<-L.qM h];exact c,fun j d=> ?_⟩;have:=a j d;rw[L.qM (by omega)] at this;simp[this]
 unfold gy;rw[this]
theorem q8 {α:Type} [Inhabited α] {l:List α} {p:α->Bool} {i:Nat} (h:l.length<=i) (a:∀b:Nat,b<i->p (nth l b)=false):gy p l= -1:=by
 have:l.findIdx? p=none:=by
  rw[kw];intro x c;obtain⟨k,hk,rfl⟩:=L.mem_iff.1 c;exact a k (by omega)
 unfold gy;rw[this]
theorem iv {α:Type} (p:α->Bool) (l:List α):decide (0<=gy p l)=l.any p:=by
 rw[j0];unfold gy;simp only[jp]
 split
 rename_i i e;rw[zY] at e;obtain⟨h,a,_⟩:=e;exact⟨fun _=>za.2 ⟨_,kP h,a⟩,fun _=>by omega⟩;rename_i e;rw[kw] at e;refine⟨fun h=>by omega,fun h=> ?_⟩;obtain⟨x,b,a⟩:=za.1 h;have:=e x b;exact absurd (a.symm.trans this) (by simp)
theorem sB {α:Type} (F:α×Unit->Bool×Unit) (l:List α):(!l.any (wb fun(x:α×Unit)=>(!wb F x.fst,())))=l.all (wb F):=by
 induction l with
 |nil=>rfl
 |cons a r b=>
  simp only[List.any_cons,List.all_cons,Bool.not_or,b];have:(!wb (fun(x:α×Unit)=>(!wb F x.fst,())) a)=wb F a:=by
   show(!(!wb F a))=_;rw[Bool.not_not]
  rw[this]
open Go.Proofs
namespace U
def tJ (s n:Int):Bool:=decide (gJ (s/2^n.toNat) 1=1)
def jcY (b:Bool):Int:=if b=true then 1 else 0
def Ma (c:CrD) (f g:Int->Bool) (p:PeD):Bool:=((((((decide (((lv p).length:Int)=la c)&&(lv p).all f)&&k8 (fd p) 0 255)&&k8 (cl p) 0 255)&&decide (((q9 p).length:Int)<=10))&&(q9 p).all g)&&k8 (fe p) 0 1000)
end U
def Nw:wQ:=⟨[.val .int,.val .int,.val .int],[.bool],false,fun _=>[],fun d=>(k8 d.1 d.2.1 d.2.2.1,())⟩
def Nx:Prop:=∀(d:Int×Int×Int×Unit),(decide (d.2.1<=d.1)&&decide (d.1<=d.2.2.1),())=(k8 d.1 d.2.1 d.2.2.1,())
def ml:wQ:=⟨[.val (.uint .u64),.val .int],[.bool],false,fun d=>[0<=d.2.1,d.2.1<=64],fun d=>(tJ d.1 d.2.1,())⟩
def J7:Prop:=∀(d:Int×Int×Unit),0<=d.2.1->d.2.1<=64->0<=d.2.1/\d.2.1<=64/\(decide (gJ (d.1/(2:Int)^d.2.1.toNat) (1:Int)=1),())=(tJ d.1 d.2.1,())
def gG:wQ:=⟨[.val (.uint .u64)],[.int],false,fun d=>[BT.qh d.1],fun d=>(BT.size d.1,())⟩
def HN:Ann:=fun r=>match r with
 |1=>some fun σ=>{X:=Int×Int,sl:=fun x=>[(0,.dat (.uint .u64) x.1),(2,.dat .int x.2)],ob:=fun _=>[],inv:=fun x=>BT.qh x.1/\x.2+BT.size x.1=BT.size (gd (.uint .u64) σ 0),mu:=fun x=>x.1.toNat}
 |_=>none
def HO:Prop:=∀(d:Int×Unit),BT.qh d.1->(∃(x:Int×Int),((d.1=x.1/\0=x.2/\True)/\True)/\BT.qh x.1/\x.2+BT.size x.1=BT.size d.1)/\∀(x:Int×Int),BT.qh x.1/\x.2+BT.size x.1=BT.size d.1->(decide (x.1≠0)=true->wm (x.2+1)/\0<=x.1-1/\x.1-1<=18446744073709551615/\∃(a:Int×Int),((gJ x.1 (x.1-1)=a.1/\x.2+1=a.2/\True)/\True)/\(BT.qh a.1/\a.2+BT.size a.1=BT.size d.1)/\a.1.toNat<x.1.toNat)/\(decide (x.1≠0)=false->(x.2,())=(BT.size d.1,()))
def RZ:wQ:=⟨[.val .bool],[.int],false,fun _=>[],fun d=>(jcY d.1,())⟩
def R0:Prop:=∀(d:Bool×Unit),(d.1=true->((1:Int),())=(jcY d.1,()))/\(d.1=false->((0:Int),())=(jcY d.1,()))
def pv:wQ:=⟨[.val (.slice .int),.fn [.int] [.bool]],[.int],false,fun d=>[∀g∈d.1,wy (d.2.1.pre (g,()))],fun d=>(gy (wb (α:=Int) d.2.1.F) d.1,())⟩
def pw:Ann:=fun r=>match r with
 |2=>some fun σ=>{X:=Nat,sl:=fun i=>[(8,.dat .int (i:Int))],ob:=fun _=>[],inv:=fun i=>i<=(gd (.slice .int) σ 0).length/\∀b:Nat,b<i->wb (gfb .int σ 1) (nth (gd (.slice .int) σ 0) b)=false,mu:=fun i=>(gd (.slice .int) σ 0).length-i}
 |_=>none
def px:Prop:=∀(d:List Int×FnD [Ty.int] [Ty.bool]×Unit),(∀(g:Int),g∈d.1->wy (d.2.1.1 (g,())))->d.1.length<4611686018427387904->(∃(x:Nat),((0=(x:Int)/\True)/\True)/\x<=d.1.length/\∀(b:Nat),b<x->wb d.2.1.2 (nth d.1 b)=false)/\∀(x:Nat),(x<=d.1.length/\∀(b:Nat),b<x->wb d.2.1.2 (nth d.1 b)=false)->(decide ((x:Int)<d.1.length)=true->0<=(x:Int)/\(x:Int)<d.1.length/\asks (d.2.1.1 (nth d.1 (x:Int).toNat,())) (((d.2.1.2 (nth d.1 (x:Int).toNat,())).1=true->((x:Int),())=(gy (wb d.2.1.2) d.1,()))/\((d.2.1.2 (nth d.1 (x:Int).toNat,())).1=false->wm ((x:Int)+1)/\∃(a:Nat),(((x:Int)+1=(a:Int)/\True)/\True)/\(a<=d.1.length/\∀(b:Nat),b<a->wb d.2.1.2 (nth d.1 b)=false)/\d.1.length-a<d.1.length-x)))/\(decide ((x:Int)<d.1.length)=false->((-1:Int),())=(gy (wb d.2.1.2) d.1,()))
def lm:wQ:=⟨[.val (.slice .int),.fn [.int] [.bool]],[.bool],false,fun d=>[∀g∈d.1,wy (d.2.1.pre (g,()))],fun d=>(d.1.any (wb (α:=Int) d.2.1.F),())⟩
def ln:Prop:=∀(d:List Int×FnD [Ty.int] [Ty.bool]×Unit),(∀(g:Int),g∈d.1->wy (d.2.1.1 (g,())))->(∀(g:Int),g∈d.1->wy (d.2.1.1 (g,())))/\(decide (0<=gy (wb d.2.1.2) d.1),())=(d.1.any (wb d.2.1.2),())
def pz:wQ:=⟨[.val (.slice tLw),.fn [tLw] [.bool]],[.int],false,fun d=>[∀g∈d.1,wy (d.2.1.pre (g,()))],fun d=>(gy (wb (α:=LwD) d.2.1.F) d.1,())⟩
def pA:Ann:=fun r=>match r with
 |2=>some fun σ=>{X:=Nat,sl:=fun i=>[(8,.dat .int (i:Int))],ob:=fun _=>[],inv:=fun i=>i<=(gd (.slice tLw) σ 0).length/\∀b:Nat,b<i->wb (gfb tLw σ 1) (nth (gd (.slice tLw) σ 0) b)=false,mu:=fun i=>(gd (.slice tLw) σ 0).length-i}
 |_=>none
def pB:Prop:=∀(d:List LwD×FnD [tLw] [Ty.bool]×Unit),(∀(g:LwD),g∈d.1->wy (d.2.1.1 (g,())))->d.1.length<4611686018427387904->(∃(x:Nat),((0=(x:Int)/\True)/\True)/\x<=d.1.length/\∀(b:Nat),b<x->wb d.2.1.2 (nth d.1 b)=false)/\∀(x:Nat),(x<=d.1.length/\∀(b:Nat),b<x->wb d.2.1.2 (nth d.1 b)=false)->(decide ((x:Int)<d.1.length)=true->0<=(x:Int)/\(x:Int)<d.1.length/\asks (d.2.1.1 (nth d.1 (x:Int).toNat,())) (((d.2.1.2 (nth d.1 (x:Int).toNat,())).1=true->((x:Int),())=(gy (wb d.2.1.2) d.1,()))/\((d.2.1.2 (nth d.1 (x:Int).toNat,())).1=false->wm ((x:Int)+1)/\∃(a:Nat),(((x:Int)+1=(a:Int)/\True)/\True)/\(a<=d.1.length/\∀(b:Nat),b<a->wb d.2.1.2 (nth d.1 b)=false)/\d.1.length-a<d.1.length-x)))/\(decide ((x:Int)<d.1.length)=false->((-1:Int),())=(gy (wb d.2.1.2) d.1,()))
def lq:wQ:=⟨[.val (.slice tLw),.fn [tLw] [.bool]],[.bool],false,fun d=>[∀g∈d.1,wy (d.2.1.pre (g,()))],fun d=>(d.1.any (wb (α:=LwD) d.2.1.F),())⟩
def lr:Prop:=∀(d:List LwD×FnD [tLw] [Ty.bool]×Unit),(∀(g:LwD),g∈d.1->wy (d.2.1.1 (g,())))->(∀(g:LwD),g∈d.1->wy (d.2.1.1 (g,())))/\(decide (0<=gy (wb d.2.1.2) d.1),())=(d.1.any (wb d.2.1.2),())
def lu:wQ:=⟨[.val (.slice tPe),.fn [tPe] [.bool]],[.int],false,fun d=>[∀g∈d.1,wy (d.2.1.pre (g,()))],fun d=>(gy (wb (α:=PeD) d.2.1.F) d.1,())⟩
def lw:Ann:=fun r=>match r with
 |2=>some fun σ=>{X:=Nat,sl:=fun i=>[(8,.dat .int (i:Int))],ob:=fun _=>[],inv:=fun i=>i<=(gd (.slice tPe) σ 0).length/\∀b:Nat,b<i->wb (gfb tPe σ 1) (nth (gd (.slice tPe) σ 0) b)=false,mu:=fun i=>(gd (.slice tPe) σ 0).length-i}
 |_=>none
def lx:Prop:=∀(d:List PeD×FnD [tPe] [Ty.bool]×Unit),(∀(g:PeD),g∈d.1->wy (d.2.1.1 (g,())))->d.1.length<4611686018427387904->(∃(x:Nat),((0=(x:Int)/\True)/\True)/\x<=d.1.length/\∀(b:Nat),b<x->wb d.2.1.2 (nth d.1 b)=false)/\∀(x:Nat),(x<=d.1.length/\∀(b:Nat),b<x->wb d.2.1.2 (nth d.1 b)=false)->(decide ((x:Int)<d.1.length)=true->0<=(x:Int)/\(x:Int)<d.1.length/\asks (d.2.1.1 (nth d.1 (x:Int).toNat,())) (((d.2.1.2 (nth d.1 (x:Int).toNat,())).1=true->((x:Int),())=(gy (wb d.2.1.2) d.1,()))/\((d.2.1.2 (nth d.1 (x:Int).toNat,())).1=false->wm ((x:Int)+1)/\∃(a:Nat),(((x:Int)+1=(a:Int)/\True)/\True)/\(a<=d.1.length/\∀(b:Nat),b<a->wb d.2.1.2 (nth d.1 b)=false)/\d.1.length-a<d.1.length-x)))/\(decide ((x:Int)<d.1.length)=false->((-1:Int),())=(gy (wb d.2.1.2) d.1,()))
def dO:wQ:=⟨[.val (.slice tPe),.fn [tPe] [.bool]],[.bool],false,fun d=>[∀g∈d.1,wy (d.2.1.pre (g,()))],fun d=>(d.1.any (wb (α:=PeD) d.2.1.F),())⟩
def dP:Prop:=∀(d:List PeD×FnD [tPe] [Ty.bool]×Unit),(∀(g:PeD),g∈d.1->wy (d.2.1.1 (g,())))->(∀(g:PeD),g∈d.1->wy (d.2.1.1 (g,())))/\(decide (0<=gy (wb d.2.1.2) d.1),())=(d.1.any (wb d.2.1.2),())
def xS:wQ:=⟨[.val .int,.rfn [.int] [.bool]],[.bool],false,fun d=>[wy (d.2.1.pre (d.1,()))],fun d=>(!(wb (α:=Int) d.2.1.F d.1),())⟩
def xT:Prop:=∀(d:Int×FnD [Ty.int] [Ty.bool]×Unit),wy (d.2.1.1 (d.1,()))->asks (d.2.1.1 (d.1,())) ((!(d.2.1.2 (d.1,())).1,())=(!wb d.2.1.2 d.1,()))
def EP:wQ:=⟨[.val (.slice .int),.fn [.int] [.bool]],[.bool],false,fun d=>[∀g∈d.1,wy (d.2.1.pre (g,()))],fun d=>(d.1.all (wb (α:=Int) d.2.1.F),())⟩
def EQ:Prop:=∀(d:List Int×FnD [Ty.int] [Ty.bool]×Unit),(∀(g:Int),g∈d.1->wy (d.2.1.1 (g,())))->(∀(g:Int),g∈d.1->wy [wy (d.2.1.1 (g,()))])/\(!d.1.any (wb fun(a:Int×Unit)=>(!wb d.2.1.2 a.1,())),())=(d.1.all (wb d.2.1.2),())
def xU:wQ:=⟨[.val tLw,.rfn [tLw] [.bool]],[.bool],false,fun d=>[wy (d.2.1.pre (d.1,()))],fun d=>(!(wb (α:=LwD) d.2.1.F d.1),())⟩
def xV:Prop:=∀(d:LwD×FnD [tLw] [Ty.bool]×Unit),wy (d.2.1.1 (d.1,()))->asks (d.2.1.1 (d.1,())) ((!(d.2.1.2 (d.1,())).1,())=(!wb d.2.1.2 d.1,()))
def ER:wQ:=⟨[.val (.slice tLw),.fn [tLw] [.bool]],[.bool],false,fun d=>[∀g∈d.1,wy (d.2.1.pre (g,()))],fun d=>(d.1.all (wb (α:=LwD) d.2.1.F),())⟩
def ES:Prop:=∀(d:List LwD×FnD [tLw] [Ty.bool]×Unit),(∀(g:LwD),g∈d.1->wy (d.2.1.1 (g,())))->(∀(g:LwD),g∈d.1->wy [wy (d.2.1.1 (g,()))])/\(!d.1.any (wb fun(a:LwD×Unit)=>(!wb d.2.1.2 a.1,())),())=(d.1.all (wb d.2.1.2),())
def pC:wQ:=⟨[.val tPe,.rfn [tPe] [.bool]],[.bool],false,fun d=>[wy (d.2.1.pre (d.1,()))],fun d=>(!(wb (α:=PeD) d.2.1.F d.1),())⟩
def pD:Prop:=∀(d:PeD×FnD [tPe] [Ty.bool]×Unit),wy (d.2.1.1 (d.1,()))->asks (d.2.1.1 (d.1,())) ((!(d.2.1.2 (d.1,())).1,())=(!wb d.2.1.2 d.1,()))
def ui:wQ:=⟨[.val (.slice tPe),.fn [tPe] [.bool]],[.bool],false,fun d=>[∀g∈d.1,wy (d.2.1.pre (g,()))],fun d=>(d.1.all (wb (α:=PeD) d.2.1.F),())⟩
def uj:Prop:=∀(d:List PeD×FnD [tPe] [Ty.bool]×Unit),(∀(g:PeD),g∈d.1->wy (d.2.1.1 (g,())))->(∀(g:PeD),g∈d.1->wy [wy (d.2.1.1 (g,()))])/\(!d.1.any (wb fun(a:PeD×Unit)=>(!wb d.2.1.2 a.1,())),())=(d.1.all (wb d.2.1.2),())
def J8:wQ:=⟨[.val .int],[.bool],false,fun _=>[],fun d=>(k8 d.1 0 5,())⟩
def J9:Prop:=∀(d:Int×Unit),(k8 d.1 (0:Int) (5:Int),())=(k8 d.1 (0:Int) (5:Int),())
def Ka:wQ:=⟨[.val .int],[.bool],false,fun _=>[],fun d=>(k8 d.1 0 99,())⟩
def Kb:Prop:=∀(d:Int×Unit),(k8 d.1 (0:Int) (99:Int),())=(k8 d.1 (0:Int) (99:Int),())
def Kc:wQ:=⟨[.val tPe,.ref tCr,.rfn [.int] [.bool],.rfn [.int] [.bool]],[.bool],false,fun d=>[∀g∈U.lv d.1,wy (d.2.2.1.pre (g,())),∀g∈q9 d.1,wy (d.2.2.2.1.pre (g,()))],fun d=>(Ma d.2.1 (wb d.2.2.1.F) (wb d.2.2.2.1.F) d.1,())⟩
def Kd:Prop:=∀(d:PeD×CrD×FnD [Ty.int] [Ty.bool]×FnD [Ty.int] [Ty.bool]×Unit),(∀(g:Int),g∈U.lv d.1->wy (d.2.2.1.1 (g,())))->(∀(g:Int),g∈q9 d.1->wy (d.2.2.2.1.1 (g,())))->d.1.1.length<4611686018427387904->(decide ((d.1.1.length:Int)=d.2.1.1)=true->∀(g:Int),g∈d.1.1->wy (d.2.2.1.1 (g,())))/\(((decide ((d.1.1.length:Int)=d.2.1.1)&&d.1.1.all (wb d.2.2.1.2)&&k8 d.1.2.1 (0:Int) (255:Int)&&k8 d.1.2.2.1 (0:Int) (255:Int))=true->d.1.2.2.2.1.length<4611686018427387904)->((decide ((d.1.1.length:Int)=d.2.1.1)&&d.1.1.all (wb d.2.2.1.2)&&k8 d.1.2.1 (0:Int) (255:Int)&&k8 d.1.2.2.1 (0:Int) (255:Int)&&decide ((d.1.2.2.2.1.length:Int)<=10))=true->∀(g:Int),g∈d.1.2.2.2.1->wy (d.2.2.2.1.1 (g,())))/\(decide ((d.1.1.length:Int)=d.2.1.1)&&d.1.1.all (wb d.2.2.1.2)&&k8 d.1.2.1 (0:Int) (255:Int)&&k8 d.1.2.2.1 (0:Int) (255:Int)&&decide ((d.1.2.2.2.1.length:Int)<=10)&&d.1.2.2.2.1.all (wb d.2.2.2.1.2)&&k8 d.1.q4.2.1 (0:Int) (1000:Int),())=(Ma d.2.1 (wb d.2.2.1.2) (wb d.2.2.2.1.2) d.1,()))
def Ke:wQ:=⟨[.val tLw],[.bool],false,fun _=>[],fun d=>(fF d.1,())⟩
def Kf:Prop:=∀(d:LwD×Unit),(k8 d.1.1 (1:Int) (5:Int)&&k8 d.1.2.1 (1:Int) (8:Int),())=(fF d.1,())
def Kg:wQ:=⟨[.val .int,.ref tCr],[.bool],false,fun d=>[wm (U.la d.2.1-1)],fun d=>(k8 d.1 0 (U.la d.2.1-1),())⟩
def Kh:Prop:=∀(d:Int×CrD×Unit),wm (U.la d.2.1-1)->wm (d.2.1.1-1)/\(k8 d.1 (0:Int) (d.2.1.1-1),())=(k8 d.1 (0:Int) (U.la d.2.1-1),())
def R1:wQ:=⟨[.val tCr,.val tJb],[.int],false,fun _=>[],fun d=>(vE d.1 d.2.1,())⟩
abbrev jjt (d:CrD×JbD×Unit):=(!k8 d.2.1.1 (0:Int) (U.la d.1-1)|| !k8 d.2.1.2.1 (0:Int) (U.la d.1-1)||decide (d.2.1.1=d.2.1.2.1)|| !k8 d.2.1.2.2.1 (0:Int) (99:Int)|| !k8 d.2.1.2.2.2.1 (0:Int) (7:Int)|| !k8 d.2.1.q4.1 (0:Int) (3:Int)|| !k8 d.2.1.q4.2.1 (1:Int) (8:Int))
abbrev jhB (d:CrD×JbD×Unit):=(8<(d.1.2.1.length:Int))
abbrev jju:=(wb fun(a:LwD×Unit)=>(fF a.1,()))
def R2:Prop:=∀(d:CrD×JbD×Unit),((!!k8 d.1.1 (2:Int) (5:Int))=true->d.1.2.1.length<4611686018427387904)->((!(!k8 d.1.1 (2:Int) (5:Int)||decide (jhB d)))=true->∀(g:PeD),g∈d.1.2.1->wy [∀(c:Int),c∈U.lv g->wy [],∀(c:Int),c∈q9 g->wy []])/\(((!(!k8 d.1.1 (2:Int) (5:Int)||decide (jhB d)|| !d.1.2.1.all (wb fun(b:PeD×Unit)=>(Ma d.1 (wb fun(b:Int×Unit)=>(k8 b.1 (0:Int) (5:Int),())) (wb fun(b:Int×Unit)=>(k8 b.1 (0:Int) (99:Int),())) b.1,()))))=true->d.1.2.2.1.length<4611686018427387904)->((!(!k8 d.1.1 (2:Int) (5:Int)||decide (jhB d)|| !d.1.2.1.all (wb fun(a:PeD×Unit)=>(Ma d.1 (wb fun(a:Int×Unit)=>(k8 a.1 (0:Int) (5:Int),())) (wb fun(a:Int×Unit)=>(k8 a.1 (0:Int) (99:Int),())) a.1,()))||decide ((d.1.2.2.1.length:Int)≠4)))=true->∀(g:LwD),g∈d.1.2.2.1->wy [])/\((!k8 d.1.1 (2:Int) (5:Int)||decide (jhB d)|| !d.1.2.1.all (wb fun(a:PeD×Unit)=>(Ma d.1 (wb fun(a:Int×Unit)=>(k8 a.1 (0:Int) (5:Int),())) (wb fun(a:Int×Unit)=>(k8 a.1 (0:Int) (99:Int),())) a.1,()))||decide ((d.1.2.2.1.length:Int)≠4)|| !d.1.2.2.1.all jju)=true->((30:Int),())=(vE d.1 d.2.1,()))/\((!k8 d.1.1 (2:Int) (5:Int)||decide (jhB d)|| !d.1.2.1.all (wb fun(a:PeD×Unit)=>(Ma d.1 (wb fun(a:Int×Unit)=>(k8 a.1 (0:Int) (5:Int),())) (wb fun(a:Int×Unit)=>(k8 a.1 (0:Int) (99:Int),())) a.1,()))||decide ((d.1.2.2.1.length:Int)≠4)|| !d.1.2.2.1.all jju)=false->wm (U.la d.1-1)/\((!!k8 d.2.1.1 (0:Int) (U.la d.1-1))=true->wm (U.la d.1-1))/\((jjt d)=true->((31:Int),())=(vE d.1 d.2.1,()))/\((jjt d)=false->((0:Int),())=(vE d.1 d.2.1,()))))
theorem R3:Nx:=by
 intro d;rfl
theorem gY:wV PR 152 Nw:=wK R3 Tryz.func152 kcN koN
theorem Ny:J7:=by
 intro d a b;exact⟨a,b,rfl⟩
theorem Ki:wV PR 235 ml:=wK Ny Tryz.func235 kcN koN
theorem Kj:HO:=by
 rintro⟨s,⟨⟩⟩ e;refine⟨⟨(s,0),⟨⟨rfl,rfl,tZ⟩,tZ⟩,e,by simp⟩,?_⟩;rintro⟨x,n⟩ ⟨a,b⟩;have a:BT.qh x:=a;have g:=BT.Bu s;have f:=BT.Bu x;refine⟨fun h=> ?_,fun h=> ?_⟩;have h:x≠0:=ja h;obtain⟨d,i,j⟩:=BT.pred a h;have c:=a;unfold BT.qh at c;simp only at b⊢;exact⟨iZ6,by omega,by omega,(gJ x (x-1),n+1),⟨⟨rfl,rfl,tZ⟩,tZ⟩,⟨d,(by omega:n+1+BT.size (gJ x (x-1))=BT.size s)⟩,(by unfold BT.qh at d;omega:(gJ x (x-1)).toNat<x.toNat)⟩;have h:x=0:=(by simpa using h);subst h;simp only[BT.size_zero] at b;simp only at b⊢;rw[show n=BT.size s by omega]
theorem HP:wV PR 214 gG:=qY HN Kj Tryz.func214 kcN koN
theorem VP:R0:=by
 rintro⟨b,⟨⟩⟩;exact⟨fun h=>by simp only at h;subst h;rfl,fun h=>by simp only at h;subst h;rfl⟩
theorem R4:wV PR 208 RZ:=wK VP Tryz.func208 kcN koN
theorem sC:px:=by
 rintro⟨l,f,⟨⟩⟩ a g;refine⟨⟨0,⟨⟨rfl,tZ⟩,tZ⟩,jl _,fun b c=>by omega⟩,fun i hi=>⟨fun h=> ?_,fun h=> ?_⟩⟩;have h:i<l.length:=(by simpa using h);simp only[jw] at*;refine⟨by omega,by omega,vV _ (a _ (L.wh h)) ⟨fun c=> ?_,fun c=>⟨iZ6,i+1,⟨⟨by simp,tZ⟩,tZ⟩,⟨by omega,fun b d=> ?_⟩,by omega⟩⟩⟩;rw[yt (p:=wb (α:=Int) f.F) h hi.2 c];by_cases e:b=i;subst e;exact c;exact hi.2 b (by omega);have h:l.length<=i:=(by simpa using h);rw[q8 (p:=wb (α:=Int) f.F) h hi.2]
theorem pE:wV PR 131 pv:=qY pw sC Tryz.func131 kcN koN
theorem mm:ln:=by
 rintro⟨l,f,⟨⟩⟩ a;refine⟨a,?_⟩;exact jF (·,()) (iv (wb (α:=Int) f.F) l)
theorem yW:wV PR 84 lm:=wK mm Tryz.func84 (kcC pE kcN) koN
theorem sD:pB:=by
 rintro⟨l,f,⟨⟩⟩ a g;refine⟨⟨0,⟨⟨rfl,tZ⟩,tZ⟩,jl _,fun b c=>by omega⟩,fun i hi=>⟨fun h=> ?_,fun h=> ?_⟩⟩;have h:i<l.length:=(by simpa using h);simp only[jw] at*;refine⟨by omega,by omega,vV _ (a _ (L.wh h)) ⟨fun c=> ?_,fun c=>⟨iZ6,i+1,⟨⟨by simp,tZ⟩,tZ⟩,⟨by omega,fun b d=> ?_⟩,by omega⟩⟩⟩;rw[yt (p:=wb (α:=LwD) f.F) h hi.2 c];by_cases e:b=i;subst e;exact c;exact hi.2 b (by omega);have h:l.length<=i:=(by simpa using h);rw[q8 (p:=wb (α:=LwD) f.F) h hi.2]
theorem pF:wV PR 217 pz:=qY pA sD Tryz.func217 kcN koN
theorem mn:lr:=by
 rintro⟨l,f,⟨⟩⟩ a;refine⟨a,?_⟩;exact jF (·,()) (iv (wb (α:=LwD) f.F) l)
theorem ly:wV PR 190 lq:=wK mn Tryz.func190 (kcC pF kcN) koN
theorem mo:lx:=by
 rintro⟨l,f,⟨⟩⟩ a g;refine⟨⟨0,⟨⟨rfl,tZ⟩,tZ⟩,jl _,fun b c=>by omega⟩,fun i hi=>⟨fun h=> ?_,fun h=> ?_⟩⟩;have h:i<l.length:=(by simpa using h);simp only[jw] at*;refine⟨by omega,by omega,vV _ (a _ (L.wh h)) ⟨fun c=> ?_,fun c=>⟨iZ6,i+1,⟨⟨by simp,tZ⟩,tZ⟩,⟨by omega,fun b d=> ?_⟩,by omega⟩⟩⟩;rw[yt (p:=wb (α:=PeD) f.F) h hi.2 c];by_cases e:b=i;subst e;exact c;exact hi.2 b (by omega);have h:l.length<=i:=(by simpa using h);rw[q8 (p:=wb (α:=PeD) f.F) h hi.2]
theorem lz:wV PR 216 lu:=qY lw mo Tryz.func216 kcN koN
theorem eM:dP:=by
 rintro⟨l,f,⟨⟩⟩ a;refine⟨a,?_⟩;exact jF (·,()) (iv (wb (α:=PeD) f.F) l)
theorem dQ:wV PR 188 dO:=wK eM Tryz.func188 (kcC lz kcN) koN
theorem CS:xT:=by
 intro d h;exact vV _ h rfl
theorem xW:wV PR 187 xS:=wK CS Tryz.func187 kcN koN
theorem HQ:EQ:=by
 intro d h;exact⟨fun g a=>⟨h g a,tZ⟩,jF (·,()) (sB d.snd.fst.2 d.fst)⟩
theorem ET:wV PR 155 EP:=wK HQ Tryz.func155 (kcC yW (kcC xW kcN)) koN
theorem CT:xV:=by
 intro d h;exact vV _ h rfl
theorem xX:wV PR 191 xU:=wK CT Tryz.func191 kcN koN
theorem HR:ES:=by
 intro d h;exact⟨fun g a=>⟨h g a,tZ⟩,jF (·,()) (sB d.snd.fst.2 d.fst)⟩
theorem EU:wV PR 159 ER:=wK HR Tryz.func159 (kcC ly (kcC xX kcN)) koN
theorem sE:pD:=by
 intro d h;exact vV _ h rfl
theorem pG:wV PR 189 pC:=wK sE Tryz.func189 kcN koN
theorem xY:uj:=by
 intro d h;exact⟨fun g a=>⟨h g a,tZ⟩,jF (·,()) (sB d.snd.fst.2 d.fst)⟩
theorem uk:wV PR 158 ui:=wK xY Tryz.func158 (kcC dQ (kcC pG kcN)) koN
theorem Nz:J9:=fun _=>rfl
theorem Kk:wV PR 151 J8:=wK Nz Tryz.func151 (kcC gY kcN) koN
theorem NA:Kb:=fun _=>rfl
theorem Kl:wV PR 153 Ka:=wK NA Tryz.func153 (kcC gY kcN) koN
theorem NB:Kd:=by
 unfold Kd Prod.q4;rintro⟨p,c,f,g,⟨⟩⟩ a b _;exact⟨fun _=>a,fun _=>⟨fun _=>b,rfl⟩⟩
theorem Km:wV PR 154 Kc:=wK NB Tryz.func154 (kcC gY (kcC ET kcN)) koN
theorem NC:Kf:=fun _=>rfl
theorem Kn:wV PR 156 Ke:=wK NC Tryz.func156 (kcC gY kcN) koN
theorem ND:Kh:=fun _ h=>⟨h,rfl⟩
theorem Ko:wV PR 157 Kg:=wK ND Tryz.func157 (kcC gY kcN) koN
theorem jbI (c:CrD) (p:PeD):Ma c (fun x=>k8 x 0 5) (fun x=>k8 x 0 99) p=fE (U.la c) p:=by
 rw[j0];simp only[Ma,fE,k8,ji,jp];constructor;rintro⟨⟨⟨⟨⟨⟨e,f⟩,a⟩,b⟩,k⟩,i⟩,d⟩;exact⟨⟨e,a.1,a.2,b.1,b.2,by omega,d.1,d.2⟩,f,i⟩;rintro⟨⟨e,a,g,b,h,k,d,j⟩,f,i⟩;exact⟨⟨⟨⟨⟨⟨e,f⟩,a,g⟩,b,h⟩,by omega⟩,i⟩,d,j⟩
theorem jbJ (c:CrD):(((((!k8 c.1 2 5||decide (8<((c.2.1.length:Nat):Int)))|| !c.2.1.all (fE (U.la c)))||decide (((c.2.2.1.length:Nat):Int)≠4))|| !c.2.2.1.all fF))= !wt c:=by
 unfold wt;show _= !(decide (2<=c.1/\c.1<=5/\c.2.1.length<=8/\c.2.2.1.length=4)&&(c.2.1.all (fE (U.la c))&&c.2.2.1.all fF));cases c.2.1.all (fE (U.la c))<;>cases c.2.2.1.all fF<;>simp only[k8,Bool.not_true,Bool.not_false,Bool.or_true,kQ,Bool.and_true,kx,Bool.true_or]
 rw[j0];simp only[zq,jS,kl,jp,jH];omega
theorem jdu (c:CrD) (j:JbD):((((((!k8 j.1 0 (U.la c-1)|| !k8 j.2.1 0 (U.la c-1))||decide (j.1=j.2.1))|| !k8 j.2.2.1 0 99)|| !k8 j.2.2.2.1 0 7)|| !k8 j.2.2.2.2.1 0 3)|| !k8 j.2.2.2.2.2.1 1 8)= !qb c j:=by
 have key:(qb c j=false)↔¬(0<=j.1/\j.1<=U.la c-1/\0<=j.2.1/\j.2.1<=U.la c-1/\j.1≠j.2.1/\0<=j.2.2.1/\j.2.2.1<=99/\0<=j.2.2.2.1/\j.2.2.2.1<=7/\0<=j.2.2.2.2.1/\j.2.2.2.2.1<=3/\1<=j.2.2.2.2.2.1/\j.2.2.2.2.2.1<=8):=by
  unfold qb;exact jH
 rw[j0,jS,key];simp only[k8,zq,jS,kl,jp,jH];omega
theorem VQ:R2:=by
 unfold R2 jju jhB jjt Prod.q4;rintro⟨c,j,⟨⟩⟩;have f:∀p,wb (fun(x:PeD×Unit)=>(Ma c (wb fun(x:Int×Unit)=>(k8 x.fst 0 5,())) (wb fun(x:Int×Unit)=>(k8 x.fst 0 99,())) x.fst,())) p=fE (U.la c) p:=fun p=>jbI c p
 have e2:(wb fun(x:LwD×Unit)=>(fF x.fst,()))=fF:=rfl;have d:=jbJ c;have e:=jdu c j;intro _;refine⟨fun _ g _=>⟨fun _ _=>tZ,fun _ _=>tZ,tZ⟩,fun _=> ?_⟩;simp only at d e⊢;rw[funext f,e2,d,e];refine⟨fun _ _ _=>tZ,fun h=> ?_,fun h=> ?_⟩;have h:wt c=false:=(by simpa using h);unfold vE;rw[jg h];have h:wt c=true:=(by simpa using h);have i:2<=U.la c/\U.la c<=5:=by
  unfold wt at h;simp only[ji,jp] at h;exact⟨h.1.1,h.1.2.1⟩
 have b:wm (U.la c-1):=iZ6;refine⟨b,fun _=>b,fun a=> ?_,fun a=> ?_⟩;have a:qb c j=false:=(by simpa using a);unfold vE;rw[jd (by rw[h];simp),jg a];have a:qb c j=true:=(by simpa using a);unfold vE;rw[jd (by rw[h];simp),jd (by rw[a];simp)]
theorem GD:wV PR 115 R1:=wK VQ Tryz.func115 (kcC gY (kcC uk (kcC EU (kcC Kk (kcC Kl (kcC Km (kcC Kn (kcC Ko kcN)))))))) koN
abbrev tTk:Ty:= .st [tCr,tJb,tLw]
abbrev TkD:Type:=CrD×JbD×LwD×Unit
namespace U
def tk (o:Option TkD):TkD:=wG (Ty.dflt tTk) o
def tc (t:TkD):CrD:=t.1
def tj (t:TkD):JbD:=t.2.1
def tl (t:TkD):LwD:=t.2.2.1
def G2 (c:CrD) (j:JbD):Option TkD:=if vE c j=0 then some (c,j,db c j,()) else none
def cM (t:TkD):Prop:=wt (tc t)=true/\qb (tc t) (tj t)=true/\tl t=db (tc t) (tj t)
def Ua (a b c:Bool):Int:=jcY a+2*jcY b+4*jcY c
def yx (t:TkD) (p:PeD):Int:=Ua (cL p (X6 (tj t))) (!qd (fd p) (PH (tj t))) (!qd (cl p) (bU (tj t)))
def tK (t:TkD) (p:PeD):List (Int×Int):=[(0,jcY (!cL p (X6 (tj t)))),(1,fO (fd p/2^(PH (tj t)).toNat) 1),(2,fO (cl p/2^(bU (tj t)).toNat) 1)]
def bH (all left:List (Int×Int)) (out:Int):Prop:=BT.qh out/\left.Nodup/\(∀e∈left,e∈all)/\∀p:Nat,BT.has out p=true↔∃e∈all,e∉left/\e.2=0/\e.1.toNat=p
def gq (t:TkD) (s:Int) (n:Nat):List (Int×PeD×Unit):=((List.range n).filter (fun(i:Nat)=>tJ s (i:Int))).map (fun(i:Nat)=>((i:Int),nth (wi (tc t)) i,()))
def xI (t:TkD) (s:Int):List (Int×PeD×Unit):=gq t s (wi (tc t)).length
def jn (t:TkD) (a b:Int) (x:Int×PeD×Unit):Bool:=decide (Um (tl t)<=min (nth (lv x.2.1) a.toNat) (nth (lv x.2.1) b.toNat))
def mW (t:TkD) (s a b:Int):Bool:=(xI t s).any (jn t a b)
def aD (t:TkD) (a b:Int) (q:List (Int×PeD×Unit)):Bool:=match q.getLast? with|some x=>jn t a b x|none=>false
end U
def CU:wQ:=⟨[.val (.slice .int),.val .int],[.int],false,fun _=>[],fun d=>(gy (fun x=>decide (x=d.2.1)) d.1,())⟩
def CV:Ann:=fun r=>match r with
 |2=>some fun σ=>{X:=Nat,sl:=fun i=>[(8,.dat .int (i:Int))],ob:=fun _=>[],inv:=fun i=>i<=(gd (.slice .int) σ 0).length/\∀b:Nat,b<i->decide (nth (gd (.slice .int) σ 0) b=gd .int σ 1)=false,mu:=fun i=>(gd (.slice .int) σ 0).length-i}
 |_=>none
def CW:Prop:=∀(d:List Int×Int×Unit),d.1.length<4611686018427387904->(∃(x:Nat),((0=(x:Int)/\True)/\True)/\x<=d.1.length/\∀(b:Nat),b<x->decide (nth d.1 b=d.2.1)=false)/\∀(x:Nat),(x<=d.1.length/\∀(b:Nat),b<x->decide (nth d.1 b=d.2.1)=false)->(decide ((x:Int)<d.1.length)=true->0<=(x:Int)/\(x:Int)<d.1.length/\(decide (d.2.1=nth d.1 (x:Int).toNat)=true->((x:Int),())=(gy (fun(c:Int)=>decide (c=d.2.1)) d.1,()))/\(decide (d.2.1=nth d.1 (x:Int).toNat)=false->wm ((x:Int)+1)/\∃(a:Nat),(((x:Int)+1=(a:Int)/\True)/\True)/\(a<=d.1.length/\∀(b:Nat),b<a->decide (nth d.1 b=d.2.1)=false)/\d.1.length-a<d.1.length-x))/\(decide ((x:Int)<d.1.length)=false->((-1:Int),())=(gy (fun(c:Int)=>decide (c=d.2.1)) d.1,()))
def sF:wQ:=⟨[.val (.slice .int),.val .int],[.bool],false,fun _=>[],fun d=>(d.1.any (fun x=>decide (x=d.2.1)),())⟩
def sG:Prop:=∀(d:List Int×Int×Unit),(decide (0<=gy (fun(a:Int)=>decide (a=d.2.1)) d.1),())=(d.1.any fun(b:Int)=>decide (b=d.2.1),())
def VR:wQ:=⟨[.val tCr,.val tJb],[.ptr tTk,.int],false,fun _=>[],fun d=>(G2 d.1 d.2.1,vE d.1 d.2.1,())⟩
def VS:Prop:=∀(d:CrD×JbD×Unit),(decide (vE d.1 d.2.1≠0)=true->(none,vE d.1 d.2.1,())=(G2 d.1 d.2.1,vE d.1 d.2.1,()))/\(decide (vE d.1 d.2.1≠0)=false->0<=d.2.1.q4.1/\d.2.1.q4.1<(d.1.2.2.1.length:Int)/\(some (d.1,d.2.1,nth d.1.2.2.1 d.2.1.q4.1.toNat,()),(0:Int),())=(G2 d.1 d.2.1,vE d.1 d.2.1,()))
def LM (d:PD [.ref (.ptr tTk),.ref (.uint .u64)]) (xs:List (Ty.st [.int,tPe]).Data):Prop:=xs=xI (U.tk d.1) d.2.1
def R5 (d:PD [.ref (.ptr tTk),.ref (.uint .u64)]):Bh (YS [.int,tPe]):=fun r=>match r with
 |1=>some fun _ _=>{X:=Nat,sl:=fun i=>[(12,.dat .int (i:Int))],ob:=fun _=>[],ys:=fun i=>(gq (U.tk d.1) d.2.1 i,true),inv:=fun i=>i<=(wi (U.tc (U.tk d.1))).length,mu:=fun i=>(wi (U.tc (U.tk d.1))).length-i}
 |_=>none
abbrev jhC (d:Option (CrD×JbD×LwD×Unit)×Int×Unit):=(wG (((0:Int),[],[],()),((0:Int),(0:Int),(0:Int),(0:Int),(0:Int),(0:Int),()),((0:Int),(0:Int),false,()),()) d.1)
abbrev jf1 (d:Option (CrD×JbD×LwD×Unit)×Int×Unit):=(wi (U.tc (U.tk d.1)))
abbrev jhD (x:Nat)(d:Option (CrD×JbD×LwD×Unit)×Int×Unit):=((x:Int),nth (jhC d).1.2.1 (x:Int).toNat,())
abbrev jiO (x:Nat)(a:Nat):=(((x:Int)+1=(a:Int)/\True)/\True)
def cA:Prop:=∀(d:Option (CrD×JbD×LwD×Unit)×Int×Unit) (l:Nat),d.1.isSome=true->(jf1 d).length<=60->d.1.isSome=true/\((jhC d).1.2.1.length<4611686018427387904->(∃(x:Nat),((0=(x:Int)/\True)/\True)/\([],true)=(gq (U.tk d.1) d.2.1 x,true)/\x<=(jf1 d).length)/\∀(x:Nat),x<=(jf1 d).length->(decide ((x:Int)<(jhC d).1.2.1.length)=true->0<=(x:Int)/\(x:Int)<(jhC d).1.2.1.length/\0<=(x:Int)/\(x:Int)<=64/\(tJ d.2.1 (x:Int)=true->l=l/\(∃(rest:List (Int×PeD×Unit)),gq (U.tk d.1) d.2.1 x++[(jhD x d)]++rest=xI (U.tk d.1) d.2.1)/\(((tJ d.2.1 (x:Int)&& !true)=true->true=true->gq (U.tk d.1) d.2.1 x++[(jhD x d)]=xI (U.tk d.1) d.2.1)/\((tJ d.2.1 (x:Int)&& !true)=false->wm ((x:Int)+1)/\∃(a:Nat),(jiO x a)/\(gq (U.tk d.1) d.2.1 x++[(jhD x d)],true)=(gq (U.tk d.1) d.2.1 a,true)/\a<=(jf1 d).length/\(jf1 d).length-a<(jf1 d).length-x))/\((tJ d.2.1 (x:Int)&& !false)=true->false=true->gq (U.tk d.1) d.2.1 x++[(jhD x d)]=xI (U.tk d.1) d.2.1)/\((tJ d.2.1 (x:Int)&& !false)=false->wm ((x:Int)+1)/\∃(a:Nat),(jiO x a)/\(gq (U.tk d.1) d.2.1 x++[(jhD x d)],false)=(gq (U.tk d.1) d.2.1 a,true)/\a<=(jf1 d).length/\(jf1 d).length-a<(jf1 d).length-x))/\(tJ d.2.1 (x:Int)=false->((tJ d.2.1 (x:Int)&& !false)=true->true=true->gq (U.tk d.1) d.2.1 x=xI (U.tk d.1) d.2.1)/\((tJ d.2.1 (x:Int)&& !false)=false->wm ((x:Int)+1)/\∃(a:Nat),(jiO x a)/\(gq (U.tk d.1) d.2.1 x,true)=(gq (U.tk d.1) d.2.1 a,true)/\a<=(jf1 d).length/\(jf1 d).length-a<(jf1 d).length-x)))/\(decide ((x:Int)<(jhC d).1.2.1.length)=false->true=true->gq (U.tk d.1) d.2.1 x=xI (U.tk d.1) d.2.1))
theorem lA:(YI (ctx 28 [(235,ml)] []) (qf Tryz.f234) [.int,tPe] [.ref (.ptr tTk),.ref (.uint .u64)] LM (fun d=>[d.1.isSome=true,(wi (U.tc (U.tk d.1))).length<=60]) (fun d _=>R5 d) (fun d l=>hkY [.int,tPe] l [24] (fun q=>∃rest,LM d (q++rest)) (fun _=>none)))=cA:=by kernel_rfl
def wS:pk:=⟨[.val (.ptr tTk),.val (.uint .u64)],fun _=>[],234,[.ptr tTk,.uint .u64],fun d=>(d.1,d.2.1,())⟩
def eN:Prop:=∀(d:Option (CrD×JbD×LwD×Unit)×Int×Unit),d=d
theorem nO:(VB (ctx 6 [] []) (fun _=>none) Tryz.f213 (qf Tryz.f213) wS)=eN:=by kernel_rfl
def QF (sv:SV):Option (Prop×(List (Ty.st [.int,tPe]).Data->Prop)):=match sv with
 | .clo 234 [.ep b t,.ep c s]=>(match qH b (.ptr tTk) t,qH c (.uint .u64) s with
  |some a,some d=>some ((a.isSome=true/\(wi (U.tc (U.tk a))).length<=60),fun xs=>xs=xI (U.tk a) d)
  |_,_=>none)
 |_=>none
def VT:JV [.int,tPe]:={ps:=[.ref (.ptr tTk),.ref .int,.ref .int,.own (.box 4 [.dat .bool]) true],slots:=[4,6,7,8],dst:=34,pre:=fun _=>[],G:=fun d q=>((d.2.2.2.1.1||aD (U.tk d.1) d.2.1 d.2.2.1 q,()),()),stop:=fun d q=>aD (U.tk d.1) d.2.1 d.2.2.1 q,seq:=QF}
def CX:Nat->Option ((ts:List Ty)×JV ts):=fun r=>match r with
 |3=>some ⟨[.int,tPe],VT⟩
 |_=>none
def iX:wQ:=⟨[.val (.ptr tTk),.val (.uint .u64),.val .int,.val .int],[.bool],false,
 fun d=>[d.1.isSome=true,cM (U.tk d.1),0<=d.2.2.1,d.2.2.1<U.la (U.tc (U.tk d.1)),0<=d.2.2.2.1,d.2.2.2.1<U.la (U.tc (U.tk d.1))],fun d=>(mW (U.tk d.1) d.2.1 d.2.2.1 d.2.2.2.1,())⟩
abbrev jjv (d:Option (CrD×JbD×LwD×Unit)×Int×Int×Int×Unit)(x:Int×PeD×Unit):=((wG (((0:Int),[],[],()),((0:Int),(0:Int),(0:Int),(0:Int),(0:Int),(0:Int),()),((0:Int),(0:Int),false,()),()) d.1).2.2.1.1<=min (nth x.2.1.1 d.2.2.1.toNat) (nth x.2.1.1 d.2.2.2.1.toNat))
abbrev jiP (d:Option (CrD×JbD×LwD×Unit)×Int×Int×Int×Unit):=(fun(a:List (Int×PeD×Unit))=>aD (U.tk d.1) d.2.2.1 d.2.2.2.1 a)
def iY:Prop:=∀(d:Option (CrD×JbD×LwD×Unit)×Int×Int×Int×Unit),d.1.isSome=true->cM (U.tk d.1)->0<=d.2.2.1->d.2.2.1<U.la (U.tc (U.tk d.1))->0<=d.2.2.2.1->d.2.2.2.1<U.la (U.tc (U.tk d.1))->(d.1.isSome=true/\(wi (U.tc (U.tk d.1))).length<=60)/\True/\(d.1,d.2.2.1,d.2.2.2.1,(false||aD (U.tk d.1) d.2.2.1 d.2.2.2.1 [],()),())=(d.1,d.2.2.1,d.2.2.2.1,(false,()),())/\(∀(q:List (Int×PeD×Unit)) (x:Int×PeD×Unit) (rest:List (Int×PeD×Unit)),q++x::rest=xI (U.tk d.1) d.2.1->yV (jiP d) q->0<=d.2.2.1/\d.2.2.1<(x.2.1.1.length:Int)/\0<=d.2.2.2.1/\d.2.2.2.1<(x.2.1.1.length:Int)/\d.1.isSome=true/\(decide (jjv d x)=true->aD (U.tk d.1) d.2.2.1 d.2.2.2.1 (q++[x])=true/\((true,()),())=((false||aD (U.tk d.1) d.2.2.1 d.2.2.2.1 (q++[x]),()),()))/\(decide (jjv d x)=false->aD (U.tk d.1) d.2.2.1 d.2.2.2.1 (q++[x])=false/\((false||aD (U.tk d.1) d.2.2.1 d.2.2.2.1 q,()),())=((false||aD (U.tk d.1) d.2.2.1 d.2.2.2.1 (q++[x]),()),())))/\(∀(xs:List (Int×PeD×Unit)),xs=xI (U.tk d.1) d.2.1->yV (jiP d) xs->(false,())=(mW (U.tk d.1) d.2.1 d.2.2.1 d.2.2.2.1,()))/\∀(q:List (Int×PeD×Unit)) (x:Int×PeD×Unit) (rest:List (Int×PeD×Unit)),q++x::rest=xI (U.tk d.1) d.2.1->yV (jiP d) q->aD (U.tk d.1) d.2.2.1 d.2.2.2.1 (q++[x])=true->(false||aD (U.tk d.1) d.2.2.1 d.2.2.2.1 (q++[x]),())=(mW (U.tk d.1) d.2.1 d.2.2.1 d.2.2.2.1,())
theorem pH:(QC (Mv 33 [] [] [(213,wS)] []) iX (fun _ _=>none) (hkC (Mv 33 [] [] [(213,wS)] []) (fun _=>none) CX [] []) Tryz.f237 (qf Tryz.f237))=iY:=by kernel_rfl
theorem EV:CW:=by
 rintro⟨l,x,⟨⟩⟩ d;refine⟨⟨0,⟨⟨rfl,tZ⟩,tZ⟩,jl _,fun b a=>by omega⟩,fun i hi=>⟨fun h=> ?_,fun h=> ?_⟩⟩;have h:i<l.length:=(by simpa using h);simp only[jw] at*;refine⟨by omega,by omega,fun a=> ?_,fun a=>⟨iZ6,i+1,⟨⟨by simp,tZ⟩,tZ⟩,⟨by omega,fun b c=> ?_⟩,by omega⟩⟩;rw[yt (p:=fun y=>decide (y=x)) h hi.2 (by have:=ja a;rw[<-this];exact jG rfl)];by_cases e:b=i;subst e;exact zn (fun e=>jc a e.symm);exact hi.2 b (by omega);have h:l.length<=i:=(by simpa using h);rw[q8 (p:=fun y=>decide (y=x)) h hi.2]
theorem CY:wV PR 184 CU:=qY CV EV Tryz.func184 kcN koN
theorem ul:sG:=by
 rintro⟨l,x,⟨⟩⟩;exact jF (·,()) (iv (fun y=>decide (y=x)) l)
theorem dA:wV PR 144 sF:=wK ul Tryz.func144 (kcC CY kcN) koN
theorem pI {c:CrD} {j:JbD} (h:vE c j=0):wt c=true/\qb c j=true:=by
 unfold vE at h
 split at h
 omega
 split at h
 omega;rename_i a b;exact⟨by simpa using a,by simpa using b⟩
theorem w4 {c:CrD} (h:wt c=true):2<=U.la c/\U.la c<=5/\(wi c).length<=8/\(yR c).length=4/\(∀p∈wi c,fE (U.la c) p=true)/\∀l∈yR c,fF l=true:=by
 unfold wt at h;simp only[ji,jp,jT] at h;exact⟨h.1.1,h.1.2.1,h.1.2.2.1,h.1.2.2.2,h.2.1,h.2.2⟩
theorem mq {c:CrD} {j:JbD} (h:qb c j=true):(0<=Mw j/\Mw j<U.la c)/\(0<=G1 j/\G1 j<U.la c)/\Mw j≠G1 j/\(0<=PH j/\PH j<=7)/\(0<=bU j/\bU j<=3)/\(1<=Z4 j/\Z4 j<=8):=by
 unfold qb at h;have h:=ja h;obtain⟨d,m,e,n,f,_,_,g,i,k,l,a,b⟩:=h;exact⟨⟨d,by omega⟩,⟨e,by omega⟩,f,⟨g,i⟩,⟨k,l⟩,a,b⟩
theorem VU {c:CrD} {j:JbD} (h:vE c j=0):G2 c j=some (c,j,db c j,())/\cM (c,j,db c j,()):=by
 obtain⟨a,b⟩:=pI h;exact⟨by unfold G2;rw[jg h],a,b,rfl⟩
theorem YU:VS:=by
 unfold VS Prod.q4;rintro⟨c,j,⟨⟩⟩;refine⟨fun h=> ?_,fun h=> ?_⟩;have h:vE c j≠0:=ja h;simp only;unfold G2;rw[jd h];have h:vE c j=0:=(by simpa using h);obtain⟨b,d⟩:=pI h;obtain⟨_,_,_,a,_⟩:=w4 b;obtain⟨_,_,_,_,hk,_⟩:=mq d;have hk:0<=j.2.2.2.2.1/\j.2.2.2.2.1<=3:=hk;have a:c.2.2.1.length=4:=a;refine⟨hk.1,by simp only;omega,?_⟩;simp only;rw[(VU h).1,h];rfl
theorem Kp:wV PR 179 VR:=wK YU Tryz.func179 (kcC GD kcN) koN
theorem um (t:TkD) (s:Int) (n:Nat):gq t s (n+1)=gq t s n++(if tJ s (n:Int)=true then[((n:Int),nth (wi (U.tc t)) n,())] else[]):=by
 unfold gq;rw[L.yf,zw]
 split<;>simp
theorem VV (t:TkD) (s:Int) {n m:Nat} (h:n<=m):∃rest,gq t s n++rest=gq t s m:=by
 induction m with
 |zero=>
  have:n=0:=(by omega);subst this;exact⟨[],by simp⟩
 |succ m b=>
  by_cases e:n=m+1;subst e;exact⟨[],by simp⟩;obtain⟨r,a⟩:=b (by omega);rw[um,<-a];exact⟨r++_,by rw[jM]⟩
theorem sH:cA:=by
 unfold cA jiO jhD jf1 jhC;rintro⟨(_|t),s,⟨⟩⟩ l i e;cases i;have e:(wi (U.tc t)).length<=60:=e;refine⟨rfl,fun _=>⟨⟨0,⟨⟨rfl,tZ⟩,tZ⟩,rfl,jl _⟩,fun x g=> ?_⟩⟩;have g:x<=(wi (U.tc t)).length:=g;have c:U.tk (some t)=t:=rfl;refine⟨fun h=> ?_,fun h=> ?_⟩;have h:x<(wi (U.tc t)).length:=by
  have:=ja h;have this:(x:Int)<(wi (U.tc t)).length:=this;omega
 have j:(x:Int)<(wi (U.tc t)).length:=(by omega);refine⟨by omega,j,by omega,by omega,fun b=> ?_,fun b=> ?_⟩;have d:gq t s (x+1)=gq t s x++[((x:Int),nth (wi (U.tc t)) x,())]:=(by rw[um,jg b]);obtain⟨r,f⟩:=VV t s (show x+1<=(wi (U.tc t)).length by omega);refine⟨rfl,⟨r,by rw[d] at f;exact f⟩,⟨fun a=>absurd a (by rw[Bool.not_true,kx];simp),fun _=>⟨iZ6,x+1,⟨⟨by omega,tZ⟩,tZ⟩,?_,(show x+1<=(wi (U.tc t)).length by omega),(show(wi (U.tc t)).length-(x+1)<(wi (U.tc t)).length-x by omega)⟩⟩,
  fun _ a=>(by cases a),fun a=> ?_⟩
 rw[c,d];rfl;rw[Bool.not_false,Bool.and_true] at a;exact absurd b (by simp only at a⊢;rw[a];simp);have d:gq t s (x+1)=gq t s x:=by
  rw[um,jd (by simp only at b⊢;rw[b];simp),jZ]
 refine⟨fun a=> ?_,fun _=>⟨iZ6,x+1,⟨⟨by omega,tZ⟩,tZ⟩,?_,(show x+1<=(wi (U.tc t)).length by omega),(show(wi (U.tc t)).length-(x+1)<(wi (U.tc t)).length-x by omega)⟩⟩;rw[Bool.not_false,Bool.and_true] at a;exact absurd a (by simp only at b⊢;rw[b];simp);rw[c,d];have h:(wi (U.tc t)).length<=x:=by
  have:=jc h;have this:¬(x:Int)<(wi (U.tc t)).length:=this;omega
 intro _;rw[show x=(wi (U.tc t)).length by omega];rfl
theorem NE {H:Imm} {lb:Array Value} {d:PD [.ref (.ptr tTk),.ref (.uint .u64)]} (g:pvs PR H [.ref (.ptr tTk),.ref (.uint .u64)] lb.toList d) (a:d.1.isSome=true) (b:(wi (U.tc (U.tk d.1))).length<=60):YG PR H [.int,tPe] (LM d) (.func (.func 234) #[] lb):=
 jar (C:=ctx 28 [(235,ml)] []) (oD ⟨fun _=>Ki,tZ⟩ trivial) mixed Tryz.func234 (by kernel_rfl) (by kernel_rfl) (by kernel_rfl) (by kernel_rfl) (by decide) (lA.mpr sH) (fun d l B0 R h c e f=>jdo c f) g ⟨a,b,tZ⟩
theorem xZ:eN:=by intro d;rfl
theorem eQ:JZ PR 213 wS:=jdr (nO.mpr xZ) Tryz.func213 (by kernel_rfl) (by kernel_rfl) (by kernel_rfl) (by kernel_rfl) trivial trivial
theorem jbK:∀(f:Nat) (p:Nat×pn),wH ([]:List (Nat×Nat×pn)) f=some p->ROK PR f p.2:=fun _ _ h=>by cases h
theorem Kq {sv:SV} {pr:Prop} {L:List (Ty.st [.int,tPe]).Data->Prop} {v:Value} {ρ:Env} (a:QF sv=some (pr,L)) (b:pr) (g:SV.den PR ρ sv v):YG PR ρ.H [.int,tPe] L v:=by
 unfold QF at a
 split at a
 case h_2=>cases a
 rename_i m t n s
 split at a
 case h_2=>cases a
 rename_i q p l f;simp only[jz,Prod.mk.injEq] at a;obtain⟨rfl,rfl⟩:=a;obtain⟨e,rfl⟩:=wn l;subst e;obtain⟨e2,rfl⟩:=wn f;subst e2;simp only[SV.den,SV.denL] at g;obtain⟨lb,rfl,x,r,k,h,y,o,c,i,j⟩:=g;exact NE (d:=(t,s,())) (by rw[k,c,j];exact⟨h,i,rfl⟩) b.1 b.2
theorem sI (t:TkD) (a b:Int) (q:List (Int×PeD×Unit)) (x:Int×PeD×Unit):aD t a b (q++[x])=U.jn t a b x:=by
 unfold aD;rw[List.getLast?_append];simp
theorem NF {t:TkD} {a b:Int} {q:List (Int×PeD×Unit)} (h:yV (fun q=>aD t a b q) q):q.any (U.jn t a b)=false:=by
 rw[zi];intro x c;obtain⟨u,v,rfl⟩:=List.append_of_mem c;have:=h u x v rfl;simp only[sI] at this;rw[this];simp
theorem R6 {t:TkD} {s:Int} {x:Int×PeD×Unit} (h:x∈xI t s):x.2.1∈wi (U.tc t):=by
 unfold xI gq at h;obtain⟨i,hi,rfl⟩:=jV.1 h;have:=jD.1 (jP.1 hi).1;exact L.wh this
theorem jbL {n:Int} {p:PeD} (h:fE n p=true):((U.lv p).length:Int)=n:=by
 unfold fE at h;simp only[ji,jp] at h;exact h.1.1
theorem CZ:iY:=by
 unfold iY jiP jjv;rintro⟨(_|t),s,a,b,⟨⟩⟩ r l v f w g;cases r;obtain⟨c1,c2,A⟩:=l;have c1:wt (U.tc t)=true:=c1;obtain⟨B,C,D,E,p,F⟩:=w4 c1;have k:(wi (U.tc t)).length<=60:=(by omega);have c:U.tk (some t)=t:=rfl;refine⟨⟨rfl,k⟩,tZ,rfl,fun q x rest i e=> ?_,fun xs j e=> ?_,fun q x rest i e d=> ?_⟩;have z:x∈xI t s:=(by rw[c] at i;rw[<-i];simp);have o:=jbL (p _ (R6 z));have o:((x.2.1.1.length:Nat):Int)=U.la (U.tc t):=o;have f:a<U.la (U.tc t):=f;have g:b<U.la (U.tc t):=g;have m:aD t a b q=false:=by
  cases n:q.getLast? with
  |none=>unfold aD;rw[n]
  |some y=>
   obtain⟨u,rfl⟩:=List.getLast?_eq_some_iff.1 n;have:=e u y [] rfl;exact this
 refine⟨v,by simp only;omega,w,by simp only;omega,rfl,fun h=> ?_,fun h=> ?_⟩;have h:U.jn t a b x=true:=h;have:aD t a b (q++[x])=true:=(by rw[sI];exact h);rw[c];simp only;exact⟨this,by rw[this];rfl⟩;have h:U.jn t a b x=false:=h;have:aD t a b (q++[x])=false:=(by rw[sI];exact h);rw[c];simp only;exact⟨this,by rw[this,m]⟩;rw[c] at j e;subst j;have:=NF e;simp only;rw[c];unfold mW;rw[this];rw[c] at i d⊢;simp only at d⊢;rw[d];unfold mW;rw[<-i];rw[sI] at d;simp[d]
theorem Kr:(Mv 33 [] [] [(213,wS)] []).ok PR:=Nu trivial trivial ⟨eQ,tZ⟩ trivial
theorem x7:wV PR 237 iX:=
 VG (body:=qf Tryz.f237) (C:=Mv 33 [] [] [(213,wS)] []) (hk:=hkC (Mv 33 [] [] [(213,wS)] []) (fun _=>none) CX [] []) Kr mixed Tryz.func237 (by kernel_rfl) (by kernel_rfl) (by kernel_rfl) (by decide)
  (fun B=>GA Kr mixed (fun k ts rs sv pr L v ρ hk c a b=>by
   unfold CX at hk
   split at hk
   case h_2=>cases hk
   simp only[jz] at hk
   cases hk
   exact Kq c a b) jbK B) (pH.mpr CZ)
namespace U
def aJ (x:Int) (N n:Nat):List Int:=List.replicate n x++List.replicate (N-n) 0
def Mx (t:TkD) (c:Int) (a b:Nat):Bool:=mW t c (a:Int) (b:Int)
def iR (t:TkD) (a:Int):List Int:=jd4 (Mx t a) (la (tc t)).toNat (G1 (tj t)).toNat
def qg (t:TkD) (a:Int) (k:Nat):List Int×List Int:=aL (Mx t a) (la (tc t)).toNat (G1 (tj t)).toNat k
def gT (t:TkD) (a:Int) (x:List Int×List Int) (i:Nat):List Int×List Int:=tI (Mx t a) (nth x.2 0).toNat x i
def jcZ (t:TkD) (a:Int) (x:List Int×List Int) (lo:Nat):Prop:=jcW (Mx t a) (la (tc t)).toNat (G1 (tj t)).toNat x/\x.2≠[]/\x.2.length<=10/\lo<=10
end U
def glo (σ:St) (s:Nat):Nat:=match σ.get s with
 | .osl _ _ lo _=>lo
 |_=>0
def HS:wQ:=⟨[.val (.uint .u64),.val (.uint .u64)],[.uint .u64,.uint .u64],false,fun d=>[0<=d.1,d.1<=1000,0<=d.2.1,d.2.1<=1000],fun d=>((0:Int),d.1*d.2.1,())⟩
abbrev jgB (d:Int×Int×Unit):=(d.1/(2:Int)^Int.toNat 32*gJ d.2.1 (4294967295:Int)+gJ d.1 (4294967295:Int)*gJ d.2.1 (4294967295:Int)/(2:Int)^Int.toNat 32)
abbrev jf2 (d:Int×Int×Unit):=(d.2.1/(2:Int)^Int.toNat 32)
abbrev jiQ (d:Int×Int×Unit):=(gJ (jgB d) (4294967295:Int)+gJ d.1 (4294967295:Int)*(jf2 d))
def HT:Prop:=∀(d:Int×Int×Unit),0<=d.1->d.1<=1000->0<=d.2.1->d.2.1<=1000->(0:Int)<=32/\(32:Int)<=64/\(0:Int)<=32/\(32:Int)<=64/\0<=gJ d.1 (4294967295:Int)*gJ d.2.1 (4294967295:Int)/\gJ d.1 (4294967295:Int)*gJ d.2.1 (4294967295:Int)<=18446744073709551615/\0<=d.1/(2:Int)^Int.toNat 32*gJ d.2.1 (4294967295:Int)/\d.1/(2:Int)^Int.toNat 32*gJ d.2.1 (4294967295:Int)<=18446744073709551615/\(0:Int)<=32/\(32:Int)<=64/\0<=d.1/(2:Int)^Int.toNat 32*gJ d.2.1 (4294967295:Int)+gJ d.1 (4294967295:Int)*gJ d.2.1 (4294967295:Int)/(2:Int)^Int.toNat 32/\d.1/(2:Int)^Int.toNat 32*gJ d.2.1 (4294967295:Int)+gJ d.1 (4294967295:Int)*gJ d.2.1 (4294967295:Int)/(2:Int)^Int.toNat 32<=18446744073709551615/\(0:Int)<=32/\(32:Int)<=64/\0<=gJ d.1 (4294967295:Int)*(jf2 d)/\gJ d.1 (4294967295:Int)*(jf2 d)<=18446744073709551615/\0<=gJ (jgB d) (4294967295:Int)+gJ d.1 (4294967295:Int)*(jf2 d)/\gJ (jgB d) (4294967295:Int)+gJ d.1 (4294967295:Int)*(jf2 d)<=18446744073709551615/\0<=d.1/(2:Int)^Int.toNat 32*(jf2 d)/\d.1/(2:Int)^Int.toNat 32*(jf2 d)<=18446744073709551615/\0<=d.1/(2:Int)^Int.toNat 32*(jf2 d)+(jgB d)/(2:Int)^Int.toNat 32/\d.1/(2:Int)^Int.toNat 32*(jf2 d)+(jgB d)/(2:Int)^Int.toNat 32<=18446744073709551615/\(0:Int)<=32/\(32:Int)<=64/\0<=d.1/(2:Int)^Int.toNat 32*(jf2 d)+(jgB d)/(2:Int)^Int.toNat 32+(jiQ d)/(2:Int)^Int.toNat 32/\d.1/(2:Int)^Int.toNat 32*(jf2 d)+(jgB d)/(2:Int)^Int.toNat 32+(jiQ d)/(2:Int)^Int.toNat 32<=18446744073709551615/\0<=d.1*d.2.1/\d.1*d.2.1<=18446744073709551615/\(d.1/(2:Int)^Int.toNat 32*(jf2 d)+(jgB d)/(2:Int)^Int.toNat 32+(jiQ d)/(2:Int)^Int.toNat 32,d.1*d.2.1,())=((0:Int),d.1*d.2.1,())
def NG:wQ:=⟨[.val (.uint .u64),.val (.uint .u64)],[.uint .u64,.uint .u64],false,fun d=>[0<=d.1,d.1<=1000,0<=d.2.1,d.2.1<=1000],fun d=>((0:Int),d.1*d.2.1,())⟩
def NH:Prop:=∀(d:Int×Int×Unit),0<=d.1->d.1<=1000->0<=d.2.1->d.2.1<=1000->(false=true->False)/\(qF->0<=d.1/\d.1<=1000/\0<=d.2.1/\d.2.1<=1000/\((0:Int),d.1*d.2.1,())=((0:Int),d.1*d.2.1,()))
def x8:q7:=⟨[.val (.slice .int),.val .int],[.cl (.row 3 .int .no)],fun d=>[d.1.length=1,0<=d.2.1,d.2.1<=1000],fun d=>((List.replicate d.2.1.toNat (nth d.1 0),()),())⟩
def x9:Ann:=fun r=>match r with
 |8=>some fun σ=>{X:=Nat,sl:=fun n=>[(8,.dat .int (n:Int))],ob:=fun n=>[(7,some (.row 3 .int false .no (aJ (nth (gd (.slice .int) σ 0) 0) (gd .int σ 1).toNat n)))],inv:=fun n=>n<=(gd .int σ 1).toNat/\(1<=n\/(gd .int σ 1).toNat=0),mu:=fun n=>(gd .int σ 1).toNat-n}
 |_=>none
abbrev jf8 (d:List Int×Int×Unit):=(d.1.length:Int)
abbrev jhE (d:List Int×Int×Unit):=(List.replicate ((jf8 d)*d.2.1).toNat (0:Int))
abbrev jhF (d:List Int×Int×Unit)(x:Nat):=(aJ (nth d.1 0) d.2.1.toNat x)
abbrev jgW (d:List Int×Int×Unit)(x:Nat):=(↑(jhF d x).length:Int)
abbrev jiR (x:Nat)(d:List Int×Int×Unit):=(List.take ((x:Int).toNat-Int.toNat 0) (List.drop (Int.toNat 0) (jhF d x)))
abbrev jih (d:List Int×Int×Unit)(x:Nat):=((jgW d x).toNat-(x:Int).toNat)
abbrev jjw (d:List Int×Int×Unit):=(decide ((0:Int)<0)||decide (9223372036854775807<(jf8 d)*d.2.1))
def Aa:Prop:=∀(d:List Int×Int×Unit),d.1.length=1->0<=d.2.1->d.2.1<=1000->(decide (d.2.1<0)=true->False)/\(decide (d.2.1<0)=false->d.1.length<4611686018427387904->0<=(jf8 d)/\(jf8 d)<=18446744073709551615/\0<=d.2.1/\d.2.1<=18446744073709551615/\0<=(jf8 d)/\(jf8 d)<=1000/\0<=d.2.1/\d.2.1<=1000/\((jjw d)=true->False)/\((jjw d)=false->wm ((jf8 d)*d.2.1)/\0<=(jf8 d)*d.2.1/\(jf8 d)*d.2.1=(jf8 d)*d.2.1/\((jf8 d)*d.2.1).toNat*8<=140737488355328/\0+(jhE d).length<=(jhE d).length/\(∃(x:Nat),(((↑(List.take (jhE d).length d.1).length:Int)=(x:Int)/\True)/\Uh (jhE d) 0 (jhE d).length d.1=aJ (nth d.1 0) d.2.1.toNat x/\True)/\x<=d.2.1.toNat/\(1<=x\/d.2.1.toNat=0))/\∀(x:Nat),x<=d.2.1.toNat/\(1<=x\/d.2.1.toNat=0)->(jhF d x).length<4611686018427387904->(decide ((x:Int)<(jgW d x))=true->0<=(x:Int)/\(x:Int)<=(jgW d x)/\(jgW d x)<=(jgW d x)/\(0:Int)<=0/\0<=(x:Int)/\(x:Int)<=(jgW d x)/\(x:Int).toNat+(jih d x)<=(jhF d x).length/\wm ((x:Int)+(List.take (jih d x) (jiR x d)).length)/\∃(a:Nat),(((x:Int)+(List.take (jih d x) (jiR x d)).length=(a:Int)/\True)/\Uh (jhF d x) (x:Int).toNat (jih d x) (jiR x d)=aJ (nth d.1 0) d.2.1.toNat a/\True)/\(a<=d.2.1.toNat/\(1<=a\/d.2.1.toNat=0))/\d.2.1.toNat-a<d.2.1.toNat-x)/\(decide ((x:Int)<(jgW d x))=false->(aJ (nth d.1 0) d.2.1.toNat x,())=(List.replicate d.2.1.toNat (nth d.1 0),())/\()=())))
def gH:wQ:=⟨[.val (.ptr tTk),.val (.uint .u64)],[.slice .int],false,fun d=>[d.1.isSome=true,cM (U.tk d.1)],fun d=>(iR (U.tk d.1) d.2.1,())⟩
def HU:Ann:=fun r=>match r with
 |4=>some fun σ=>{X:=Nat×List Int,sl:=fun x=>[(6,.osl 6 .int x.2.length (qg (U.tk (gd (.ptr tTk) σ 0)) (gd (.uint .u64) σ 1) x.1).2.length)],ob:=fun x=>[(5,some (.row 3 .int false .no (qg (U.tk (gd (.ptr tTk) σ 0)) (gd (.uint .u64) σ 1) x.1).1)),(6,some (.row 3 .int false .no (x.2++(qg (U.tk (gd (.ptr tTk) σ 0)) (gd (.uint .u64) σ 1) x.1).2)))],inv:=fun x=>x.2.length<=x.1/\x.1<=(U.la (U.tc (U.tk (gd (.ptr tTk) σ 0)))).toNat,mu:=fun x=>(U.la (U.tc (U.tk (gd (.ptr tTk) σ 0)))).toNat+1-x.1}
 |7=>some fun σ=>{X:=Nat×List Int,sl:=fun x=>[(28,.any),(35,.dat .int (x.1:Int)),(6,.osl 6 .int x.2.length (gT (U.tk (gd (.ptr tTk) σ 0)) (gd (.uint .u64) σ 1) (gr .int σ 5,(gr .int σ 6).drop (glo σ 6)) x.1).2.length)],ob:=fun x=>[(5,some (.row 3 .int false .no (gT (U.tk (gd (.ptr tTk) σ 0)) (gd (.uint .u64) σ 1) (gr .int σ 5,(gr .int σ 6).drop (glo σ 6)) x.1).1)),(6,some (.row 3 .int false .no (x.2++(gT (U.tk (gd (.ptr tTk) σ 0)) (gd (.uint .u64) σ 1) (gr .int σ 5,(gr .int σ 6).drop (glo σ 6)) x.1).2)))],inv:=fun x=>x.1<=(gr .int σ 5).length/\x.2.length<=glo σ 6/\jcZ (U.tk (gd (.ptr tTk) σ 0)) (gd (.uint .u64) σ 1) (gr .int σ 5,(gr .int σ 6).drop (glo σ 6)) (glo σ 6),mu:=fun x=>(gr .int σ 5).length-x.1}
 |2000011=>some fun _=>{X:=Unit,sl:=fun _=>[],ob:=fun _=>[],inv:=fun _=>True,mu:=fun _=>0}
 |_=>none
abbrev jgq (d:Option (CrD×JbD×LwD×Unit)×Int×Unit):=(wG (((0:Int),[],[],()),((0:Int),(0:Int),(0:Int),(0:Int),(0:Int),(0:Int),()),((0:Int),(0:Int),false,()),()) d.1)
abbrev jfH (d:Option (CrD×JbD×LwD×Unit)×Int×Unit)(x:Nat×List Int):=(qg (U.tk d.1) d.2.1 x.1)
abbrev jhc (d:Option (CrD×JbD×LwD×Unit)×Int×Unit)(x:Nat×List Int):=((jfH d x).1,List.drop x.2.length (x.2++(jfH d x).2))
abbrev jfy (d:Option (CrD×JbD×LwD×Unit)×Int×Unit)(x:Nat×List Int)(a:Nat×List Int):=(gT (U.tk d.1) d.2.1 (jhc d x) a.1)
abbrev jgf (d:Option (CrD×JbD×LwD×Unit)×Int×Unit)(x:Nat×List Int)(a:Nat×List Int):=(nth (jfy d x a).1 (a.1:Int).toNat<0)
abbrev jgC (a:Nat×List Int):=(a.2.length+Int.toNat 0)
abbrev jhd (d:Option (CrD×JbD×LwD×Unit)×Int×Unit)(x:Nat×List Int)(a:Nat×List Int):=(gT (U.tk d.1) d.2.1 (jhc d x) a.1)
def HV:Prop:=∀(d:Option (CrD×JbD×LwD×Unit)×Int×Unit),d.1.isSome=true->cM (U.tk d.1)->d.1.isSome=true/\[(-1:Int)].length=1/\(0:Int)<=(jgq d).1.1/\(jgq d).1.1<=1000/\d.1.isSome=true/\(0:Int)<=(jgq d).2.1.2.1/\(jgq d).2.1.2.1<(↑(List.replicate (jgq d).1.1.toNat (nth [(-1:Int)] 0)).length:Int)/\d.1.isSome=true/\(∃(x:Nat×List Int),(((x.2.length=0/\(jfH d x).2.length=[(jgq d).2.1.2.1].length)/\True)/\(List.replicate (jgq d).1.1.toNat (nth [(-1:Int)] 0)).set (jgq d).2.1.2.1.toNat 0=(jfH d x).1/\[(jgq d).2.1.2.1]=x.2++(jfH d x).2/\True)/\x.2.length<=x.1/\x.1<=(U.la (U.tc (U.tk d.1))).toNat)/\∀(x:Nat×List Int),x.2.length<=x.1/\x.1<=(U.la (U.tc (U.tk d.1))).toNat->(jfH d x).2.length<4611686018427387904->(decide ((0:Int)<(jfH d x).2.length)=true->(jfH d x).1.length<4611686018427387904->(∃(a:Nat×List Int),((0=(a.1:Int)/\(x.2.length=a.2.length/\(jfH d x).2.length=(jfy d x a).2.length)/\True)/\(jfH d x).1=(jfy d x a).1/\x.2++(jfH d x).2=a.2++(jfy d x a).2/\True)/\a.1<=(jfH d x).1.length/\a.2.length<=x.2.length/\jcZ (U.tk d.1) d.2.1 (jhc d x) x.2.length)/\∀(a:Nat×List Int),a.1<=(jfH d x).1.length/\a.2.length<=x.2.length/\jcZ (U.tk d.1) d.2.1 (jhc d x) x.2.length->(decide ((a.1:Int)<(jfH d x).1.length)=true->0<=(a.1:Int)/\(a.1:Int)<(jfy d x a).1.length/\(decide (jgf d x a)=true->(0:Int)<=0)/\(decide (jgf d x a)=true->(0:Int)<(jfy d x a).2.length)/\(decide (jgf d x a)=true->d.1.isSome=true)/\(decide (jgf d x a)=true->cM (U.tk d.1))/\(decide (jgf d x a)=true->0<=nth (a.2++(jfy d x a).2) (jgC a))/\(decide (jgf d x a)=true->nth (a.2++(jfy d x a).2) (jgC a)<U.la (U.tc (U.tk d.1)))/\(decide (jgf d x a)=true->0<=(a.1:Int))/\(decide (jgf d x a)=true->(a.1:Int)<U.la (U.tc (U.tk d.1)))/\((decide (jgf d x a)&&mW (U.tk d.1) d.2.1 (nth (a.2++(jfy d x a).2) (jgC a)) (a.1:Int))=true->(0:Int)<=0/\(0:Int)<(jfy d x a).2.length/\0<=nth (a.2++(jfy d x a).2) (jgC a)/\nth (a.2++(jfy d x a).2) (jgC a)<(↑(jfy d x a).1.length:Int)/\wm (nth (jfy d x a).1 (nth (a.2++(jfy d x a).2) (jgC a)).toNat+1)/\0<=(a.1:Int)/\(a.1:Int)<(jfy d x a).1.length/\a.2.length+(jfy d x a).2.length=(a.2++(jfy d x a).2).length/\0<(jfy d x a).2.length/\a.2.length+(jfy d x a).2.length+[(a.1:Int)].length<4611686018427387904/\((jfy d x a).2.length+[(a.1:Int)].length)*8<=140737488355328/\∀(pre:List Int),pre.length<=a.2.length->wm ((a.1:Int)+1)/\∃(b:Nat×List Int),(((a.1:Int)+1=(b.1:Int)/\(pre.length=b.2.length/\(jfy d x a).2.length+[(a.1:Int)].length=(jhd d x b).2.length)/\True)/\pre++List.drop a.2.length (a.2++(jfy d x a).2)++[(a.1:Int)]=b.2++(jhd d x b).2/\(jfy d x a).1.set (a.1:Int).toNat (nth (jfy d x a).1 (nth (a.2++(jfy d x a).2) (jgC a)).toNat+1)=(jhd d x b).1/\True)/\(b.1<=(jfH d x).1.length/\b.2.length<=x.2.length/\jcZ (U.tk d.1) d.2.1 (jhc d x) x.2.length)/\(jfH d x).1.length-b.1<(jfH d x).1.length-a.1)/\((decide (jgf d x a)&&mW (U.tk d.1) d.2.1 (nth (a.2++(jfy d x a).2) (jgC a)) (a.1:Int))=false->wm ((a.1:Int)+1)/\∃(b:Nat×List Int),(((a.2.length=b.2.length/\(jfy d x a).2.length=(jhd d x b).2.length)/\(a.1:Int)+1=(b.1:Int)/\True)/\a.2++(jfy d x a).2=b.2++(jhd d x b).2/\(jfy d x a).1=(jhd d x b).1/\True)/\(b.1<=(jfH d x).1.length/\b.2.length<=x.2.length/\jcZ (U.tk d.1) d.2.1 (jhc d x) x.2.length)/\(jfH d x).1.length-b.1<(jfH d x).1.length-a.1))/\(decide ((a.1:Int)<(jfH d x).1.length)=false->(0:Int)<=1/\(1:Int)<=(jfy d x a).2.length/\(↑(jfy d x a).2.length:Int)<=(jfy d x a).2.length/\∃(b:Nat×List Int),(((a.2.length+Int.toNat 1=b.2.length/\(↑(jfy d x a).2.length:Int).toNat-Int.toNat 1=(qg (U.tk d.1) d.2.1 b.1).2.length)/\True)/\(jfy d x a).1=(qg (U.tk d.1) d.2.1 b.1).1/\a.2++(jfy d x a).2=b.2++(qg (U.tk d.1) d.2.1 b.1).2/\True)/\(b.2.length<=b.1/\b.1<=(U.la (U.tc (U.tk d.1))).toNat)/\(U.la (U.tc (U.tk d.1))).toNat+1-b.1<(U.la (U.tc (U.tk d.1))).toNat+1-x.1))/\(decide ((0:Int)<(jfH d x).2.length)=false->((jfH d x).1,())=(iR (U.tk d.1) d.2.1,()))
theorem HW {x:Int} (a:0<=x) (b:x<=4294967295):gJ x 4294967295=x:=by
 obtain⟨n,rfl⟩:∃n:Nat,x=(n:Int):=⟨x.toNat,by omega⟩;rw[show(4294967295:Int)=((4294967295:Nat):Int) from rfl,BT.uand_nat (by omega) (by omega),show(4294967295:Nat)=2^32-1 from rfl,Nat.and_two_pow_sub_one_eq_mod,kO (by omega)]
theorem Ks:HT:=by
 unfold HT jiQ jf2 jgB;rintro⟨x,y,⟨⟩⟩ b c a d;simp only at b c a d;have f:=HW b (by omega);have g:=HW a (by omega);have e:=HW (x:=0) (by omega) (by omega);have h:x/2^Int.toNat 32=0:=kH b (by show x<2^32;omega);have i:y/2^Int.toNat 32=0:=kH a (by show y<2^32;omega);have k:0<=x*y:=Int.mul_nonneg b a;have l:x*y<=1000*1000:=Int.mul_le_mul c d a (by omega);have c1:x*y/2^Int.toNat 32=0:=kH k (by show x*y<2^32;omega);have j:(0:Int)/2^Int.toNat 32=0:=Int.zero_ediv _;simp only[f,g,h,i,Int.zero_mul,Int.mul_zero,Int.add_zero,c1,e,j]
 and_intros<;>first|omega|rfl|trivial
theorem HX:wV PR 250 HS:=wK Ks Tryz.func250 kcN koN
theorem R7:NH:=by
 rintro⟨x,y,⟨⟩⟩ a b c d;exact⟨fun h=>(by cases h),fun _=>⟨a,b,c,d,rfl⟩⟩
theorem NI:wV PR 245 NG:=wK R7 Tryz.func245 (kcC HX kcN) koN
theorem HY {x:Int} {N n:Nat} (h:n<=N):(aJ x N n).length=N:=by
 unfold aJ;simp;omega
theorem Kt {x:Int} {N n:Nat} (_:n<=N):(aJ x N n).take n=List.replicate n x:=by
 unfold aJ;rw[List.take_append_of_le_length (by simp),zv (by simp)]
theorem VW {x:Int} {N n:Nat} (h:n<=N):Uh (aJ x N n) n (N-n) (List.replicate n x)=aJ x N (n+min (N-n) n):=by
 unfold Uh;rw[Kt h,List.take_replicate,zu];unfold aJ;rw[List.drop_append,zu,List.drop_of_length_le (by simp),jY,List.drop_replicate,<-List.replicate_append_replicate];congr 2;omega
theorem C4:Aa:=by
 unfold Aa jjw jih jiR jgW jhF jhE jf8;rintro⟨l,n,⟨⟩⟩ b g e;simp only at b g e;obtain⟨N,rfl⟩:∃N:Nat,n=(N:Int):=⟨n.toNat,by omega⟩;obtain⟨y,rfl⟩:∃y,l=[y]:=by
  cases l with
  |nil=>simp at b
  |cons y r=>cases r with
   |nil=>exact⟨y,rfl⟩
   |cons z r=>simp at b
 have c:(([y].length:Nat):Int)*(N:Int)=(N:Int):=(by simp);have f:nth [y] 0=y:=rfl
 dsimp only
 refine⟨fun h=> ?_,fun _ _=>⟨by simp,by simp,by omega,by omega,by simp,by simp,by omega,e,fun h=> ?_,fun _=> ?_⟩⟩;have:=ja h;omega;rw[c] at h;have h:(9223372036854775807:Int)<(N:Int):=(by simpa using h);omega;rw[c,f];simp only[jw,zu];refine⟨iZ6,by omega,tZ,by omega,by omega,⟨min 1 N,⟨⟨?_,tZ⟩,?_,tZ⟩,by omega,by omega⟩,fun x a i=>⟨fun h=> ?_,fun h=> ?_⟩⟩;rw[j6];simp only[j8,zr];omega;rcases zP N with d|d;subst d;rfl;obtain⟨M,rfl⟩:∃M,N=M+1:=⟨N-1,by omega⟩;have:min 1 (M+1)=1:=(by omega);rw[this];simp[Uh,aJ,List.replicate_succ];have h:=ja h;rw[HY a.1] at h;simp only[HY a.1,Int.toNat_zero,List.drop_zero,ky,Kt a.1,List.take_replicate,zu];refine⟨by omega,by omega,by omega,by omega,by omega,by omega,by omega,iZ6,x+min (N-x) x,⟨⟨by omega,tZ⟩,VW a.1,tZ⟩,⟨by omega,by omega⟩,by omega⟩;have h:=jc h;rw[HY a.1] at h;have h:x=N:=(by have:=a.1;omega);subst h;refine⟨?_,tZ⟩;unfold aJ;rw[Nat.sub_self];simp
theorem Ab:gX PR 236 x8:=sA x9 C4 Tryz.func236 (kcC NI kcN) koN
theorem jbM {a b:List Int}:nth (a++b) (a.length+Int.toNat 0)=nth b 0:=by
 unfold nth;simp only[ze,Int.toNat_zero,zL];rw[jx (jj _),Nat.sub_self]
theorem Ku {t:TkD} {s:Int} (a:cM t):2<=U.la (U.tc t)/\U.la (U.tc t)<=5/\0<=G1 (U.tj t)/\G1 (U.tj t)<U.la (U.tc t):=by
 obtain⟨c1,c2,_⟩:=a;obtain⟨b,c,_⟩:=w4 c1;obtain⟨_,⟨d,e⟩,_⟩:=mq c2;exact⟨b,c,d,e⟩
theorem Kv:HV:=by
 unfold HV jhd jgC jgf jfy jhc jfH jgq;rintro⟨(_|t),s,⟨⟩⟩ h0 m;cases h0;have m:cM t:=m;obtain⟨l1,l2,j1,j2⟩:=Ku (s:=s) m;have w:U.tk (some t)=t:=rfl;obtain⟨n,A⟩:∃n,n=(U.la (U.tc t)).toNat:=⟨_,rfl⟩;obtain⟨v,hv⟩:∃v,v=(G1 (U.tj t)).toNat:=⟨_,rfl⟩;have Z:v<n:=(by omega);have X:∀k,jcW (Mx t s) n v (qg t s k)/\((qg t s k).2=[]\/J6 (qg t s k).1+(qg t s k).2.length+k=n):=by
  intro k;rw[A,hv] at*;exact CR Z k
 refine⟨rfl,rfl,(by omega:0<=U.la (U.tc t)),(by omega:U.la (U.tc t)<=1000),rfl,j1,?_,rfl,⟨(0,[]),⟨⟨⟨rfl,rfl⟩,tZ⟩,rfl,?_,tZ⟩,jj _,jl _⟩,fun x hx S=>⟨fun j T=> ?_,fun h=> ?_⟩⟩;show G1 (U.tj t)<(((List.replicate (U.la (U.tc t)).toNat (nth [(-1:Int)] 0)).length:Nat):Int);rw[zu];omega;show[G1 (U.tj t)]=[]++[(((G1 (U.tj t)).toNat:Nat):Int)];rw[jY,Int.toNat_of_nonneg j1];obtain⟨k,pre⟩:=x;obtain⟨W,H⟩:=hx;simp only[w,List.drop_left] at W H j T S⊢;rw[<-A] at H⊢;obtain⟨B,o⟩:=X k;have j:0<(qg t s k).2.length:=(by have:=ja j;omega);have d:(qg t s k).2≠[]:=fun e=>by rw[e] at j;simp at j
 have F:=B.i.len;rcases o with o|o;exact absurd o d;have p:qg t s (k+1)=aC (Mx t s) n (qg t s k):=(by rw[A];rfl);generalize V:qg t s k=x0 at*;obtain⟨g,r0,a⟩:∃q r,x0.2=q::r:=by
  cases I:x0.2 with
  |nil=>exact absurd I d
  |cons q r=>exact⟨q,r,rfl⟩
 obtain⟨L,g2,g3⟩:=B.i.que g (by rw[a];simp);have y:nth x0.2 0=g:=(by rw[a];rfl);have hla:((n:Nat):Int)=U.la (U.tc t):=(by omega);have f:jcZ t s (x0.1,x0.2) pre.length:=by
  unfold jcZ;rw[<-A,<-hv];exact⟨B,d,by simp only;omega,by omega⟩
 refine⟨⟨(0,pre),⟨⟨rfl,⟨rfl,rfl⟩,tZ⟩,rfl,rfl,tZ⟩,jl _,jj _,f⟩,?_⟩;rintro⟨i,p5⟩ ⟨hi,Q,_⟩;simp only at hi Q;have C:InI (Mx t s) n v g.toNat i x0 (gT t s (x0.1,x0.2) i):=by
  have:=VO (J:=Mx t s) Z (q:=g.toNat) (by omega) g3 B.i B.le i (by omega);unfold gT;simp only[y];exact this
 have c:gT t s (x0.1,x0.2) (i+1)=tH (Mx t s) g.toNat (gT t s (x0.1,x0.2) i) i:=by
  unfold gT;simp only[y];exact GC _ _ _ _
 have D:i=n->qg t s (k+1)=((gT t s (x0.1,x0.2) i).1,(gT t s (x0.1,x0.2) i).2.drop 1):=by
  intro e;subst e;rw[p];have:aC (Mx t s) i x0=((tI (Mx t s) g.toNat x0 i).1,(tI (Mx t s) g.toNat x0 i).2.drop 1):=by
   clear p c C f F d B X V;obtain⟨st,qu⟩:=x0;simp only at a;subst a;rfl
  rw[this];unfold gT;simp only[y]
 generalize hFI:gT t s (x0.1,x0.2) i=u at*;obtain⟨l,P⟩:=C.pre;have hQ:nth u.2 0=g:=(by rw[P,a];rfl);have G:0<u.2.length:=(by rw[P,a];simp);have hmu:=C.mu;have hFl:=C.i.len;have E:∀i:Nat,Mx t s g.toNat i=mW t s g (i:Int):=by
  intro i;unfold Mx;rw[Int.toNat_of_nonneg L]
 simp only[jbM,hQ];simp only[jw];refine⟨fun h=> ?_,fun h=> ?_⟩;have h:i<n:=(by have:=ja h;omega);refine⟨by omega,by omega,fun _=>by omega,fun _=>by omega,fun _=>rfl,fun _=>m,fun _=>L,fun _=>by omega,fun _=>by omega,fun _=>by omega,fun z=> ?_,fun z=> ?_⟩;rw[ji] at z;have h3:=ja z.1;have Y:=C.i.low g.toNat (by omega);have b:gT t s (x0.1,x0.2) (i+1)=(u.1.set i (nth u.1 g.toNat+1),u.2++[(i:Int)]):=by
  rw[c];unfold tH;rw[jg ⟨h3,by rw[E];exact z.2⟩]
 refine⟨by omega,by omega,L,by omega,iZ6,by omega,by omega,by simp,G,by simp only[j8,zr];omega,by simp only[j8,zr];omega,fun K R=>⟨iZ6,(i+1,K),⟨⟨by simp,⟨rfl,?_⟩,tZ⟩,?_,?_,tZ⟩,⟨by simp only;omega,by simp only;omega,f⟩,by simp only;omega⟩⟩;rw[b];simp;rw[b,jM];rw[b];have b:gT t s (x0.1,x0.2) (i+1)=u:=by
  rw[c];unfold tH;rw[jd (fun N=>by
   rw[E] at N;rw[N.2,jG N.1] at z;cases z)]
 refine⟨iZ6,(i+1,p5),⟨⟨⟨rfl,?_⟩,by simp,tZ⟩,?_,?_,tZ⟩,⟨by simp only;omega,by simp only;omega,f⟩,by simp only;omega⟩;rw[b];rw[b];rw[b];have h:i=n:=(by have:=jc h;omega);have O:=D h;have M:u.2=g::(r0++l):=(by rw[P,a];rfl);refine⟨by omega,by omega,by omega,(k+1,p5++[g]),⟨⟨⟨?_,?_⟩,tZ⟩,?_,?_,tZ⟩,⟨by simp only[jI,j8,zr];omega,by simp only;omega⟩,by simp only;omega⟩;simp only[jI,j8,zr];rfl;rw[O];simp only[zD];rfl;rw[O];rw[O,M];simp;simp only[w] at h⊢;have h:(qg t s x.1).2=[]:=by
  have:=jc h;exact zj (by omega)
 have hk:x.1<=n:=(by have:=hx.2;rw[w,<-A] at this;exact this);have h1:aL (Mx t s) (U.la (U.tc t)).toNat (G1 (U.tj t)).toNat ((U.la (U.tc t)).toNat+1)=qg t s x.1:=YT (k:=x.1) h _ (by rw[<-A];omega);show((qg t s x.1).1,())=((aL (Mx t s) (U.la (U.tc t)).toNat (G1 (U.tj t)).toNat ((U.la (U.tc t)).toNat+1)).1,());rw[h1]
theorem HZ:wV PR 215 gH:=qY HU Kv Tryz.func215 (kcC x7 kcN) (koC Ab koN)
namespace U
def de (t:TkD) (o:Int) (q:List (Int×PeD×Unit)):Int:=q.foldl (fun o x=>uor o (yx t x.2.1)) o
def fG (q:List (Int×PeD×Unit)):Bool:=q.any (fun x=>jcC x.2.1)
def FM (b:Bool) (o k:Int):Int:=if b=true then uor o k else o
def vR (t:TkD) (s:Int):Int:=FM (decide (nth (iR t s) (Mw (tj t)).toNat<0)) (FM (jej (tl t)&& !fG (xI t s)) (FM (decide (BT.size s≠max (Z4 (tj t)) (jcD (tl t)))) (de t 0 (xI t s)) 8) 16) 32
def I6 (c:CrD) (n:Int):Bool:=k8 n 0 (2^(wi c).length-1)
def bI (c:CrD) (j:JbD) (n:Int):Int:=if vE c j≠0 then vE c j else if I6 c n=true then 0 else 1
def jc0 (c:CrD) (j:JbD) (n:Int):Int:=if bI c j n=0 then vR (c,j,db c j,()) n else 0
def cN (c:CrD) (j:JbD) (n:Nat):List Int:=((List.range n).filter (fun i=>decide (yx (c,j,db c j,()) (nth (wi c) i)=0))).map (fun(i:Nat)=>(i:Int))
def dG (c:CrD) (j:JbD):List Int:=if vE c j=0 then cN c j (wi c).length else[]
end U
def yu:wQ:=⟨[.val (.ptr tTk),.val tPe],[.uint .u64],false,fun d=>[d.1.isSome=true,cM (U.tk d.1)],fun d=>(yx (U.tk d.1) d.2.1,())⟩
def VX:JV [.int,tPe]:={ps:=[.ref (.ptr tTk),.own (.box 195 [.dat (.uint .u64)]) true,.own (.box 4 [.dat .bool]) true],slots:=[2,4,5],dst:=65,pre:=fun d=>[d.1.isSome=true,cM (U.tk d.1)],G:=fun d q=>((de (U.tk d.1) d.2.1.1 q,()),(d.2.2.1.1||fG q,()),()),seq:=QF}
def C6:Nat->Option ((ts:List Ty)×JV ts):=fun r=>match r with
 |4=>some ⟨[.int,tPe],VX⟩
 |_=>none
def iZ:wQ:=⟨[.val (.ptr tTk),.val (.uint .u64)],[.uint .u64],false,fun d=>[d.1.isSome=true,cM (U.tk d.1),BT.qh d.2.1],fun d=>(vR (U.tk d.1) d.2.1,())⟩
abbrev jfN (d:Option (CrD×JbD×LwD×Unit)×Int×Unit):=(wG (((0:Int),[],[],()),((0:Int),(0:Int),(0:Int),(0:Int),(0:Int),(0:Int),()),((0:Int),(0:Int),false,()),()) d.1)
abbrev jgD (d:Option (CrD×JbD×LwD×Unit)×Int×Unit):=(nth (iR (U.tk d.1) d.2.1) (jfN d).2.1.1.toNat<0)
abbrev jgr (d:Option (CrD×JbD×LwD×Unit)×Int×Unit):=(vR (U.tk d.1) d.2.1,())
abbrev jiS:=(fun(a:List (Int×PeD×Unit))=>false)
abbrev jii (d:Option (CrD×JbD×LwD×Unit)×Int×Unit):=(↑(iR (U.tk d.1) d.2.1).length:Int)
def i7:Prop:=∀(d:Option (CrD×JbD×LwD×Unit)×Int×Unit),d.1.isSome=true->cM (U.tk d.1)->BT.qh d.2.1->(d.1.isSome=true/\(wi (U.tc (U.tk d.1))).length<=60)/\(d.1.isSome=true/\cM (U.tk d.1)/\True)/\(d.1,(de (U.tk d.1) (0:Int) [],()),(false||fG [],()),())=(d.1,((0:Int),()),(false,()),())/\(∀(q:List (Int×PeD×Unit)) (x:Int×PeD×Unit) (rest:List (Int×PeD×Unit)),q++x::rest=xI (U.tk d.1) d.2.1->yV jiS q->d.1.isSome=true/\cM (U.tk d.1)/\qF/\((uor (de (U.tk d.1) (0:Int) q) (yx (U.tk d.1) x.2.1),()),(false||fG q||x.2.1.q4.1,()),())=((de (U.tk d.1) (0:Int) (q++[x]),()),(false||fG (q++[x]),()),()))/\(∀(xs:List (Int×PeD×Unit)),xs=xI (U.tk d.1) d.2.1->yV jiS xs->BT.qh d.2.1/\d.1.isSome=true/\d.1.isSome=true/\(decide (BT.size d.2.1≠max (jfN d).2.1.q4.2.1 (jfN d).2.2.1.2.1)=true->d.1.isSome=true/\(((jfN d).2.2.1.2.2.1&& !(false||fG xs))=true->d.1.isSome=true/\cM (U.tk d.1)/\d.1.isSome=true/\(0:Int)<=(jfN d).2.1.1/\(jfN d).2.1.1<(jii d)/\(decide (jgD d)=true->(uor (uor (uor (de (U.tk d.1) (0:Int) xs) (8:Int)) (16:Int)) (32:Int),())=(jgr d))/\(decide (jgD d)=false->(uor (uor (de (U.tk d.1) (0:Int) xs) (8:Int)) (16:Int),())=(jgr d)))/\(((jfN d).2.2.1.2.2.1&& !(false||fG xs))=false->d.1.isSome=true/\cM (U.tk d.1)/\d.1.isSome=true/\(0:Int)<=(jfN d).2.1.1/\(jfN d).2.1.1<(jii d)/\(decide (jgD d)=true->(uor (uor (de (U.tk d.1) (0:Int) xs) (8:Int)) (32:Int),())=(jgr d))/\(decide (jgD d)=false->(uor (de (U.tk d.1) (0:Int) xs) (8:Int),())=(jgr d))))/\(decide (BT.size d.2.1≠max (jfN d).2.1.q4.2.1 (jfN d).2.2.1.2.1)=false->d.1.isSome=true/\(((jfN d).2.2.1.2.2.1&& !(false||fG xs))=true->d.1.isSome=true/\cM (U.tk d.1)/\d.1.isSome=true/\(0:Int)<=(jfN d).2.1.1/\(jfN d).2.1.1<(jii d)/\(decide (jgD d)=true->(uor (uor (de (U.tk d.1) (0:Int) xs) (16:Int)) (32:Int),())=(jgr d))/\(decide (jgD d)=false->(uor (de (U.tk d.1) (0:Int) xs) (16:Int),())=(jgr d)))/\(((jfN d).2.2.1.2.2.1&& !(false||fG xs))=false->d.1.isSome=true/\cM (U.tk d.1)/\d.1.isSome=true/\(0:Int)<=(jfN d).2.1.1/\(jfN d).2.1.1<(jii d)/\(decide (jgD d)=true->(uor (de (U.tk d.1) (0:Int) xs) (32:Int),())=(jgr d))/\(decide (jgD d)=false->(de (U.tk d.1) (0:Int) xs,())=(jgr d)))))/\∀(q:List (Int×PeD×Unit)) (x:Int×PeD×Unit) (rest:List (Int×PeD×Unit)),q++x::rest=xI (U.tk d.1) d.2.1->yV jiS q->false=true->(de (U.tk d.1) (0:Int) (q++[x]),())=(jgr d)
theorem pJ:(QC (Mv 64 [(180,yu),(214,gG),(215,gH)] [] [(213,wS)] []) iZ (fun _ _=>none) (hkC (Mv 64 [(180,yu),(214,gG),(215,gH)] [] [(213,wS)] []) (fun _=>none) C6 [] []) Tryz.f186 (qf Tryz.f186))=i7:=by kernel_rfl
def VY:wQ:=⟨[.val tCr,.val tJb,.val .int],[.ptr tTk,.int],false,fun _=>[],fun d=>(G2 d.1 d.2.1,bI d.1 d.2.1 d.2.2.1,())⟩
abbrev jhe (d:CrD×JbD×Int×Unit):=(vE d.1 d.2.1=0)
abbrev jjx (d:CrD×JbD×Int×Unit):=(decide (jhe d)&& !k8 d.2.2.1 (0:Int) ((1:Int)*2^(d.1.2.1.length:Int).toNat-1))
def VZ:Prop:=∀(d:CrD×JbD×Int×Unit),(decide (jhe d)=true->d.1.2.1.length<4611686018427387904)->(decide (jhe d)=true->0<=(d.1.2.1.length:Int))/\(decide (jhe d)=true->(d.1.2.1.length:Int)<=64)/\(decide (jhe d)=true->wm ((1:Int)*2^(d.1.2.1.length:Int).toNat))/\(decide (jhe d)=true->wm ((1:Int)*2^(d.1.2.1.length:Int).toNat-1))/\((jjx d)=true->(G2 d.1 d.2.1,(1:Int),())=(G2 d.1 d.2.1,bI d.1 d.2.1 d.2.2.1,()))/\((jjx d)=false->(G2 d.1 d.2.1,vE d.1 d.2.1,())=(G2 d.1 d.2.1,bI d.1 d.2.1 d.2.2.1,()))
def NJ:wQ:=⟨[.val tCr,.val tJb,.val .int],[.int,.int],false,fun _=>[],fun d=>(jc0 d.1 d.2.1 d.2.2.1,bI d.1 d.2.1 d.2.2.1,())⟩
def NK:Prop:=∀(d:CrD×JbD×Int×Unit),(decide (bI d.1 d.2.1 d.2.2.1≠0)=true->((0:Int),bI d.1 d.2.1 d.2.2.1,())=(jc0 d.1 d.2.1 d.2.2.1,bI d.1 d.2.1 d.2.2.1,()))/\(decide (bI d.1 d.2.1 d.2.2.1≠0)=false->0<=d.2.2.1/\d.2.2.1<=18446744073709551615/\(G2 d.1 d.2.1).isSome=true/\cM (U.tk (G2 d.1 d.2.1))/\BT.qh d.2.2.1/\wm (vR (U.tk (G2 d.1 d.2.1)) d.2.2.1)/\(vR (U.tk (G2 d.1 d.2.1)) d.2.2.1,(0:Int),())=(jc0 d.1 d.2.1 d.2.2.1,bI d.1 d.2.1 d.2.2.1,()))
def YV:wQ:=⟨[.val tCr,.val tJb],[.slice .int,.int],false,fun _=>[],fun d=>(dG d.1 d.2.1,vE d.1 d.2.1,())⟩
def YW:Ann:=fun r=>match r with
 |6=>some fun σ=>{X:=Nat,sl:=fun i=>[(23,.dat .int (i:Int)),(8,.own 8 .int)],ob:=fun i=>[(8,some (.row 3 .int false .yes (cN (gd tCr σ 0) (gd tJb σ 1) i)))],inv:=fun i=>i<=(wi (gd tCr σ 0)).length,mu:=fun i=>(wi (gd tCr σ 0)).length-i}
 |_=>none
def YX:Prop:=∀(d:CrD×JbD×Unit),(decide (vE d.1 d.2.1≠0)=true->([],vE d.1 d.2.1,())=(dG d.1 d.2.1,vE d.1 d.2.1,()))/\(decide (vE d.1 d.2.1≠0)=false->d.1.2.1.length<4611686018427387904->(∃(x:Nat),((0=(x:Int)/\True/\True)/\cN d.1 d.2.1 x=[]/\True)/\x<=(wi d.1).length)/\∀(x:Nat),x<=(wi d.1).length->(decide ((x:Int)<d.1.2.1.length)=true->0<=(x:Int)/\(x:Int)<d.1.2.1.length/\(G2 d.1 d.2.1).isSome=true/\cM (U.tk (G2 d.1 d.2.1))/\(decide (yx (U.tk (G2 d.1 d.2.1)) (nth d.1.2.1 (x:Int).toNat)=0)=true->((cN d.1 d.2.1 x).length+[(x:Int)].length)*8<=140737488355328/\wm ((x:Int)+1)/\∃(a:Nat),(((x:Int)+1=(a:Int)/\True/\True)/\cN d.1 d.2.1 x++[(x:Int)]=cN d.1 d.2.1 a/\True)/\a<=(wi d.1).length/\(wi d.1).length-a<(wi d.1).length-x)/\(decide (yx (U.tk (G2 d.1 d.2.1)) (nth d.1.2.1 (x:Int).toNat)=0)=false->wm ((x:Int)+1)/\∃(a:Nat),((True/\(x:Int)+1=(a:Int)/\True)/\cN d.1 d.2.1 x=cN d.1 d.2.1 a/\True)/\a<=(wi d.1).length/\(wi d.1).length-a<(wi d.1).length-x))/\(decide ((x:Int)<d.1.2.1.length)=false->(cN d.1 d.2.1 x,(0:Int),())=(dG d.1 d.2.1,vE d.1 d.2.1,())))
theorem V0 (a b c:Bool):0<=Ua a b c/\Ua a b c<=7:=by
 unfold Ua jcY;cases a<;>cases b<;>cases c<;>simp
theorem C7 (t:TkD) (p:PeD):0<=yx t p/\yx t p<=7:=V0 _ _ _
theorem Kw {s:Int} (h:0<=s/\s<=1000):BT.qh s:=by unfold BT.qh;omega
theorem V1 {a b:Int} (c:0<=a/\a<64) (d:0<=b/\b<64):0<=uor a b/\uor a b<64:=by
 obtain⟨n,rfl⟩:∃n:Nat,a=(n:Int):=⟨a.toNat,by omega⟩;obtain⟨m,rfl⟩:∃m:Nat,b=(m:Int):=⟨b.toNat,by omega⟩;rw[BT.uor_nat (by omega) (by omega)];have:n|||m<2^6:=ku (by omega) (by omega);omega
theorem NL (t:TkD):∀(q:List (Int×PeD×Unit)) (o:Int),(0<=o/\o<64)->0<=de t o q/\de t o q<64
 |[],o,h=>h
 |x::q,o,h=>by
  have:=C7 t x.2.1
  exact NL t q _ (V1 h ⟨by omega,by omega⟩)
theorem C8 {b:Bool} {o k:Int} (h:0<=o/\o<64) (hk:0<=k/\k<64):0<=FM b o k/\FM b o k<64:=by
 unfold FM
 split
 exact V1 h hk;exact h
theorem R8 (t:TkD) (s:Int):0<=vR t s/\vR t s<64:=by
 unfold vR;exact C8 (C8 (C8 (NL t _ _ (by omega)) (by omega)) (by omega)) (by omega)
theorem V2 (t:TkD) (o:Int) (q:List (Int×PeD×Unit)) (x:Int×PeD×Unit):de t o (q++[x])=uor (de t o q) (yx t x.2.1):=by
 unfold de;rw[jU];rfl
theorem YY {t:TkD} {s:Int} (a:cM t):((iR t s).length:Int)=U.la (U.tc t):=by
 obtain⟨f,g,c,d⟩:=Ku (s:=s) a;have b:(G1 (U.tj t)).toNat<(U.la (U.tc t)).toNat:=(by omega);have:=(CR (J:=Mx t s) b ((U.la (U.tc t)).toNat+1)).1.i.len;have e:(iR t s).length=(U.la (U.tc t)).toNat:=this;omega
theorem C9:i7:=by
 unfold i7 jii jiS jgr jgD jfN Prod.q4;rintro⟨(_|t),s,⟨⟩⟩ n a c;cases n;have a:cM t:=a;have c:BT.qh s:=c;obtain⟨c1,c2,_⟩:=id a;obtain⟨_,_,p,_⟩:=w4 c1;obtain⟨⟨m,r⟩,_⟩:=mq c2;have o:=YY (s:=s) a;have f:U.tk (some t)=t:=rfl;have b:0<=Mw (U.tj t)/\Mw (U.tj t)<(((iR t s).length:Nat):Int):=⟨m,by omega⟩;refine⟨⟨rfl,(by omega:(wi (U.tc t)).length<=60)⟩,⟨rfl,a,tZ⟩,rfl,fun q x rest u _=>⟨rfl,a,rfl,?_⟩,fun xs g _=>⟨c,rfl,rfl,?_⟩,fun q x rest _ _ h=>by cases h⟩;simp only[f,V2];unfold fG;simp only[kU,List.any_cons,List.any_nil,kQ,Bool.false_or];rfl;simp only[f] at g⊢;subst g;have key:∀(j k l:Bool),decide (BT.size s≠max (Z4 (U.tj t)) (jcD (U.tl t)))=j->(jej (U.tl t)&& !fG (xI t s))=k->decide (nth (iR t s) (Mw (U.tj t)).toNat<0)=l->
  FM l (FM k (FM j (de t 0 (xI t s)) 8) 16) 32=vR t s:=by
  intro j k l i e d;unfold vR;rw[i,e,d]
 refine⟨fun i=>⟨rfl,fun e=>⟨rfl,a,rfl,b.1,b.2,fun d=> ?_,fun d=> ?_⟩,fun e=>⟨rfl,a,rfl,b.1,b.2,fun d=> ?_,fun d=> ?_⟩⟩,fun i=>⟨rfl,fun e=>⟨rfl,a,rfl,b.1,b.2,fun d=> ?_,fun d=> ?_⟩,fun e=>⟨rfl,a,rfl,b.1,b.2,fun d=> ?_,fun d=> ?_⟩⟩⟩<;>
  (rw[Bool.false_or] at e;have:=key _ _ _ i e d;rw[<-this];rfl)
theorem H2 {c:CrD} (h:wt c=true):(0:Int)<2^(wi c).length/\(2:Int)^(wi c).length<=256:=by
 obtain⟨_,_,a,_⟩:=w4 h;rw[BT.Bs];have b:2^(wi c).length<=2^8:=Nat.pow_le_pow_right (by decide) a;have d:0<2^(wi c).length:=Nat.pow_pos (by decide);omega
theorem YZ:VZ:=by
 unfold VZ jjx jhe;rintro⟨c,j,n,⟨⟩⟩ _;have e:∀l:Nat,(1:Int)*2^((l:Int)).toNat=2^l:=fun l=>by rw[Int.one_mul,jw]
 simp only[e];refine⟨fun _=>by omega,fun h=> ?_,fun h=> ?_,fun h=> ?_,fun h=> ?_,fun h=> ?_⟩;have:=(w4 (pI (ja h)).1).2.2.1;have this:c.2.1.length<=8:=this;omega;have:=H2 (pI (ja h)).1;have this:(0:Int)<2^c.2.1.length/\(2:Int)^c.2.1.length<=256:=this;exact iZ6;have:=H2 (pI (ja h)).1;have this:(0:Int)<2^c.2.1.length/\(2:Int)^c.2.1.length<=256:=this;exact iZ6;rw[ji] at h;have a:=ja h.1;have b:I6 c n=false:=by
  have d:k8 n 0 (2^c.2.1.length-1)=false:=(by simpa using h.2);exact d
 unfold bI;rw[jd (by omega),jd (by rw[b];simp)];unfold bI;by_cases a:vE c j=0;rw[jG a,Bool.true_and] at h;have b:I6 c n=true:=by
  have d:k8 n 0 (2^c.2.1.length-1)=true:=(by simpa using h);exact d
 rw[jd (by omega),jg b,a];rw[jg a]
theorem V3:wV PR 185 VY:=wK YZ Tryz.func185 (kcC Kp (kcC gY kcN)) koN
theorem R9 {c:CrD} {j:JbD} {n:Int} (h:bI c j n=0):vE c j=0/\0<=n/\n<2^(wi c).length:=by
 unfold bI at h
 split at h
 rename_i b;omega;rename_i b
 split at h
 rename_i a;unfold I6 k8 at a;simp only[ji,jp] at a;exact⟨by omega,a.1,by omega⟩;omega
theorem Sa:NK:=by
 rintro⟨c,j,n,⟨⟩⟩;refine⟨fun h=> ?_,fun h=> ?_⟩;have h:bI c j n≠0:=ja h;simp only;unfold jc0;rw[jd h];have h:bI c j n=0:=(by simpa using h);obtain⟨d,e,f⟩:=R9 h;obtain⟨b,e2⟩:=VU d;have i:=H2 (pI d).1;have a:U.tk (G2 c j)=(c,j,db c j,()):=(by rw[b];rfl);have g:=R8 (c,j,db c j,()) n;simp only[a];refine⟨e,by omega,by rw[b];rfl,e2,Kw ⟨e,by omega⟩,iZ6,?_⟩;unfold jc0;rw[jg h,h]
theorem GF (c:CrD) (j:JbD) (n:Nat):cN c j (n+1)=cN c j n++(if yx (c,j,db c j,()) (nth (wi c) n)=0 then[(n:Int)] else[]):=by
 unfold cN;rw[L.yf,zw];by_cases h:yx (c,j,db c j,()) (nth (wi c) n)=0;rw[jg (jG h),jg h];rfl;rw[jd (by simpa using h),jd h];rfl
theorem V4 (c:CrD) (j:JbD) (n:Nat):(cN c j n).length<=n:=by
 unfold cN;rw[zf];exact jE (zy _ _) (by simp)
theorem jbN:YX:=by
 rintro⟨c,j,⟨⟩⟩;refine⟨fun h=> ?_,fun h _=>⟨⟨0,⟨⟨rfl,tZ,tZ⟩,rfl,tZ⟩,jl _⟩,fun x f=>⟨fun a=> ?_,fun a=> ?_⟩⟩⟩;have h:vE c j≠0:=ja h;simp only;unfold dG;rw[jd h];have h:vE c j=0:=(by simpa using h);obtain⟨e,e2⟩:=VU h;have d:U.tk (G2 c j)=(c,j,db c j,()):=(by rw[e];rfl);have a:x<(wi c).length:=by
  have a:=ja a;have a:(x:Int)<(wi c).length:=a;omega
 have g:(x:Int)<(wi c).length:=(by omega);have i:=(w4 (pI h).1).2.2.1;have k:=V4 c j x;simp only[d,jw];refine⟨by omega,g,by rw[e];rfl,e2,fun b=>⟨by simp only[j8,zr];omega,iZ6,x+1,⟨⟨by simp,tZ,tZ⟩,?_,tZ⟩,a,by omega⟩,fun b=>⟨iZ6,x+1,⟨⟨tZ,by simp,tZ⟩,?_,tZ⟩,a,by omega⟩⟩;have b:yx (c,j,db c j,()) (nth (wi c) x)=0:=ja b;rw[GF,jg b];have b:¬yx (c,j,db c j,()) (nth (wi c) x)=0:=jc b;rw[GF,jd b,jZ];have h:vE c j=0:=(by simpa using h);have a:(wi c).length<=x:=by
  have a:=jc a;have a:¬(x:Int)<(wi c).length:=a;omega
 have f:x<=(wi c).length:=f;simp only;unfold dG;rw[jg h,h,show x=(wi c).length by omega]
def Da:Ann:=fun r=>match r with
 |2=>some fun σ=>{X:=List (Int×Int)×Int,sl:=fun x=>[(4,.dat (.uint .u64) x.2)],ob:=fun x=>[(37,some (.iter .int .int x.1 none))],inv:=fun x=>bH (tK (U.tk (gd (.ptr tTk) σ 0)) (gd tPe σ 1)) x.1 x.2,mu:=fun x=>x.1.length}
 |_=>none
abbrev jgX (d:Option (CrD×JbD×LwD×Unit)×PeD×Unit):=(wG (((0:Int),[],[],()),((0:Int),(0:Int),(0:Int),(0:Int),(0:Int),(0:Int),()),((0:Int),(0:Int),false,()),()) d.1)
def Db:Prop:=∀(d:Option (CrD×JbD×LwD×Unit)×PeD×Unit),d.1.isSome=true->cM (U.tk d.1)->d.1.isSome=true/\d.1.isSome=true/\(0:Int)<=(jgX d).2.1.2.2.2.1/\(jgX d).2.1.2.2.2.1<=64/\d.1.isSome=true/\(0:Int)<=(jgX d).2.1.q4.1/\(jgX d).2.1.q4.1<=64/\[(0:Int),(1:Int),(2:Int)].Nodup/\∀(l:List (Int×Int)),l.Perm [((0:Int),jcY !d.2.1.2.2.2.1.any fun(e:Int)=>decide (e=(jgX d).2.1.2.2.1)),((1:Int),fO (d.2.1.2.1/(2:Int)^(jgX d).2.1.2.2.2.1.toNat) (1:Int)),((2:Int),fO (d.2.1.2.2.1/(2:Int)^(jgX d).2.1.q4.1.toNat) (1:Int))]->(((∃(x:List (Int×Int)×Int),((0=x.2/\True)/\l=x.1/\True)/\bH (tK (U.tk d.1) d.2.1) x.1 x.2)/\∀(x:List (Int×Int)×Int),bH (tK (U.tk d.1) d.2.1) x.1 x.2->(x.1=[]->(false=true->False)/\(qF->(x.2,())=(yx (U.tk d.1) d.2.1,())))/\∀(pre:List (Int×Int)) (a:Int×Int) (b:List (Int×Int)),x.1=pre++a::b->(true=true->(decide (a.2=0)=true->0<=a.1/\a.1<=64/\(0:Int)<=1*2^a.1.toNat/\(1:Int)*2^a.1.toNat<=18446744073709551615/\∃(c:List (Int×Int)×Int),((uor x.2 ((1:Int)*2^a.1.toNat)=c.2/\True)/\pre++b=c.1/\True)/\bH (tK (U.tk d.1) d.2.1) c.1 c.2/\c.1.length<x.1.length)/\(decide (a.2=0)=false->∃(c:List (Int×Int)×Int),((x.2=c.2/\True)/\pre++b=c.1/\True)/\bH (tK (U.tk d.1) d.2.1) c.1 c.2/\c.1.length<x.1.length))/\(true=false->(x.2,())=(yx (U.tk d.1) d.2.1,())))/\True)/\True
theorem Y0 (z:Int):fO z 1=0\/fO z 1=1:=by
 unfold fO;rw[BitVec.toNat_and];have a:(BitVec.ofInt 64 1).toNat=1:=rfl;rw[a,kG];rcases Nat.mod_two_eq_zero_or_one (BitVec.ofInt 64 z).toNat with h|h;rw[h];exact .inl rfl;rw[h];exact .inr rfl
theorem QG (s n:Int):(fO (s/2^n.toNat) 1=0)↔(!qd s n)=true:=by
 unfold qd;rcases Y0 (s/2^n.toNat) with h|h<;>rw[h]<;>simp
theorem Y1 (a b c:Bool) (p:Nat):BT.has (Ua a b c) p=true↔(a=true/\p=0)\/(b=true/\p=1)\/(c=true/\p=2):=by
 match p with
 |0=>cases a<;>cases b<;>cases c<;>decide
 |1=>cases a<;>cases b<;>cases c<;>decide
 |2=>cases a<;>cases b<;>cases c<;>decide
 |p+3=>
  have h:=V0 a b c;have:BT.has (Ua a b c) (p+3)=false:=by
   cases d:BT.has (Ua a b c) (p+3) with
   |false=>rfl
   |true=>have:=BT.has_lt (k:=3) h.1 (by omega) d;omega
  rw[this];simp
theorem Y2 (t:TkD) (p:PeD) (k:Nat):(∃e∈tK t p,e.2=0/\e.1.toNat=k)↔BT.has (yx t p) k=true:=by
 unfold yx;rw[Y1];have c:jcY (!cL p (X6 (U.tj t)))=0↔cL p (X6 (U.tj t))=true:=by
  unfold jcY;cases cL p (X6 (U.tj t))<;>simp
 have e2:=QG (U.fd p) (PH (U.tj t));have d:=QG (U.cl p) (bU (U.tj t));unfold tK;simp only[jk,List.not_mem_nil,or_false];rw[<-c,<-e2,<-d];constructor;rintro⟨e,(rfl|rfl|rfl),a,b⟩;exact .inl ⟨a,b.symm⟩;exact .inr (.inl ⟨a,b.symm⟩);exact .inr (.inr ⟨a,b.symm⟩);rintro(⟨a,b⟩|⟨a,b⟩|⟨a,b⟩);exact⟨_,.inl rfl,a,b.symm⟩;exact⟨_,.inr (.inl rfl),a,b.symm⟩;exact⟨_,.inr (.inr rfl),a,b.symm⟩
theorem Y3 {t:TkD} {p:PeD} {e:Int×Int} (h:e∈tK t p):0<=e.1/\e.1<=2:=by
 unfold tK at h;simp only[jk,List.not_mem_nil,or_false] at h;rcases h with rfl|rfl|rfl<;>simp
theorem Sb (t:TkD) (p:PeD):(tK t p).Nodup:=by
 unfold tK;simp
theorem NM {t:TkD} {p:PeD} {l:List (Int×Int)} (h:l.Perm (tK t p)):bH (tK t p) l 0:=by
 refine⟨BT.Ev,h.symm.nodup (Sb t p),fun e c=>h.mem_iff.1 c,fun k=> ?_⟩;rw[BT.tR];constructor;intro h;cases h;rintro⟨e,a,b,_⟩;exact absurd (h.mem_iff.2 a) b
theorem Sc {t:TkD} {p:PeD} {s:Int} (h:bH (tK t p) [] s):s=yx t p:=by
 obtain⟨a,_,_,c⟩:=h;refine BT.ext a (Kw (by have:=C7 t p;omega)) (fun k=> ?_);rw[j0,c,<-Y2];constructor;rintro⟨e,a,_,b⟩;exact⟨e,a,b⟩;rintro⟨e,a,b⟩;exact⟨e,a,by simp,b⟩
theorem GG {all pre a:List (Int×Int)} {e:Int×Int} {s j:Int} (h:bH all (pre++e::a) s) (p:BT.qh j) (hk:∀k,BT.has j k=true↔BT.has s k=true\/(e.2=0/\e.1.toNat=k)):bH all (pre++a) j:=by
 obtain⟨q,m,l,n⟩:=h;have i:(e::(pre++a)).Nodup:=List.perm_middle.nodup m;have b:∀x,x∈pre++e::a↔x=e\/x∈pre++a:=fun x=>by rw[List.perm_middle.mem_iff,jk]
 rw[zt] at i;refine⟨p,i.2,fun x c=>l x ((b x).2 (.inr c)),fun k=> ?_⟩;rw[hk,n];constructor;rintro(⟨x,d,f,g⟩|⟨d,f⟩);exact⟨x,d,fun c=>f ((b x).2 (.inr c)),g⟩;exact⟨e,l e ((b e).2 (.inl rfl)),i.1,d,f⟩;rintro⟨x,d,f,g⟩;by_cases c:x=e;subst c;exact .inr g;exact .inl ⟨x,d,fun o=>by rcases(b x).1 o with h|h;exact c h;exact f h,g⟩
theorem EW:Db:=by
 unfold Db jgX Prod.q4;rintro⟨(_|t),p,⟨⟩⟩ s d;cases s;have d:cM t:=d;have r:U.tk (some t)=t:=rfl;obtain⟨c1,c2,_⟩:=id d;obtain⟨_,_,_,⟨m,o⟩,⟨n,q⟩,_⟩:=mq c2;have m:0<=t.2.1.2.2.2.1:=m;have o:t.2.1.2.2.2.1<=7:=o;have n:0<=t.2.1.2.2.2.2.1:=n;have q:t.2.1.2.2.2.2.1<=3:=q;refine⟨rfl,rfl,m,by simp only[wG];omega,rfl,n,by simp only[wG];omega,by decide,fun l w=>⟨⟨⟨⟨(l,0),⟨⟨rfl,tZ⟩,rfl,tZ⟩,NM w⟩,fun x b=>⟨fun h=>⟨fun h=>(by cases h),fun _=> ?_⟩,fun pre e a h=>⟨fun _=> ?_,fun h=>(by cases h)⟩⟩⟩,tZ⟩,tZ⟩⟩;rw[h] at b;rw[Sc b];rw[h] at b;have u:e∈tK t p:=b.2.2.1 e (by simp);have hk:=Y3 u;obtain⟨k,g,v⟩:∃k:Nat,e.1=(k:Int)/\k<=2:=⟨e.1.toNat,by omega,by omega⟩;have y:(1:Int)*2^k=2^k:=Int.one_mul _;have c:(pre++a).length<x.1.length:=(by rw[h];simp);have i:BT.qh ((2:Int)^k):=BT.iS (by omega);refine⟨fun f=> ?_,fun f=> ?_⟩;have f:e.2=0:=ja f;rw[g,jw,y];refine⟨by omega,by omega,by unfold BT.qh at i;omega,by unfold BT.qh at i;omega,(pre++a,uor x.2 (2^k)),⟨⟨rfl,tZ⟩,rfl,tZ⟩,GG b (BT.uor_set b.1 i) (fun j=> ?_),c⟩;rw[BT.has_uor b.1 i,BT.Bt,zq,jp,g,jw];simp[f];have f:¬e.2=0:=jc f;exact⟨(pre++a,x.2),⟨⟨rfl,tZ⟩,rfl,tZ⟩,GG b b.1 (fun j=>by simp[f]),c⟩
theorem mr:wV PR 180 yu:=qY Da EW Tryz.func180 (kcC dA (kcC R4 kcN)) koN
theorem Kx:(Mv 64 [(180,yu),(214,gG),(215,gH)] [] [(213,wS)] []).ok PR:=Nu ⟨fun _=>mr,fun _=>HP,fun _=>HZ,tZ⟩ trivial ⟨eQ,tZ⟩ trivial
theorem Ac:wV PR 186 iZ:=
 VG (body:=qf Tryz.f186) (C:=Mv 64 [(180,yu),(214,gG),(215,gH)] [] [(213,wS)] []) (hk:=hkC (Mv 64 [(180,yu),(214,gG),(215,gH)] [] [(213,wS)] []) (fun _=>none) C6 [] []) Kx mixed Tryz.func186 (by kernel_rfl) (by kernel_rfl) (by kernel_rfl) (by decide)
  (fun B=>GA Kx mixed (fun k ts rs sv pr L v ρ hk c a b=>by
   unfold C6 at hk
   split at hk
   case h_2=>cases hk
   simp only[jz] at hk
   cases hk
   exact Kq c a b) jbK B) (pJ.mpr C9)
theorem NN:wV PR 145 NJ:=wK Sa Tryz.func145 (kcC V3 (kcC Ac kcN)) koN
theorem Y4:wV PR 142 YV:=qY YW jbN Tryz.func142 (kcC Kp (kcC mr kcN)) koN
namespace U
def cT (a b:Int):Int:=if a<b then-1 else if b<a then 1 else 0
def y7 (l:List Int):Int:=match l.find? (fun n=>decide (n≠0)) with|some n=>n|none=>0
end U
structure iw {α:Type} (c:α->α->Int):Prop where
 anti:∀a b,c b a= -(c a b)
 trans:∀a b d,c a b<=0->c b d<=0->c a d<=0
section
variable {α:Type} {c c1 c2:α->α->Int}
theorem iw.refl (h:iw c) (a:α):c a a=0:=by have:=h.anti a a;omega
theorem iw.lt_le (h:iw c) {a b d:α} (g:c a b<0) (f:c b d<=0):c a d<0:=by
 have i:=h.trans a b d (by omega) f;have j:=h.anti a d;have k:=h.anti a b;by_cases e:c a d=0;have:=h.trans b d a f (by omega);omega;omega
theorem iw.le_lt (h:iw c) {a b d:α} (f:c a b<=0) (g:c b d<0):c a d<0:=by
 have i:=h.trans a b d f (by omega);have j:=h.anti a d;have k:=h.anti b d;by_cases e:c a d=0;have:=h.trans d a b (by omega) f;omega;omega
theorem iw.eq_eq (h:iw c) {a b d:α} (e:c a b=0) (f:c b d=0):c a d=0:=by
 have g:=h.trans a b d (by omega) (by omega);have i:=h.anti a d;have j:=h.anti a b;have k:=h.anti b d;have:=h.trans d b a (by omega) (by omega);omega
def Uk (c1 c2:α->α->Int) (a b:α):Int:=if c1 a b≠0 then c1 a b else c2 a b
theorem pK (c:iw c1) (g:iw c2):iw (Uk c1 c2) where
 anti a b:=by
  have i:=c.anti a b;have h:=g.anti a b;unfold Uk;by_cases e:c1 a b=0;rw[jd (by omega),jd (by omega)];exact h;rw[jg (by omega),jg e];exact i
 trans a b d:=by
  unfold Uk;by_cases e:c1 a b=0;rw[jd (by omega)];by_cases f:c1 b d=0;rw[jd (by omega),jd (by have:=c.eq_eq e f;omega)];exact g.trans a b d;rw[jg f];intro _ k;have:=c.le_lt (a:=a) (b:=b) (d:=d) (by omega) (by omega);rw[jg (by omega)];omega;rw[jg e];intro k;by_cases f:c1 b d=0;rw[jd (by omega)];intro _;have:=c.lt_le (a:=a) (b:=b) (d:=d) (by omega) (by omega);rw[jg (by omega)];omega;rw[jg f];intro h;have:=c.lt_le (a:=a) (b:=b) (d:=d) (by omega) (by omega);rw[jg (by omega)];omega
theorem oE {β:Type} (h:iw c) (f:β->α):iw (fun a b=>c (f a) (f b)):=⟨fun a b=>h.anti (f a) (f b),fun a b d=>h.trans (f a) (f b) (f d)⟩
end
theorem mw:iw cT:=by
 constructor;intro a b;unfold cT;split<;>split<;>(try split)<;>(try split)<;>omega
 intro a b d;unfold cT;split<;>split<;>(try split)<;>(try split)<;>(try split)<;>(try split)<;>omega
theorem V5 {a b:Int}:cT a b<0↔a<b:=by
 unfold cT
 split
 simp;omega
 split<;>simp<;>omega
theorem bh {a b:Int}:cT a b=0↔a=b:=by
 unfold cT
 split
 simp;omega
 split
 simp;omega;simp;omega
theorem qm (x:Int) (l:List Int):y7 (x::l)=if x≠0 then x else y7 l:=by
 unfold y7;by_cases e:x=0;simp[List.find?,e];simp[List.find?,e]
theorem vL (x:Int):y7 [x]=x:=by
 rw[qm]
 split
 rfl;rename_i h;have:x=0:=(by omega);rw[this];rfl
theorem Bk {t:Ty} {c:t.Data->t.Data->Int} (d:iw c) {l:List t.Data} (h:∀x y,x∈l->y∈l->c x y=0->x=y):yc (wd t fun x=>(c x.1 x.2.1,())) l where
 irrefl x _:=by
  unfold wd;have:=d.refl x;simp only[this];rfl
 trans x y z _ _ _ b a:=by
  unfold wd at*;have b:=ja b;have a:=ja a;exact jG (d.lt_le b (by have a:c y z<0:=a;show c y z<=0;omega))
 total x y hx hy b a:=by
  unfold wd at*;have b:¬c x y<0:=jc b;have a:¬c y x<0:=jc a;have:=d.anti x y;exact h x y hx hy (by omega)
end Go.X
namespace Go.X
open U
namespace M
theorem mput_cons {kt:Ty} {β:Type} (k:kt.Data) (v:β) (e:kt.Data×β) (r:List (kt.Data×β)):fN kt k v (e::r)=if @decide (k=e.1) (kt.decEq k e.1)=true then(k,v)::r else e::fN kt k v r:=rfl
theorem mfind_cons {kt:Ty} {β:Type} (k:kt.Data) (e:kt.Data×β) (r:List (kt.Data×β)):wA kt k (e::r)=if @decide (k=e.1) (kt.decEq k e.1)=true then some e.2 else wA kt k r:=rfl
theorem dec_self {kt:Ty} (k:kt.Data): @decide (k=k) (kt.decEq k k)=true:= @jG _ (kt.decEq k k) rfl
theorem mput_fst {kt:Ty} {β:Type} (k:kt.Data) (v:β):∀m:List (kt.Data×β),(fN kt k v m).map (·.1)=m.map (·.1)\/(k∉m.map (·.1)/\(fN kt k v m).map (·.1)=m.map (·.1)++[k])
 |[]=> .inr ⟨by simp,rfl⟩
 |e::r=>by
  rw[mput_cons]
  by_cases h: @decide (k=e.1) (kt.decEq k e.1)=true
  rw[jg h]
  have h:k=e.1:= @ja _ (kt.decEq k e.1) h
  left
  simp[h]
  rw[jd h]
  have h:¬k=e.1:=fun a=>h (@jG _ (kt.decEq k e.1) a)
  rcases mput_fst k v r with d|⟨b,c⟩
  left;simp only[zz,d]
  right
  refine⟨?_,by simp only[zz,c,j7]⟩
  rw[zz,jk]
  rintro(a|a)
  exact h a
  exact b a
theorem rm {kt:Ty} {β:Type} (k:kt.Data) (v:β):∀l:List (kt.Data×β),wA kt k (fN kt k v l)=some v
 |[]=>by
  rw[show fN kt k v []=[(k,v)] from rfl,mfind_cons,jg (dec_self k)]
 |e::r=>by
  rw[mput_cons]
  by_cases h: @decide (k=e.1) (kt.decEq k e.1)=true
  rw[jg h,mfind_cons,jg (dec_self k)]
  rw[jd h,mfind_cons,jd h]
  exact rm k v r
theorem dZ {kt:Ty} {β:Type} {k k':kt.Data} (a:k'≠k) (v:β):∀l:List (kt.Data×β),wA kt k' (fN kt k v l)=wA kt k' l
 |[]=>by
  rw[show fN kt k v []=[(k,v)] from rfl,mfind_cons,jd (fun e=>a (@ja _ (kt.decEq k' k) e))]
 |e::r=>by
  rw[mput_cons]
  by_cases h: @decide (k=e.1) (kt.decEq k e.1)=true
  rw[jg h]
  have h:k=e.1:= @ja _ (kt.decEq k e.1) h
  have c:¬@decide (k'=e.1) (kt.decEq k' e.1)=true:=fun b=>a ((@ja _ (kt.decEq k' e.1) b).trans h.symm)
  rw[mfind_cons,mfind_cons,jd c,jd (fun e=>a (@ja _ (kt.decEq k' k) e))]
  rw[jd h,mfind_cons,mfind_cons,dZ a v r]
theorem xc {kt:Ty} {β:Type} {k:kt.Data} {v:β}:∀{l:List (kt.Data×β)},(l.map (·.1)).Nodup->(wA kt k l=some v↔(k,v)∈l)
 |[],_=>by simp[wA]
 |e::r,h=>by
  simp only[zz,zt] at h
  rw[mfind_cons]
  by_cases hk: @decide (k=e.1) (kt.decEq k e.1)=true
  rw[jg hk]
  have hk:k=e.1:= @ja _ (kt.decEq k e.1) hk
  subst hk
  rw[jk]
  constructor
  intro a;simp at a;exact .inl (by rw[<-a])
  rintro(a|a)
  rw[<-a]
  exact absurd (jV.2 ⟨_,a,rfl⟩) h.1
  rw[jd hk]
  have hk:¬k=e.1:=fun b=>hk (@jG _ (kt.decEq k e.1) b)
  rw[xc h.2,jk]
  constructor
  exact .inr
  rintro(a|a)
  exact absurd (by rw[<-a]) hk
  exact a
end M
end Go.X
namespace Go.Proofs
open Go.Shelf
theorem xlay {t:Type} {a:Option t} {b c:t} (h:a=some b) (e:b=c:=by kernel_rfl):a=some c:=h.trans (congrArg some e)
def Tryz.sortSh_ren:Go.Shelf.Ren:=⟨fun|6=>128|15=>140|14=>168|28=>177|29=>178|20=>195|21=>196|22=>197|23=>198|24=>199|25=>200|26=>201|27=>202|46=>218|47=>204|48=>205|49=>219|50=>220|57=>238|n=>n,fun|22=>28|24=>134|25=>159|3=>3|39=>92|0=>0|53=>189|55=>191|4=>4|46=>183|45=>182|50=>50|5=>5|9=>9|66=>213|70=>217|76=>231|77=>232|n=>n,fun|n=>n⟩
theorem Tryz.sortSh:Go.Proofs.SlLaysF0.n6 Tryz.prog Tryz.sortSh_ren:={
 mixed:=by kernel_rfl
 f6:=⟨Tryz.f128.name,by decide,xlay Tryz.func128⟩
 f14:=⟨Tryz.f168.name,by decide,xlay Tryz.func168⟩
 f15:=xlay Tryz.func140
 f20:=⟨Tryz.f195.name,by decide,xlay Tryz.func195⟩
 f21:=⟨Tryz.f196.name,by decide,xlay Tryz.func196⟩
 f22:=⟨Tryz.f197.name,by decide,xlay Tryz.func197⟩
 f23:=⟨Tryz.f198.name,by decide,xlay Tryz.func198⟩
 f24:=⟨Tryz.f199.name,by decide,xlay Tryz.func199⟩
 f25:=⟨Tryz.f200.name,by decide,xlay Tryz.func200⟩
 f26:=⟨Tryz.f201.name,by decide,xlay Tryz.func201⟩
 f27:=⟨Tryz.f202.name,by decide,xlay Tryz.func202⟩
 f28:=xlay Tryz.func177
 f29:=xlay Tryz.func178
 f46:=⟨Tryz.f218.name,by decide,xlay Tryz.func218⟩
 f47:=xlay Tryz.func204
 f48:=xlay Tryz.func205
 f49:=⟨Tryz.f219.name,by decide,xlay Tryz.func219⟩
 f50:=⟨Tryz.f220.name,by decide,xlay Tryz.func220⟩
 f57:=⟨Tryz.f238.name,by decide,xlay Tryz.func238⟩
 t0:=Tryz.underlying0
 a0:=Tryz.isAgg0
 z0:=Tryz.sizeOf0
 v0:=Tryz.zeroValue0
 t3:=Tryz.underlying3
 a3:=Tryz.isAgg3
 z3:=Tryz.sizeOf3
 v3:=Tryz.zeroValue3
 t4:=Tryz.underlying4
 a4:=Tryz.isAgg4
 z4:=Tryz.sizeOf4
 v4:=Tryz.zeroValue4
 t5:=Tryz.underlying5
 a5:=Tryz.isAgg5
 z5:=Tryz.sizeOf5
 v5:=Tryz.zeroValue5
 t9:=Tryz.underlying9
 a9:=Tryz.isAgg9
 z9:=Tryz.sizeOf9
 v9:=Tryz.zeroValue9
 t22:=Tryz.underlying28
 a22:=Tryz.isAgg28
 z22:=Tryz.sizeOf28
 v22:=Tryz.zeroValue28
 t25:=Tryz.underlying159
 a25:=Tryz.isAgg159
 z25:=Tryz.sizeOf159
 v25:=Tryz.zeroValue159
 t39:=Tryz.underlying92
 a39:=Tryz.isAgg92
 z39:=Tryz.sizeOf92
 v39:=Tryz.zeroValue92
 t45:=Tryz.underlying182
 a45:=Tryz.isAgg182
 z45:=Tryz.sizeOf182
 v45:=Tryz.zeroValue182
 t46:=Tryz.underlying183
 a46:=Tryz.isAgg183
 z46:=Tryz.sizeOf183
 v46:=Tryz.zeroValue183
 t50:=Tryz.underlying50
 a50:=Tryz.isAgg50
 z50:=Tryz.sizeOf50
 v50:=Tryz.zeroValue50
 t53:=Tryz.underlying189
 a53:=Tryz.isAgg189
 z53:=Tryz.sizeOf189
 v53:=Tryz.zeroValue189
 t55:=Tryz.underlying191
 a55:=Tryz.isAgg191
 z55:=Tryz.sizeOf191
 v55:=Tryz.zeroValue191
 t66:=Tryz.underlying213
 a66:=Tryz.isAgg213
 z66:=Tryz.sizeOf213
 v66:=Tryz.zeroValue213
 t70:=Tryz.underlying217
 a70:=Tryz.isAgg217
 z70:=Tryz.sizeOf217
 v70:=Tryz.zeroValue217
 t76:=Tryz.underlying231
 a76:=Tryz.isAgg231
 z76:=Tryz.sizeOf231
 v76:=Tryz.zeroValue231
 t77:=Tryz.underlying232
 a77:=Tryz.isAgg232
 z77:=Tryz.sizeOf232
 v77:=Tryz.zeroValue232}
def Tryz.sortI_ren:Go.Shelf.Ren:=⟨fun|189=>183|125=>140|257=>212|128=>177|129=>178|294=>225|295=>226|296=>227|297=>228|298=>229|299=>230|216=>231|300=>232|301=>233|328=>242|329=>204|330=>205|331=>243|332=>244|215=>141|343=>248|n=>n,fun|28=>31|3=>3|46=>92|0=>0|51=>189|53=>191|4=>4|183=>183|182=>182|131=>50|5=>5|9=>9|218=>213|222=>217|228=>231|229=>232|n=>n,fun|n=>n⟩
theorem Tryz.sortI:Go.Proofs.Lays.n189 Tryz.prog Tryz.sortI_ren:={
 mixed:=by kernel_rfl
 f125:=xlay Tryz.func140
 f128:=xlay Tryz.func177
 f129:=xlay Tryz.func178
 f189:=xlay Tryz.func183
 f215:=xlay Tryz.func141
 f216:=xlay Tryz.func231
 f257:=xlay Tryz.func212
 f294:=xlay Tryz.func225
 f295:=xlay Tryz.func226
 f296:=xlay Tryz.func227
 f297:=xlay Tryz.func228
 f298:=xlay Tryz.func229
 f299:=xlay Tryz.func230
 f300:=xlay Tryz.func232
 f301:=xlay Tryz.func233
 f328:=xlay Tryz.func242
 f329:=xlay Tryz.func204
 f330:=xlay Tryz.func205
 f331:=xlay Tryz.func243
 f332:=xlay Tryz.func244
 f343:=xlay Tryz.func248
 t0:=Tryz.underlying0
 a0:=Tryz.isAgg0
 z0:=Tryz.sizeOf0
 v0:=Tryz.zeroValue0
 t3:=Tryz.underlying3
 a3:=Tryz.isAgg3
 z3:=Tryz.sizeOf3
 v3:=Tryz.zeroValue3
 t4:=Tryz.underlying4
 a4:=Tryz.isAgg4
 z4:=Tryz.sizeOf4
 v4:=Tryz.zeroValue4
 t5:=Tryz.underlying5
 a5:=Tryz.isAgg5
 z5:=Tryz.sizeOf5
 v5:=Tryz.zeroValue5
 t9:=Tryz.underlying9
 a9:=Tryz.isAgg9
 z9:=Tryz.sizeOf9
 v9:=Tryz.zeroValue9
 t28:=Tryz.underlying31
 a28:=Tryz.isAgg31
 z28:=Tryz.sizeOf31
 v28:=Tryz.zeroValue31
 t46:=Tryz.underlying92
 a46:=Tryz.isAgg92
 z46:=Tryz.sizeOf92
 v46:=Tryz.zeroValue92
 t51:=Tryz.underlying189
 a51:=Tryz.isAgg189
 z51:=Tryz.sizeOf189
 v51:=Tryz.zeroValue189
 t53:=Tryz.underlying191
 a53:=Tryz.isAgg191
 z53:=Tryz.sizeOf191
 v53:=Tryz.zeroValue191
 t131:=Tryz.underlying50
 a131:=Tryz.isAgg50
 z131:=Tryz.sizeOf50
 v131:=Tryz.zeroValue50
 t182:=Tryz.underlying182
 a182:=Tryz.isAgg182
 z182:=Tryz.sizeOf182
 v182:=Tryz.zeroValue182
 t183:=Tryz.underlying183
 a183:=Tryz.isAgg183
 z183:=Tryz.sizeOf183
 v183:=Tryz.zeroValue183
 t218:=Tryz.underlying213
 a218:=Tryz.isAgg213
 z218:=Tryz.sizeOf213
 v218:=Tryz.zeroValue213
 t222:=Tryz.underlying217
 a222:=Tryz.isAgg217
 z222:=Tryz.sizeOf217
 v222:=Tryz.zeroValue217
 t228:=Tryz.underlying231
 a228:=Tryz.isAgg231
 z228:=Tryz.sizeOf231
 v228:=Tryz.zeroValue231
 t229:=Tryz.underlying232
 a229:=Tryz.isAgg232
 z229:=Tryz.sizeOf232
 v229:=Tryz.zeroValue232}
end Go.Proofs
namespace Go.X
open U
open Go.Proofs
abbrev rwS:Sh:= .cl (.row 134 tSh .unk)
namespace U
def xJ (s:SpD):Bool:=(decide (0<=lo s)&&decide (lo s<=hi s))&&decide (hi s<=300)
def En (n:Nat) (b:BkD):Bool:=((k8 (T9 b) 0 ((n:Int)-1)&&decide (0<=w8 b))&&decide (w8 b<gn b))&&decide (gn b<=1440)
def Mb (nb a:Nat) (s:ShD):Bool:=(((k8 (gx s) 0 99&&k8 (Ez s) 0 9999)&&k8 (XS s) 1 2)&&k8 (lL s) 0 ((nb:Int)-1))&&k8 (ao s) 0 ((a:Int)-1)
def dH (a b:ShD):Int:=y7 [cT (gx a) (gx b),cT (Ez a) (Ez b),cT (XS a) (XS b),cT (lL a) (lL b),cT (ao a) (ao b)]
def wz (a b:ShD):Int:=y7 [cT (Ez a) (Ez b),cT (gx a) (gx b)]
def gu (a b:ShD):Bool:=decide (a=b)
def qo (l:List ShD):List ShD:=bN gu (wc (wd tSh fun x=>(dH x.1 x.2.1,())) l)
def nK (m:List (Int×Int)) (s:ShD):List (Int×Int):=fN .int (gx s) (wM 0 (wA .int (gx s) m)+1) m
def yT (m:List (Int×Int)) (l:List ShD) (n:Nat):List (Int×Int):=(l.take n).foldl nK m
def Re (m:List (Int×Int)) (s:ShD):Bool:=decide (1<wM 0 (wA .int (gx s) (nK m s)))
def tL (m:List (Int×Int)) (l:List ShD) (i:Nat):Bool:=Re (yT m l i) (nth l i)
def mX (m:List (Int×Int)) (l:List ShD):Int:=gy (tL m l) (List.range l.length)
def XT (m:List (Int×Int)) (l:List ShD):Nat:=match(List.range l.length).findIdx? (tL m l) with|some i=>i+1|none=>l.length
def re (m:List (Int×Int)) (l:List ShD):List (Int×Int):=yT m l (XT m l)
def jd5 (m:List (Int×Int)):Prop:=m=[]
def XU (m:List (Int×Int)):Prop:=∀k,0<=wM 0 (wA .int k m)/\wM 0 (wA .int k m)<=200000
def Un (l:List ShD):Bool:=decide (0<=mX [] l)
def xa (d:DyD):Int:=if wt (wq d)=false then 30 else if I4 d=false then 31 else 0
def qe (d:DyD):Int:=if xa d≠0 then xa d else if qv d=false then 50 else if Un (qo (w7 d))=true then 51 else 0
end U
def NO:wQ:=⟨[.val .int,.val .int,.val .int],[.bool],false,fun _=>[],fun d=>(k8 d.1 d.2.1 d.2.2.1,())⟩
def NP:Prop:=∀(d:Int×Int×Int×Unit),(decide (d.2.1<=d.1)&&decide (d.1<=d.2.2.1),())=(k8 d.1 d.2.1 d.2.2.1,())
def nP:wQ:=⟨[.val (.slice tSp),.fn [tSp] [.bool]],[.int],false,fun d=>[∀g∈d.1,wy (d.2.1.pre (g,()))],fun d=>(gy (wb (α:=SpD) d.2.1.F) d.1,())⟩
def nQ:Ann:=fun r=>match r with
 |2=>some fun σ=>{X:=Nat,sl:=fun i=>[(8,.dat .int (i:Int))],ob:=fun _=>[],inv:=fun i=>i<=(gd (.slice tSp) σ 0).length/\∀b:Nat,b<i->wb (gfb tSp σ 1) (nth (gd (.slice tSp) σ 0) b)=false,mu:=fun i=>(gd (.slice tSp) σ 0).length-i}
 |_=>none
def nR:Prop:=∀(d:List (Int×Int×Unit)×FnD [tSp] [Ty.bool]×Unit),(∀(g:Int×Int×Unit),g∈d.1->wy (d.2.1.1 (g,())))->d.1.length<4611686018427387904->(∃(x:Nat),((0=(x:Int)/\True)/\True)/\x<=d.1.length/\∀(b:Nat),b<x->wb d.2.1.2 (nth d.1 b)=false)/\∀(x:Nat),(x<=d.1.length/\∀(b:Nat),b<x->wb d.2.1.2 (nth d.1 b)=false)->(decide ((x:Int)<d.1.length)=true->0<=(x:Int)/\(x:Int)<d.1.length/\asks (d.2.1.1 (nth d.1 (x:Int).toNat,())) (((d.2.1.2 (nth d.1 (x:Int).toNat,())).1=true->((x:Int),())=(gy (wb d.2.1.2) d.1,()))/\((d.2.1.2 (nth d.1 (x:Int).toNat,())).1=false->wm ((x:Int)+1)/\∃(a:Nat),(((x:Int)+1=(a:Int)/\True)/\True)/\(a<=d.1.length/\∀(b:Nat),b<a->wb d.2.1.2 (nth d.1 b)=false)/\d.1.length-a<d.1.length-x)))/\(decide ((x:Int)<d.1.length)=false->((-1:Int),())=(gy (wb d.2.1.2) d.1,()))
def iy:wQ:=⟨[.val (.slice tSp),.fn [tSp] [.bool]],[.bool],false,fun d=>[∀g∈d.1,wy (d.2.1.pre (g,()))],fun d=>(d.1.any (wb (α:=SpD) d.2.1.F),())⟩
def iz:Prop:=∀(d:List (Int×Int×Unit)×FnD [tSp] [Ty.bool]×Unit),(∀(g:Int×Int×Unit),g∈d.1->wy (d.2.1.1 (g,())))->(∀(g:Int×Int×Unit),g∈d.1->wy (d.2.1.1 (g,())))/\(decide (0<=gy (wb d.2.1.2) d.1),())=(d.1.any (wb d.2.1.2),())
def mz:wQ:=⟨[.val (.slice (.slice tSp)),.fn [(.slice tSp)] [.bool]],[.int],false,fun d=>[∀g∈d.1,wy (d.2.1.pre (g,()))],fun d=>(gy (wb (α:=(List SpD)) d.2.1.F) d.1,())⟩
def mA:Ann:=fun r=>match r with
 |2=>some fun σ=>{X:=Nat,sl:=fun i=>[(8,.dat .int (i:Int))],ob:=fun _=>[],inv:=fun i=>i<=(gd (.slice (.slice tSp)) σ 0).length/\∀b:Nat,b<i->wb (gfb (.slice tSp) σ 1) (nth (gd (.slice (.slice tSp)) σ 0) b)=false,mu:=fun i=>(gd (.slice (.slice tSp)) σ 0).length-i}
 |_=>none
def mB:Prop:=∀(d:List (List (Int×Int×Unit))×FnD [tSp.slice] [Ty.bool]×Unit),(∀(g:List (Int×Int×Unit)),g∈d.1->wy (d.2.1.1 (g,())))->d.1.length<4611686018427387904->(∃(x:Nat),((0=(x:Int)/\True)/\True)/\x<=d.1.length/\∀(b:Nat),b<x->wb d.2.1.2 (nth d.1 b)=false)/\∀(x:Nat),(x<=d.1.length/\∀(b:Nat),b<x->wb d.2.1.2 (nth d.1 b)=false)->(decide ((x:Int)<d.1.length)=true->0<=(x:Int)/\(x:Int)<d.1.length/\asks (d.2.1.1 (nth d.1 (x:Int).toNat,())) (((d.2.1.2 (nth d.1 (x:Int).toNat,())).1=true->((x:Int),())=(gy (wb d.2.1.2) d.1,()))/\((d.2.1.2 (nth d.1 (x:Int).toNat,())).1=false->wm ((x:Int)+1)/\∃(a:Nat),(((x:Int)+1=(a:Int)/\True)/\True)/\(a<=d.1.length/\∀(b:Nat),b<a->wb d.2.1.2 (nth d.1 b)=false)/\d.1.length-a<d.1.length-x)))/\(decide ((x:Int)<d.1.length)=false->((-1:Int),())=(gy (wb d.2.1.2) d.1,()))
def eR:wQ:=⟨[.val (.slice (.slice tSp)),.fn [(.slice tSp)] [.bool]],[.bool],false,fun d=>[∀g∈d.1,wy (d.2.1.pre (g,()))],fun d=>(d.1.any (wb (α:=(List SpD)) d.2.1.F),())⟩
def eU:Prop:=∀(d:List (List (Int×Int×Unit))×FnD [tSp.slice] [Ty.bool]×Unit),(∀(g:List (Int×Int×Unit)),g∈d.1->wy (d.2.1.1 (g,())))->(∀(g:List (Int×Int×Unit)),g∈d.1->wy (d.2.1.1 (g,())))/\(decide (0<=gy (wb d.2.1.2) d.1),())=(d.1.any (wb d.2.1.2),())
def iA:wQ:=⟨[.val (.slice tBk),.fn [tBk] [.bool]],[.int],false,fun d=>[∀g∈d.1,wy (d.2.1.pre (g,()))],fun d=>(gy (wb (α:=BkD) d.2.1.F) d.1,())⟩
def iB:Ann:=fun r=>match r with
 |2=>some fun σ=>{X:=Nat,sl:=fun i=>[(8,.dat .int (i:Int))],ob:=fun _=>[],inv:=fun i=>i<=(gd (.slice tBk) σ 0).length/\∀b:Nat,b<i->wb (gfb tBk σ 1) (nth (gd (.slice tBk) σ 0) b)=false,mu:=fun i=>(gd (.slice tBk) σ 0).length-i}
 |_=>none
def iC:Prop:=∀(d:List BkD×FnD [tBk] [Ty.bool]×Unit),(∀(g:BkD),g∈d.1->wy (d.2.1.1 (g,())))->d.1.length<4611686018427387904->(∃(x:Nat),((0=(x:Int)/\True)/\True)/\x<=d.1.length/\∀(b:Nat),b<x->wb d.2.1.2 (nth d.1 b)=false)/\∀(x:Nat),(x<=d.1.length/\∀(b:Nat),b<x->wb d.2.1.2 (nth d.1 b)=false)->(decide ((x:Int)<d.1.length)=true->0<=(x:Int)/\(x:Int)<d.1.length/\asks (d.2.1.1 (nth d.1 (x:Int).toNat,())) (((d.2.1.2 (nth d.1 (x:Int).toNat,())).1=true->((x:Int),())=(gy (wb d.2.1.2) d.1,()))/\((d.2.1.2 (nth d.1 (x:Int).toNat,())).1=false->wm ((x:Int)+1)/\∃(a:Nat),(((x:Int)+1=(a:Int)/\True)/\True)/\(a<=d.1.length/\∀(b:Nat),b<a->wb d.2.1.2 (nth d.1 b)=false)/\d.1.length-a<d.1.length-x)))/\(decide ((x:Int)<d.1.length)=false->((-1:Int),())=(gy (wb d.2.1.2) d.1,()))
def cW:wQ:=⟨[.val (.slice tBk),.fn [tBk] [.bool]],[.bool],false,fun d=>[∀g∈d.1,wy (d.2.1.pre (g,()))],fun d=>(d.1.any (wb (α:=BkD) d.2.1.F),())⟩
def cX:Prop:=∀(d:List BkD×FnD [tBk] [Ty.bool]×Unit),(∀(g:BkD),g∈d.1->wy (d.2.1.1 (g,())))->(∀(g:BkD),g∈d.1->wy (d.2.1.1 (g,())))/\(decide (0<=gy (wb d.2.1.2) d.1),())=(d.1.any (wb d.2.1.2),())
def mC:wQ:=⟨[.val (.slice tSh),.fn [tSh] [.bool]],[.int],false,fun d=>[∀g∈d.1,wy (d.2.1.pre (g,()))],fun d=>(gy (wb (α:=ShD) d.2.1.F) d.1,())⟩
def mD:Ann:=fun r=>match r with
 |2=>some fun σ=>{X:=Nat,sl:=fun i=>[(8,.dat .int (i:Int))],ob:=fun _=>[],inv:=fun i=>i<=(gd (.slice tSh) σ 0).length/\∀b:Nat,b<i->wb (gfb tSh σ 1) (nth (gd (.slice tSh) σ 0) b)=false,mu:=fun i=>(gd (.slice tSh) σ 0).length-i}
 |_=>none
def mE:Prop:=∀(d:List ShD×FnD [tSh] [Ty.bool]×Unit),(∀(g:ShD),g∈d.1->wy (d.2.1.1 (g,())))->d.1.length<4611686018427387904->(∃(x:Nat),((0=(x:Int)/\True)/\True)/\x<=d.1.length/\∀(b:Nat),b<x->wb d.2.1.2 (nth d.1 b)=false)/\∀(x:Nat),(x<=d.1.length/\∀(b:Nat),b<x->wb d.2.1.2 (nth d.1 b)=false)->(decide ((x:Int)<d.1.length)=true->0<=(x:Int)/\(x:Int)<d.1.length/\asks (d.2.1.1 (nth d.1 (x:Int).toNat,())) (((d.2.1.2 (nth d.1 (x:Int).toNat,())).1=true->((x:Int),())=(gy (wb d.2.1.2) d.1,()))/\((d.2.1.2 (nth d.1 (x:Int).toNat,())).1=false->wm ((x:Int)+1)/\∃(a:Nat),(((x:Int)+1=(a:Int)/\True)/\True)/\(a<=d.1.length/\∀(b:Nat),b<a->wb d.2.1.2 (nth d.1 b)=false)/\d.1.length-a<d.1.length-x)))/\(decide ((x:Int)<d.1.length)=false->((-1:Int),())=(gy (wb d.2.1.2) d.1,()))
def eV:wQ:=⟨[.val (.slice tSh),.fn [tSh] [.bool]],[.bool],false,fun d=>[∀g∈d.1,wy (d.2.1.pre (g,()))],fun d=>(d.1.any (wb (α:=ShD) d.2.1.F),())⟩
def eX:Prop:=∀(d:List ShD×FnD [tSh] [Ty.bool]×Unit),(∀(g:ShD),g∈d.1->wy (d.2.1.1 (g,())))->(∀(g:ShD),g∈d.1->wy (d.2.1.1 (g,())))/\(decide (0<=gy (wb d.2.1.2) d.1),())=(d.1.any (wb d.2.1.2),())
def uo:wQ:=⟨[.val tSp,.rfn [tSp] [.bool]],[.bool],false,fun d=>[wy (d.2.1.pre (d.1,()))],fun d=>(!(wb (α:=SpD) d.2.1.F d.1),())⟩
def uq:Prop:=∀(d:(Int×Int×Unit)×FnD [tSp] [Ty.bool]×Unit),wy (d.2.1.1 (d.1,()))->asks (d.2.1.1 (d.1,())) ((!(d.2.1.2 (d.1,())).1,())=(!wb d.2.1.2 d.1,()))
def Dc:wQ:=⟨[.val (.slice tSp),.fn [tSp] [.bool]],[.bool],false,fun d=>[∀g∈d.1,wy (d.2.1.pre (g,()))],fun d=>(d.1.all (wb (α:=SpD) d.2.1.F),())⟩
def Dd:Prop:=∀(d:List (Int×Int×Unit)×FnD [tSp] [Ty.bool]×Unit),(∀(g:Int×Int×Unit),g∈d.1->wy (d.2.1.1 (g,())))->(∀(g:Int×Int×Unit),g∈d.1->wy [wy (d.2.1.1 (g,()))])/\(!d.1.any (wb fun(a:(Int×Int×Unit)×Unit)=>(!wb d.2.1.2 a.1,())),())=(d.1.all (wb d.2.1.2),())
def sJ:wQ:=⟨[.val (.slice tSp),.rfn [(.slice tSp)] [.bool]],[.bool],false,fun d=>[wy (d.2.1.pre (d.1,()))],fun d=>(!(wb (α:=(List SpD)) d.2.1.F d.1),())⟩
def sK:Prop:=∀(d:List (Int×Int×Unit)×FnD [tSp.slice] [Ty.bool]×Unit),wy (d.2.1.1 (d.1,()))->asks (d.2.1.1 (d.1,())) ((!(d.2.1.2 (d.1,())).1,())=(!wb d.2.1.2 d.1,()))
def Ad:wQ:=⟨[.val (.slice (.slice tSp)),.fn [(.slice tSp)] [.bool]],[.bool],false,fun d=>[∀g∈d.1,wy (d.2.1.pre (g,()))],fun d=>(d.1.all (wb (α:=(List SpD)) d.2.1.F),())⟩
def Ae:Prop:=∀(d:List (List (Int×Int×Unit))×FnD [tSp.slice] [Ty.bool]×Unit),(∀(g:List (Int×Int×Unit)),g∈d.1->wy (d.2.1.1 (g,())))->(∀(g:List (Int×Int×Unit)),g∈d.1->wy [wy (d.2.1.1 (g,()))])/\(!d.1.any (wb fun(a:List (Int×Int×Unit)×Unit)=>(!wb d.2.1.2 a.1,())),())=(d.1.all (wb d.2.1.2),())
def nS:wQ:=⟨[.val tBk,.rfn [tBk] [.bool]],[.bool],false,fun d=>[wy (d.2.1.pre (d.1,()))],fun d=>(!(wb (α:=BkD) d.2.1.F d.1),())⟩
def nT:Prop:=∀(d:BkD×FnD [tBk] [Ty.bool]×Unit),wy (d.2.1.1 (d.1,()))->asks (d.2.1.1 (d.1,())) ((!(d.2.1.2 (d.1,())).1,())=(!wb d.2.1.2 d.1,()))
def sL:wQ:=⟨[.val (.slice tBk),.fn [tBk] [.bool]],[.bool],false,fun d=>[∀g∈d.1,wy (d.2.1.pre (g,()))],fun d=>(d.1.all (wb (α:=BkD) d.2.1.F),())⟩
def sM:Prop:=∀(d:List BkD×FnD [tBk] [Ty.bool]×Unit),(∀(g:BkD),g∈d.1->wy (d.2.1.1 (g,())))->(∀(g:BkD),g∈d.1->wy [wy (d.2.1.1 (g,()))])/\(!d.1.any (wb fun(a:BkD×Unit)=>(!wb d.2.1.2 a.1,())),())=(d.1.all (wb d.2.1.2),())
def sN:wQ:=⟨[.val tSh,.rfn [tSh] [.bool]],[.bool],false,fun d=>[wy (d.2.1.pre (d.1,()))],fun d=>(!(wb (α:=ShD) d.2.1.F d.1),())⟩
def sO:Prop:=∀(d:ShD×FnD [tSh] [Ty.bool]×Unit),wy (d.2.1.1 (d.1,()))->asks (d.2.1.1 (d.1,())) ((!(d.2.1.2 (d.1,())).1,())=(!wb d.2.1.2 d.1,()))
def Af:wQ:=⟨[.val (.slice tSh),.fn [tSh] [.bool]],[.bool],false,fun d=>[∀g∈d.1,wy (d.2.1.pre (g,()))],fun d=>(d.1.all (wb (α:=ShD) d.2.1.F),())⟩
def Ag:Prop:=∀(d:List ShD×FnD [tSh] [Ty.bool]×Unit),(∀(g:ShD),g∈d.1->wy (d.2.1.1 (g,())))->(∀(g:ShD),g∈d.1->wy [wy (d.2.1.1 (g,()))])/\(!d.1.any (wb fun(a:ShD×Unit)=>(!wb d.2.1.2 a.1,())),())=(d.1.all (wb d.2.1.2),())
def Ky:wQ:=⟨[.val tSp],[.bool],false,fun _=>[],fun d=>(xJ d.1,())⟩
def Kz:Prop:=∀(d:(Int×Int×Unit)×Unit),(decide (0<=d.1.1)&&decide (d.1.1<=d.1.2.1)&&decide (d.1.2.1<=300),())=(xJ d.1,())
def KA:wQ:=⟨[.val (.slice tSp),.ref tDy,.rfn [tSp] [.bool]],[.bool],false,fun d=>[∀g∈d.1,wy (d.2.2.1.pre (g,()))],fun d=>(decide ((d.1.length:Int)=(w6 d.2.1).length)&&d.1.all (wb (α:=SpD) d.2.2.1.F),())⟩
def KB:Prop:=∀(d:List (Int×Int×Unit)×DyD×FnD [tSp] [Ty.bool]×Unit),(∀(g:Int×Int×Unit),g∈d.1->wy (d.2.2.1.1 (g,())))->d.1.length<4611686018427387904->d.2.1.2.1.length<4611686018427387904->(decide ((d.1.length:Int)=d.2.1.2.1.length)=true->∀(g:Int×Int×Unit),g∈d.1->wy (d.2.2.1.1 (g,())))/\(decide ((d.1.length:Int)=d.2.1.2.1.length)&&d.1.all (wb d.2.2.1.2),())=(decide ((d.1.length:Int)=(w6 d.2.1).length)&&d.1.all (wb d.2.2.1.2),())
def KC:wQ:=⟨[.val tBk,.ref tDy],[.bool],false,fun _=>[],fun d=>(En (w6 d.2.1).length d.1,())⟩
def KE:Prop:=∀(d:BkD×DyD×Unit),d.2.1.2.1.length<4611686018427387904->wm ((d.2.1.2.1.length:Int)-1)/\(k8 d.1.2.1 (0:Int) ((d.2.1.2.1.length:Int)-1)&&decide (0<=d.1.2.2.1)&&decide (d.1.2.2.1<d.1.2.2.2.1)&&decide (d.1.2.2.2.1<=1440),())=(En (w6 d.2.1).length d.1,())
def KF:wQ:=⟨[.val tSh,.ref tDy],[.bool],false,fun _=>[],fun d=>(Mb (wo d.2.1).length (wi (wq d.2.1)).length d.1,())⟩
abbrev jjy (d:ShD×DyD×Unit):=(k8 d.1.1 (0:Int) (99:Int)&&k8 d.1.2.1 (0:Int) (9999:Int)&&k8 d.1.2.2.1 (1:Int) (2:Int)&&k8 d.1.2.2.2.1 (0:Int) ((d.2.1.2.2.1.length:Int)-1))
abbrev jjz (d:ShD×DyD×Unit):=(k8 d.1.1 (0:Int) (99:Int)&&k8 d.1.2.1 (0:Int) (9999:Int)&&k8 d.1.2.2.1 (1:Int) (2:Int))
def KG:Prop:=∀(d:ShD×DyD×Unit),((jjz d)=true->d.2.1.2.2.1.length<4611686018427387904)->((jjz d)=true->wm ((d.2.1.2.2.1.length:Int)-1))/\(((jjy d)=true->d.2.1.1.2.1.length<4611686018427387904)->((jjy d)=true->wm ((d.2.1.1.2.1.length:Int)-1))/\(k8 d.1.1 (0:Int) (99:Int)&&k8 d.1.2.1 (0:Int) (9999:Int)&&k8 d.1.2.2.1 (1:Int) (2:Int)&&k8 d.1.2.2.2.1 (0:Int) ((d.2.1.2.2.1.length:Int)-1)&&k8 d.1.q4.1 (0:Int) ((d.2.1.1.2.1.length:Int)-1),())=(Mb (wo d.2.1).length (wi (wq d.2.1)).length d.1,()))
def Sd:wQ:=⟨[.val tDy],[.bool],false,fun _=>[],fun d=>(qv d.1,())⟩
abbrev jiT (d:DyD×Unit):=(wb fun(a:BkD×Unit)=>(En (w6 d.1).length a.1,()))
abbrev jhf (d:DyD×Unit):=((d.1.2.2.1.length:Int)<=4)
abbrev jij (d:DyD×Unit):=(↑(w6 d.1).length:Int)
abbrev jhG (d:DyD×Unit):=(d.1.2.1.length:Int)
def Se:Prop:=∀(d:DyD×Unit),d.1.2.2.1.length<4611686018427387904->(decide (jhf d)=true->d.1.2.1.length<4611686018427387904)->((decide (jhf d)&&k8 (jhG d) (1:Int) (5:Int))=true->∀(g:List (Int×Int×Unit)),g∈d.1.2.1->wy [∀(b:Int×Int×Unit),b∈g->wy []])/\((decide (jhf d)&&k8 (jhG d) (1:Int) (5:Int)&&d.1.2.1.all (wb fun(a:List (Int×Int×Unit)×Unit)=>(decide ((a.1.length:Int)=(jij d))&&a.1.all (wb fun(c:(Int×Int×Unit)×Unit)=>(xJ c.1,())),())))=true->∀(e:BkD),e∈d.1.2.2.1->wy [])/\(((decide (jhf d)&&k8 (jhG d) (1:Int) (5:Int)&&d.1.2.1.all (wb fun(a:List (Int×Int×Unit)×Unit)=>(decide ((a.1.length:Int)=(jij d))&&a.1.all (wb fun(f:(Int×Int×Unit)×Unit)=>(xJ f.1,())),()))&&d.1.2.2.1.all (jiT d)&&k8 d.1.2.2.2.1 (0:Int) (300:Int)&&k8 d.1.q4.1 (0:Int) (1440:Int))=true->d.1.q4.2.1.length<4611686018427387904)->((decide (jhf d)&&k8 (jhG d) (1:Int) (5:Int)&&d.1.2.1.all (wb fun(a:List (Int×Int×Unit)×Unit)=>(decide ((a.1.length:Int)=(jij d))&&a.1.all (wb fun(h:(Int×Int×Unit)×Unit)=>(xJ h.1,())),()))&&d.1.2.2.1.all (jiT d)&&k8 d.1.2.2.2.1 (0:Int) (300:Int)&&k8 d.1.q4.1 (0:Int) (1440:Int)&&decide ((d.1.q4.2.1.length:Int)<=30))=true->∀(i:ShD),i∈d.1.q4.2.1->wy [])/\(decide (jhf d)&&k8 (jhG d) (1:Int) (5:Int)&&d.1.2.1.all (wb fun(a:List (Int×Int×Unit)×Unit)=>(decide ((a.1.length:Int)=(jij d))&&a.1.all (wb fun(u5:(Int×Int×Unit)×Unit)=>(xJ u5.1,())),()))&&d.1.2.2.1.all (jiT d)&&k8 d.1.2.2.2.1 (0:Int) (300:Int)&&k8 d.1.q4.1 (0:Int) (1440:Int)&&decide ((d.1.q4.2.1.length:Int)<=30)&&d.1.q4.2.1.all (wb fun(j:ShD×Unit)=>(Mb (wo d.1).length (wi (wq d.1)).length j.1,())),())=(qv d.1,()))
def Ah:wQ:=⟨[.val .int],[.bool],false,fun _=>[],fun _=>(false,())⟩
def Ai:Prop:=∀(d:Int×Unit),(decide (d.1≠d.1),())=(false,())
def sP:wQ:=⟨[.val .int,.val .int],[.int],false,fun _=>[],fun d=>(cT d.1 d.2.1,())⟩
abbrev jhg (d:Int×Int×Unit):=(cT d.1 d.2.1,())
def sQ:Prop:=∀(d:Int×Int×Unit),(false=true->(false=true->((0:Int),())=(jhg d))/\(qF->((-1:Int),())=(jhg d)))/\(qF->(false=true->((1:Int),())=(jhg d))/\(qF->(decide (d.1<d.2.1)=true->((-1:Int),())=(jhg d))/\(decide (d.1<d.2.1)=false->(decide (d.2.1<d.1)=true->((1:Int),())=(jhg d))/\(decide (d.2.1<d.1)=false->((0:Int),())=(jhg d)))))
def H3:wQ:=⟨[.val (.slice .int)],[.int],false,fun _=>[],fun d=>(y7 d.1,())⟩
def H4:Ann:=fun r=>match r with
 |3=>some fun σ=>{X:=Nat,sl:=fun i=>[(8,.dat .int (i:Int))],ob:=fun _=>[],inv:=fun i=>i<=(gd (.slice .int) σ 0).length/\∀b:Nat,b<i->nth (gd (.slice .int) σ 0) b=0,mu:=fun i=>(gd (.slice .int) σ 0).length-i}
 |_=>none
def H5:Prop:=∀(d:List Int×Unit),d.1.length<4611686018427387904->(∃(x:Nat),((0=(x:Int)/\True)/\True)/\x<=d.1.length/\∀(b:Nat),b<x->nth d.1 b=0)/\∀(x:Nat),(x<=d.1.length/\∀(b:Nat),b<x->nth d.1 b=0)->(decide ((x:Int)<d.1.length)=true->0<=(x:Int)/\(x:Int)<d.1.length/\(decide (nth d.1 (x:Int).toNat≠0)=true->(nth d.1 (x:Int).toNat,())=(y7 d.1,()))/\(decide (nth d.1 (x:Int).toNat≠0)=false->wm ((x:Int)+1)/\∃(a:Nat),(((x:Int)+1=(a:Int)/\True)/\True)/\(a<=d.1.length/\∀(b:Nat),b<a->nth d.1 b=0)/\d.1.length-a<d.1.length-x))/\(decide ((x:Int)<d.1.length)=false->((0:Int),())=(y7 d.1,()))
def De:wQ:=⟨[.val tSh,.val tSh],[.int],false,fun _=>[],fun d=>(dH d.1 d.2.1,())⟩
def Df:Prop:=∀(d:ShD×ShD×Unit),(y7 [cT d.1.1 d.2.1.1,cT d.1.2.1 d.2.1.2.1,cT d.1.2.2.1 d.2.1.2.2.1,cT d.1.2.2.2.1 d.2.1.2.2.2.1,cT d.1.q4.1 d.2.1.q4.1],())=(dH d.1 d.2.1,())
def NQ:wQ:=⟨[.val tSh,.val tSh],[.int],false,fun _=>[],fun d=>(wz d.1 d.2.1,())⟩
def NR:Prop:=∀(d:ShD×ShD×Unit),(y7 [cT d.1.2.1 d.2.1.2.1,cT d.1.1 d.2.1.1],())=(wz d.1 d.2.1,())
def ur:q7:=⟨[.val (.slice tSh)],[rwS],fun d=>[d.1.length<=100000],fun d=>((d.1,()),())⟩
def ut:Prop:=∀(d:List ShD×Unit),d.1.length<=100000->∀(β:Bool),(β=true->d.1=[])->(β=true->([],())=d/\()=())/\(β=false->(0+d.1.length)*40<=140737488355328/\([]++d.1,())=d/\()=())
def pL:q7:=⟨[.own rwS false],[rwS],fun d=>[d.1.length<=100000],fun d=>((bN gu d.1,()),())⟩
def pM:Ann:=fun r=>match r with
 |4=>some fun σ=>{X:=Nat,sl:=fun i=>[(3,.dat .int (i:Int))],ob:=fun _=>[],inv:=fun i=>jcB gu (gr tSh σ 1000000) i,mu:=fun i=>(gr tSh σ 1000000).length-i}
 |9=>some fun σ=>{X:=Nat×List ShD,sl:=fun x=>[(5,.dat .int (x.1:Int)),(3,.dat .int (oI gu (gr tSh σ 1000000) ((gd .int σ 3).toNat+x.1)))],ob:=fun x=>[(1000000,some (.row 134 tSh false .unk x.2))],inv:=fun x=>PG gu (gr tSh σ 1000000) (gd .int σ 3).toNat x.1 x.2,mu:=fun x=>(gr tSh σ 1000000).length-x.1}
 |_=>none
abbrev jfQ (x:Nat)(a:Nat×List ShD):=((x:Int).toNat+a.1)
abbrev jjA (d:List ShD×Unit)(x:Nat)(a:Nat×List ShD):=(List.take (oI gu d.1 (jfQ x a)).toNat a.2++List.replicate ((a.2.length:Int).toNat-(oI gu d.1 (jfQ x a)).toNat) ((0:Int),(0:Int),(0:Int),(0:Int),(0:Int),()))
abbrev jjB (a:Nat×List ShD)(x:Nat):=(!decide (nth a.2 ((x:Int).toNat+(a.1:Int).toNat)=nth a.2 ((x:Int).toNat+((a.1:Int)-1).toNat)))
abbrev jf9 (d:List ShD×Unit):=(d.1.length:Int)
abbrev jhH (d:List ShD×Unit)(x:Nat):=(↑((jf9 d).toNat-(x:Int).toNat):Int)
def pN:Prop:=∀(d:List ShD×Unit),d.1.length<=100000->d.1.length<4611686018427387904->(decide ((jf9 d)<2)=true->d=(bN gu d.1,())/\()=())/\(decide ((jf9 d)<2)=false->(∃(x:Nat),((1=(x:Int)/\True)/\True)/\jcB gu d.1 x)/\∀(x:Nat),jcB gu d.1 x->d.1.length<4611686018427387904->(decide ((x:Int)<(jf9 d))=true->0<=(x:Int)/\(x:Int)<(jf9 d)/\wm ((x:Int)-1)/\0<=(x:Int)-1/\(x:Int)-1<(jf9 d)/\(decide (nth d.1 (x:Int).toNat=nth d.1 ((x:Int)-1).toNat)=true->0<=(x:Int)/\(x:Int)<=(jf9 d)/\(jf9 d)<=(jf9 d)/\(∃(a:Nat×List ShD),((1=(a.1:Int)/\(x:Int)=oI gu d.1 (jfQ x a)/\True)/\d.1=a.2/\True)/\PG gu d.1 (x:Int).toNat a.1 a.2)/\∀(a:Nat×List ShD),PG gu d.1 (x:Int).toNat a.1 a.2->(jf9 d).toNat-(x:Int).toNat<4611686018427387904->(decide ((a.1:Int)<(jhH d x))=true->0<=(a.1:Int)/\(a.1:Int)<(jhH d x)/\wm ((a.1:Int)-1)/\0<=(a.1:Int)-1/\(a.1:Int)-1<(jhH d x)/\((jjB a x)=true->0<=(a.1:Int)/\(a.1:Int)<(jhH d x)/\0<=oI gu d.1 (jfQ x a)/\oI gu d.1 (jfQ x a)<(a.2.length:Int)/\wm (oI gu d.1 (jfQ x a)+1)/\wm ((a.1:Int)+1)/\∃(b:Nat×List ShD),(((a.1:Int)+1=(b.1:Int)/\oI gu d.1 (jfQ x a)+1=oI gu d.1 ((x:Int).toNat+b.1)/\True)/\a.2.set (oI gu d.1 (jfQ x a)).toNat (nth a.2 ((x:Int).toNat+(a.1:Int).toNat))=b.2/\True)/\PG gu d.1 (x:Int).toNat b.1 b.2/\d.1.length-b.1<d.1.length-a.1)/\((jjB a x)=false->wm ((a.1:Int)+1)/\∃(b:Nat×List ShD),((oI gu d.1 (jfQ x a)=oI gu d.1 ((x:Int).toNat+b.1)/\(a.1:Int)+1=(b.1:Int)/\True)/\a.2=b.2/\True)/\PG gu d.1 (x:Int).toNat b.1 b.2/\d.1.length-b.1<d.1.length-a.1))/\(decide ((a.1:Int)<(jhH d x))=false->0<=oI gu d.1 (jfQ x a)/\oI gu d.1 (jfQ x a)<=(a.2.length:Int)/\(a.2.length:Int)<=a.2.length/\(oI gu d.1 (jfQ x a)).toNat+((a.2.length:Int).toNat-(oI gu d.1 (jfQ x a)).toNat)=a.2.length/\(0:Int)<=0/\0<=oI gu d.1 (jfQ x a)/\oI gu d.1 (jfQ x a)<=(↑(jjA d x a).length:Int)/\(List.take ((oI gu d.1 (jfQ x a)).toNat-Int.toNat 0) (jjA d x a),())=(bN gu d.1,())/\()=()))/\(decide (nth d.1 (x:Int).toNat=nth d.1 ((x:Int)-1).toNat)=false->wm ((x:Int)+1)/\∃(c:Nat),(((x:Int)+1=(c:Int)/\True)/\True)/\jcB gu d.1 c/\d.1.length-c<d.1.length-x))/\(decide ((x:Int)<(jf9 d))=false->d=(bN gu d.1,())/\()=()))
abbrev nU:q7:=VF tSh 134
def H6:q7:=⟨[.val (.slice tSh)],[rwS],fun d=>[d.1.length<=100000],fun d=>((qo d.1,()),())⟩
abbrev jiU:=(wd (Ty.int.pair (Ty.int.pair (Ty.int.pair (Ty.int.pair (Ty.int.pair Ty.unit))))) fun(a:ShD×ShD×Unit)=>(dH a.1 a.2.1,()))
def H7:Prop:=∀(d:List ShD×Unit),d.1.length<=100000->d.1.length<=100000/\(∀(x:ShD),x∈d.1->∀(y:ShD),y∈d.1->wy [])/\yc jiU d.1/\(wc jiU d.1).length<=100000/\(bN gu (wc jiU d.1),())=(qo d.1,())/\()=()
def KH:q7:=⟨[.val tSh,.own (.box 157 [.map .int .int]) true],[.cl (.dat .bool)],fun d=>[XU d.2.1.1],fun d=>((Re d.2.1.1 d.1,()),((nK d.2.1.1 d.1,()),()))⟩
abbrev jiV (d:ShD×(List (Int×Int)×Unit)×Unit):=(wM (0:Int) (wA Ty.int d.1.1 d.2.1.1)+1)
def KI:Prop:=∀(d:ShD×(List (Int×Int)×Unit)×Unit),XU d.2.1.1->wm (jiV d)/\(decide (1<wM (0:Int) (wA Ty.int d.1.1 (fN Ty.int d.1.1 (jiV d) d.2.1.1))),())=(Re d.2.1.1 d.1,())/\((fN Ty.int d.1.1 (jiV d) d.2.1.1,()),())=((nK d.2.1.1 d.1,()),())
abbrev clV:Sh:= .fbox 126 157 [.map .int .int]
def eY:q7:=⟨[.val (.slice tSh),.own clV true],[.cl (.dat .int)],fun d=>[d.1.length<=100000,jd5 d.2.1.1],fun d=>((mX d.2.1.1 d.1,()),((re d.2.1.1 d.1,()),()))⟩
def eZ:Ann:=fun r=>match r with
 |2=>some fun σ=>{X:=Nat,sl:=fun i=>[(8,.dat .int (i:Int))],ob:=fun i=>[(400020,some (.map false .int .int (yT [] (gd (.slice tSh) σ 0) i)))],inv:=fun i=>i<=(gd (.slice tSh) σ 0).length/\∀b:Nat,b<i->tL [] (gd (.slice tSh) σ 0) b=false,mu:=fun i=>(gd (.slice tSh) σ 0).length-i}
 |_=>none
def fc:Prop:=∀(d:List ShD×(List (Int×Int)×Unit)×Unit),d.1.length<=100000->jd5 d.2.1.1->d.1.length<4611686018427387904->(∃(x:Nat),((0=(x:Int)/\True)/\d.2.1.1=yT [] d.1 x/\True)/\x<=d.1.length/\∀(b:Nat),b<x->tL [] d.1 b=false)/\∀(x:Nat),(x<=d.1.length/\∀(b:Nat),b<x->tL [] d.1 b=false)->(decide ((x:Int)<d.1.length)=true->0<=(x:Int)/\(x:Int)<d.1.length/\XU (yT [] d.1 x)/\(Re (yT [] d.1 x) (nth d.1 (x:Int).toNat)=true->((x:Int),())=(mX d.2.1.1 d.1,())/\((nK (yT [] d.1 x) (nth d.1 (x:Int).toNat),()),())=((re d.2.1.1 d.1,()),()))/\(Re (yT [] d.1 x) (nth d.1 (x:Int).toNat)=false->wm ((x:Int)+1)/\∃(a:Nat),(((x:Int)+1=(a:Int)/\True)/\(True/\True)/\nK (yT [] d.1 x) (nth d.1 (x:Int).toNat)=yT [] d.1 a/\True)/\(a<=d.1.length/\∀(b:Nat),b<a->tL [] d.1 b=false)/\d.1.length-a<d.1.length-x))/\(decide ((x:Int)<d.1.length)=false->((-1:Int),())=(mX d.2.1.1 d.1,())/\((yT [] d.1 x,()),())=((re d.2.1.1 d.1,()),()))
def cB:q7:=⟨[.val (.slice tSh),.own clV true],[.cl (.dat .bool)],fun d=>[d.1.length<=100000,jd5 d.2.1.1],fun d=>((decide (0<=mX d.2.1.1 d.1),()),((re d.2.1.1 d.1,()),()))⟩
def cC:Prop:=∀(d:List ShD×(List (Int×Int)×Unit)×Unit),d.1.length<=100000->jd5 d.2.1.1->d.1.length<=100000/\jd5 d.2.1.1/\(decide (0<=mX d.2.1.1 d.1),())=(decide (0<=mX d.2.1.1 d.1),())/\((re d.2.1.1 d.1,()),())=((re d.2.1.1 d.1,()),())
def Sf:wQ:=⟨[.val (.slice tSh)],[.bool],false,fun d=>[d.1.length<=100000],fun d=>(Un d.1,())⟩
def Sg:Prop:=∀(d:List ShD×Unit),d.1.length<=100000->d.1.length<=100000/\jd5 []/\(decide (0<=mX [] d.1),())=(Un d.1,())
def EX:wQ:=⟨[.val tDy],[.int],false,fun _=>[],fun d=>(xa d.1,())⟩
def EY:Ann:=fun r=>match r with
 |5=>some fun σ=>{X:=Nat,sl:=fun i=>[(17,.dat .int (i:Int))],ob:=fun _=>[],inv:=fun i=>i<=(gd (.slice tBk) σ 15).length/\∀b:Nat,b<i->qb (wq (gd tDy σ 0)) (yS (nth (gd (.slice tBk) σ 15) b))=true,mu:=fun i=>(gd (.slice tBk) σ 15).length-i}
 |_=>none
abbrev jiW:=((0:Int),(1:Int),(0:Int),(0:Int),(0:Int),(1:Int),())
def EZ:Prop:=∀(d:DyD×Unit),(decide (vE d.1.1 jiW≠0)=true->(vE d.1.1 jiW,())=(xa d.1,()))/\(decide (vE d.1.1 jiW≠0)=false->d.1.2.2.1.length<4611686018427387904->(∃(x:Nat),((0=(x:Int)/\True)/\True)/\x<=d.1.2.2.1.length/\∀(b:Nat),b<x->qb (wq d.1) (yS (nth d.1.2.2.1 b))=true)/\∀(x:Nat),(x<=d.1.2.2.1.length/\∀(b:Nat),b<x->qb (wq d.1) (yS (nth d.1.2.2.1 b))=true)->(decide ((x:Int)<d.1.2.2.1.length)=true->0<=(x:Int)/\(x:Int)<d.1.2.2.1.length/\(decide (vE d.1.1 (nth d.1.2.2.1 (x:Int).toNat).1≠0)=true->(vE d.1.1 (nth d.1.2.2.1 (x:Int).toNat).1,())=(xa d.1,()))/\(decide (vE d.1.1 (nth d.1.2.2.1 (x:Int).toNat).1≠0)=false->wm ((x:Int)+1)/\∃(a:Nat),(((x:Int)+1=(a:Int)/\True)/\True)/\(a<=d.1.2.2.1.length/\∀(b:Nat),b<a->qb (wq d.1) (yS (nth d.1.2.2.1 b))=true)/\d.1.2.2.1.length-a<d.1.2.2.1.length-x))/\(decide ((x:Int)<d.1.2.2.1.length)=false->((0:Int),())=(xa d.1,())))
def Si:wQ:=⟨[.val tDy],[.int],false,fun d=>[(w7 d.1).length<=100000],fun d=>(qe d.1,())⟩
def Sj:Prop:=∀(d:DyD×Unit),(w7 d.1).length<=100000->(decide (xa d.1≠0)=true->(xa d.1,())=(qe d.1,()))/\(decide (xa d.1≠0)=false->((!qv d.1)=true->((50:Int),())=(qe d.1,()))/\((!qv d.1)=false->d.1.q4.2.1.length<=100000/\(qo d.1.q4.2.1).length<=100000/\(Un (qo d.1.q4.2.1)=true->((51:Int),())=(qe d.1,()))/\(Un (qo d.1.q4.2.1)=false->((0:Int),())=(qe d.1,()))))
theorem Sk:NP:=by
 intro d;rfl
theorem pO:wV PR 120 NO:=wK Sk Tryz.func120 kcN koN
theorem pP:nR:=by
 rintro⟨l,f,⟨⟩⟩ a g;refine⟨⟨0,⟨⟨rfl,tZ⟩,tZ⟩,jl _,fun b c=>by omega⟩,fun i hi=>⟨fun h=> ?_,fun h=> ?_⟩⟩;have h:i<l.length:=(by simpa using h);simp only[jw] at*;refine⟨by omega,by omega,vV _ (a _ (L.wh h)) ⟨fun c=> ?_,fun c=>⟨iZ6,i+1,⟨⟨by simp,tZ⟩,tZ⟩,⟨by omega,fun b d=> ?_⟩,by omega⟩⟩⟩;rw[yt (p:=wb (α:=SpD) f.F) h hi.2 c];by_cases e:b=i;subst e;exact c;exact hi.2 b (by omega);have h:l.length<=i:=(by simpa using h);rw[q8 (p:=wb (α:=SpD) f.F) h hi.2]
theorem nV:wV PR 192 nP:=qY nQ pP Tryz.func192 kcN koN
theorem lB:iz:=by
 rintro⟨l,f,⟨⟩⟩ a;refine⟨a,?_⟩;exact jF (·,()) (iv (wb (α:=SpD) f.F) l)
theorem iD:wV PR 160 iy:=wK lB Tryz.func160 (kcC nV kcN) koN
theorem nW:mB:=by
 rintro⟨l,f,⟨⟩⟩ a g;refine⟨⟨0,⟨⟨rfl,tZ⟩,tZ⟩,jl _,fun b c=>by omega⟩,fun i hi=>⟨fun h=> ?_,fun h=> ?_⟩⟩;have h:i<l.length:=(by simpa using h);simp only[jw] at*;refine⟨by omega,by omega,vV _ (a _ (L.wh h)) ⟨fun c=> ?_,fun c=>⟨iZ6,i+1,⟨⟨by simp,tZ⟩,tZ⟩,⟨by omega,fun b d=> ?_⟩,by omega⟩⟩⟩;rw[yt (p:=wb (α:=(List SpD)) f.F) h hi.2 c];by_cases e:b=i;subst e;exact c;exact hi.2 b (by omega);have h:l.length<=i:=(by simpa using h);rw[q8 (p:=wb (α:=(List SpD)) f.F) h hi.2]
theorem mF:wV PR 193 mz:=qY mA nW Tryz.func193 kcN koN
theorem iF:eU:=by
 rintro⟨l,f,⟨⟩⟩ a;refine⟨a,?_⟩;exact jF (·,()) (iv (wb (α:=(List SpD)) f.F) l)
theorem ff:wV PR 162 eR:=wK iF Tryz.func162 (kcC mF kcN) koN
theorem lC:iC:=by
 rintro⟨l,f,⟨⟩⟩ a g;refine⟨⟨0,⟨⟨rfl,tZ⟩,tZ⟩,jl _,fun b c=>by omega⟩,fun i hi=>⟨fun h=> ?_,fun h=> ?_⟩⟩;have h:i<l.length:=(by simpa using h);simp only[jw] at*;refine⟨by omega,by omega,vV _ (a _ (L.wh h)) ⟨fun c=> ?_,fun c=>⟨iZ6,i+1,⟨⟨by simp,tZ⟩,tZ⟩,⟨by omega,fun b d=> ?_⟩,by omega⟩⟩⟩;rw[yt (p:=wb (α:=BkD) f.F) h hi.2 c];by_cases e:b=i;subst e;exact c;exact hi.2 b (by omega);have h:l.length<=i:=(by simpa using h);rw[q8 (p:=wb (α:=BkD) f.F) h hi.2]
theorem iG:wV PR 194 iA:=qY iB lC Tryz.func194 kcN koN
theorem dR:cX:=by
 rintro⟨l,f,⟨⟩⟩ a;refine⟨a,?_⟩;exact jF (·,()) (iv (wb (α:=BkD) f.F) l)
theorem cY:wV PR 164 cW:=wK dR Tryz.func164 (kcC iG kcN) koN
theorem nX:mE:=by
 rintro⟨l,f,⟨⟩⟩ a g;refine⟨⟨0,⟨⟨rfl,tZ⟩,tZ⟩,jl _,fun b c=>by omega⟩,fun i hi=>⟨fun h=> ?_,fun h=> ?_⟩⟩;have h:i<l.length:=(by simpa using h);simp only[jw] at*;refine⟨by omega,by omega,vV _ (a _ (L.wh h)) ⟨fun c=> ?_,fun c=>⟨iZ6,i+1,⟨⟨by simp,tZ⟩,tZ⟩,⟨by omega,fun b d=> ?_⟩,by omega⟩⟩⟩;rw[yt (p:=wb (α:=ShD) f.F) h hi.2 c];by_cases e:b=i;subst e;exact c;exact hi.2 b (by omega);have h:l.length<=i:=(by simpa using h);rw[q8 (p:=wb (α:=ShD) f.F) h hi.2]
theorem mG:wV PR 167 mC:=qY mD nX Tryz.func167 kcN koN
theorem iH:eX:=by
 rintro⟨l,f,⟨⟩⟩ a;refine⟨a,?_⟩;exact jF (·,()) (iv (wb (α:=ShD) f.F) l)
theorem fg:wV PR 125 eV:=wK iH Tryz.func125 (kcC mG kcN) koN
theorem Aj:uq:=by
 intro d h;exact vV _ h rfl
theorem uu:wV PR 161 uo:=wK Aj Tryz.func161 kcN koN
theorem E0:Dd:=by
 intro d h;exact⟨fun g a=>⟨h g a,tZ⟩,jF (·,()) (sB d.snd.fst.2 d.fst)⟩
theorem Dg:wV PR 118 Dc:=wK E0 Tryz.func118 (kcC iD (kcC uu kcN)) koN
theorem uv:sK:=by
 intro d h;exact vV _ h rfl
theorem sR:wV PR 163 sJ:=wK uv Tryz.func163 kcN koN
theorem Dh:Ae:=by
 intro d h;exact⟨fun g a=>⟨h g a,tZ⟩,jF (·,()) (sB d.snd.fst.2 d.fst)⟩
theorem Ak:wV PR 122 Ad:=wK Dh Tryz.func122 (kcC ff (kcC sR kcN)) koN
theorem pQ:nT:=by
 intro d h;exact vV _ h rfl
theorem nY:wV PR 165 nS:=wK pQ Tryz.func165 kcN koN
theorem uw:sM:=by
 intro d h;exact⟨fun g a=>⟨h g a,tZ⟩,jF (·,()) (sB d.snd.fst.2 d.fst)⟩
theorem sS:wV PR 123 sL:=wK uw Tryz.func123 (kcC cY (kcC nY kcN)) koN
theorem ux:sO:=by
 intro d h;exact vV _ h rfl
theorem sT:wV PR 166 sN:=wK ux Tryz.func166 kcN koN
theorem Di:Ag:=by
 intro d h;exact⟨fun g a=>⟨h g a,tZ⟩,jF (·,()) (sB d.snd.fst.2 d.fst)⟩
theorem Al:wV PR 124 Af:=wK Di Tryz.func124 (kcC fg (kcC sT kcN)) koN
theorem NS:Kz:=fun _=>rfl
theorem KJ:wV PR 116 Ky:=wK NS Tryz.func116 kcN koN
theorem NU:KB:=by
 rintro⟨l,d,f,⟨⟩⟩ a _ _;exact⟨fun _=>a,rfl⟩
theorem KK:wV PR 117 KA:=wK NU Tryz.func117 (kcC Dg kcN) koN
theorem NV:KE:=by
 rintro⟨b,d,⟨⟩⟩ h;have h:(w6 d).length<4611686018427387904:=h;exact⟨L.FU (by show _<=((w6 d).length:Int)-1;omega) (by show((w6 d).length:Int)-1<=_;omega),rfl⟩
theorem KL:wV PR 119 KC:=wK NV Tryz.func119 (kcC pO kcN) koN
theorem NW:KG:=by
 unfold KG jjz jjy Prod.q4;rintro⟨s,d,⟨⟩⟩ h;refine⟨fun a=> ?_,fun b=>⟨fun a=> ?_,rfl⟩⟩;have h:=h a;exact L.FU (by simp only at*;omega) (by simp only at*;omega);have h:=b a;exact L.FU (by simp only at*;omega) (by simp only at*;omega)
theorem KM:wV PR 121 KF:=wK NW Tryz.func121 (kcC pO kcN) koN
theorem Y5 (s:SpD):xJ s=tG s:=by
 unfold xJ tG;rw[j0];simp only[ji,jp];omega
theorem Y6 (n:Nat) (b:BkD):En n b=mT n b:=by
 unfold En mT k8;rw[j0];simp only[ji,jp];omega
theorem Y7 (nb a:Nat) (s:ShD):Mb nb a s=mU nb a s:=by
 unfold Mb mU k8;rw[j0];simp only[ji,jp];omega
theorem Y8 (d:DyD):(((((((decide (((wo d).length:Int)<=4)&&k8 ((w6 d).length:Int) 1 5)&&(w6 d).all (fun r=>decide ((r.length:Int)=(w6 d).length)&&r.all tG))&&(wo d).all (mT (w6 d).length))&&k8 (A0 d) 0 300)&&k8 (Z5 d) 0 1440)&&decide (((w7 d).length:Int)<=30))&&(w7 d).all (mU (wo d).length (wi (wq d)).length))=qv d:=by
 unfold qv;have e:(fun(r:List SpD)=>decide ((r.length:Int)=(w6 d).length)&&r.all tG)=cJ (w6 d).length:=by
  funext r;unfold cJ;congr 1;exact decide_eq_decide.2 (by omega)
 rw[e];cases (w6 d).all (cJ (w6 d).length)<;>cases (wo d).all (mT (w6 d).length)<;>cases (w7 d).all (mU (wo d).length (wi (wq d)).length)<;>simp only[kx,Bool.and_true,Bool.false_and,k8]
 rw[j0];simp only[ji,jp];omega
theorem V6:Se:=by
 unfold Se jhG jij jhf jiT Prod.q4;rintro⟨d,⟨⟩⟩ _ _;refine⟨fun _ _ _=>⟨fun _ _=>tZ,tZ⟩,fun _ _ _=>tZ,fun _=>⟨fun _ _ _=>tZ,?_⟩⟩;have a:(wb fun(x:SpD×Unit)=>(xJ x.fst,()))=tG:=funext Y5;have e2:(wb fun(x:BkD×Unit)=>(En (w6 d).length x.fst,()))=mT (w6 d).length:=funext (Y6 _);have b:(wb fun(x:ShD×Unit)=>(Mb (wo d).length (wi (wq d)).length x.fst,()))=mU (wo d).length (wi (wq d)).length:=funext (Y7 _ _);simp only;rw[a,e2,b];exact jF (·,()) (Y8 d)
theorem Sl:wV PR 81 Sd:=wK V6 Tryz.func81 (kcC pO (kcC KJ (kcC KK (kcC KL (kcC KM (kcC Ak (kcC sS (kcC Al kcN)))))))) koN
theorem Dj:Ai:=by
 intro d;simp
theorem Am:wV PR 141 Ah:=wK Dj Tryz.func141 kcN koN
theorem uy:sQ:=by
 unfold sQ jhg;rintro⟨a,b,⟨⟩⟩;refine⟨fun h=>(by cases h),fun _=>⟨fun h=>(by cases h),fun _=>⟨fun h=> ?_,fun h=>⟨fun c=> ?_,fun c=> ?_⟩⟩⟩⟩;have h:a<b:=ja h;simp only;unfold cT;rw[jg h];have h:¬a<b:=jc h;have c:b<a:=ja c;simp only;unfold cT;rw[jd h,jg c];have h:¬a<b:=jc h;have c:¬b<a:=jc c;simp only;unfold cT;rw[jd h,jd c]
theorem y4:wV PR 99 sP:=wK uy Tryz.func99 (kcC Am kcN) koN
theorem Sm {l:List Int} {i:Nat} (h:i<l.length) (a:∀b:Nat,b<i->nth l b=0) (hi:nth l i≠0):y7 l=nth l i:=by
 have e:l.find? (fun n=>decide (n≠0))=some (nth l i):=by
  rw[List.find?_eq_some_iff_getElem];refine⟨jG hi,i,h,by rw[L.qM h],fun j c=> ?_⟩;have:=a j c;rw[L.qM (by omega)] at this;simp[this]
 unfold y7;rw[e]
theorem KN {l:List Int} (a:∀b:Nat,b<l.length->nth l b=0):y7 l=0:=by
 have e:l.find? (fun n=>decide (n≠0))=none:=by
  rw[List.find?_eq_none];intro x c;obtain⟨i,hi,rfl⟩:=L.mem_iff.1 c;simp[a i hi]
 unfold y7;rw[e]
theorem KO:H5:=by
 rintro⟨l,⟨⟩⟩ f;refine⟨⟨0,⟨⟨rfl,tZ⟩,tZ⟩,jl _,fun b c=>by omega⟩,fun x d=>⟨fun h=> ?_,fun h=> ?_⟩⟩;have h:x<l.length:=(by simpa using h);simp only[jw];refine⟨by omega,by omega,fun a=> ?_,fun a=>⟨L.FU (by omega) (by simp only at f;omega),x+1,⟨⟨by simp,tZ⟩,tZ⟩,⟨h,fun b c=> ?_⟩,by omega⟩⟩;rw[Sm h d.2 (ja a)];by_cases e:b=x;subst e;exact jN.1 (jc a);exact d.2 b (by omega);have h:l.length<=x:=(by simpa using h);rw[KN (fun b c=>d.2 b (by simp only at c;omega))]
theorem b8:wV PR 98 H3:=qY H4 KO Tryz.func98 kcN koN
theorem E1:Df:=fun _=>rfl
theorem Dk:wV PR 129 De:=wK E1 Tryz.func129 (kcC y4 (kcC b8 kcN)) koN
theorem Sn:NR:=fun _=>rfl
theorem NX:wV PR 181 NQ:=wK Sn Tryz.func181 (kcC y4 (kcC b8 kcN)) koN
theorem An:ut:=by
 rintro⟨l,⟨⟩⟩ b β a;have b:l.length<=100000:=b;refine⟨fun h=>⟨?_,rfl⟩,fun _=>⟨by simp only;omega,by simp,rfl⟩⟩;have:l=[]:=a h;rw[this]
theorem uz:gX PR 127 ur:=CN An Tryz.func127 kcN koN
theorem sU:pN:=by
 unfold pN jhH jf9 jjB jjA jfQ;rintro⟨l,⟨⟩⟩ m C;have m:l.length<=100000:=m;obtain⟨eq,k⟩:∃eq,eq=gu:=⟨_,rfl⟩;have A:∀a b:ShD,decide (a=b)=eq a b:=fun a b=>by rw[k];rfl
 simp only[<-k,A,jw];refine⟨fun h=>⟨?_,tZ⟩,fun h=> ?_⟩;have h:(l.length:Int)<2:=ja h;rw[L.comp_short (by omega)];have h:¬(l.length:Int)<2:=jc h;refine⟨⟨1,⟨⟨rfl,tZ⟩,tZ⟩,jj _,by omega,?_⟩,fun i hi _=>⟨fun g=> ?_,fun g=>⟨?_,tZ⟩⟩⟩;rw[L.comp_short];rw[j6];omega;have g:(i:Int)<l.length:=ja g;obtain⟨s,D,f⟩:=hi;have z:((i:Int)-1).toNat=i-1:=(by omega);rw[z];have n:=L.comp_take (eq:=eq) (l:=l) s (by omega:i<l.length);refine⟨by omega,g,by unfold wm;omega,by omega,by omega,fun j=>⟨by omega,by omega,zN _,⟨(1,l),⟨⟨rfl,?_,tZ⟩,rfl,tZ⟩,jj _,by omega,rfl,?_,rfl,?_⟩,fun x q _=>⟨fun e=> ?_,fun e=> ?_⟩⟩,fun j=>⟨iZ6,i+1,⟨⟨by simp,tZ⟩,tZ⟩,⟨by omega,by omega,?_⟩,by omega⟩⟩;unfold oI;rw[n,jg j,jZ,f,j6];omega;rw[n,jg j,jZ,f,j6];show l.take i=l.take (min i l.length);congr 1;omega;rw[n,jg j,jZ,f,j6];omega;have e:(x.1:Int)<((l.length-i:Nat):Int):=ja e;have r:=q;obtain⟨G,H,I,v,J,w⟩:=r;obtain⟨E,F⟩:=L.inv9_next s q (by omega);have y:((x.1:Int)-1).toNat=x.1-1:=(by omega);have o:i+(x.1-1)=i+x.1-1:=(by omega);rw[y,o];have p:oI eq l (i+x.1)=((bN eq (l.take (i+x.1))).length:Int):=rfl;refine⟨by omega,e,by unfold wm;omega,by omega,by omega,fun c=> ?_,fun c=> ?_⟩;have c:eq (nth x.2 (i+x.1)) (nth x.2 (i+x.1-1))=false:=(by simpa using c);obtain⟨t,u⟩:=E c;refine⟨by omega,e,by omega,by omega,by unfold wm;omega,iZ6,(x.1+1,_),⟨⟨by simp,t.symm,tZ⟩,rfl,tZ⟩,u,by show _-(x.1+1)<_;omega⟩;have c:eq (nth x.2 (i+x.1)) (nth x.2 (i+x.1-1))=true:=(by simpa using c);obtain⟨t,u⟩:=F c;exact⟨iZ6,(x.1+1,x.2),⟨⟨t.symm,by simp,tZ⟩,rfl,tZ⟩,u,by show _-(x.1+1)<_;omega⟩;have e:¬(x.1:Int)<((l.length-i:Nat):Int):=jc e;obtain⟨G,H,I,v,J,w⟩:=q;have p:oI eq l (i+x.1)=((bN eq (l.take (i+x.1))).length:Int):=rfl;have d:l.take (i+x.1)=l:=zv (by omega);rw[d] at p v w;rw[p];simp only[jw];have B:=L.comp_len (eq:=eq) l;refine⟨by omega,by omega,zN _,by omega,by omega,by omega,?_,⟨?_,tZ⟩⟩;simp only[jI,j6,zu];omega;congr 1;rw[show(bN eq l).length-Int.toNat 0=(bN eq l).length from rfl];rw[List.take_left' (by rw[j6];omega)];exact v.symm;rw[n,jd (by rw[j];simp),f];exact(L.wO (by omega)).symm;have g:¬(i:Int)<l.length:=jc g;obtain⟨s,D,f⟩:=hi;have d:l.take i=l:=zv (by omega);rw[d] at f;rw[f]
theorem pR:gX PR 130 pL:=sA pM sU Tryz.func130 kcN koN
theorem bR:gX PR 128 nU:=
 CM Tryz.sortSh 134 rfl (jy (by kernel_rfl)) Tryz.isAgg134 Tryz.sizeOf134 (vK Tryz.func128 (c:=qf Tryz.f128) (by kernel_rfl) (by kernel_rfl))
theorem Y9:iw dH:=by
 have e:dH=Uk (fun a b=>cT (gx a) (gx b)) (Uk (fun a b=>cT (Ez a) (Ez b)) (Uk (fun a b=>cT (XS a) (XS b)) (Uk (fun a b=>cT (lL a) (lL b)) (fun a b=>cT (ao a) (ao b))))):=by
  funext a b;unfold dH;simp only[qm,Uk]
  split<;>(try rfl);split<;>(try rfl);split<;>(try rfl);split<;>(try rfl);split<;>(try rfl)
  rename_i h;exact(jN.1 h).symm
 rw[e];exact pK (oE mw gx) (pK (oE mw Ez) (pK (oE mw XS) (pK (oE mw lL) (oE mw ao))))
theorem So {a b:ShD} (h:dH a b=0):a=b:=by
 unfold dH at h;rw[qm] at h
 split at h
 contradiction;rename_i c;rw[qm] at h
 split at h
 contradiction;rename_i d;rw[qm] at h
 split at h
 contradiction;rename_i e;rw[qm] at h
 split at h
 contradiction;rename_i f;rw[vL] at h;have c:=bh.1 (jN.1 c);have d:=bh.1 (jN.1 d);have e:=bh.1 (jN.1 e);have f:=bh.1 (jN.1 f);have g:=bh.1 h;obtain⟨i,j,k,l,m,⟨⟩⟩:=a;obtain⟨n,o,p,q,r,⟨⟩⟩:=b;have c:i=n:=c;have d:j=o:=d;have e:k=p:=e;have f:l=q:=f;have g:m=r:=g;rw[c,d,e,f,g]
theorem Za (l:List ShD):yc (wd tSh fun x=>(dH x.1 x.2.1,())) l:=Bk Y9 (fun _ _ _ _ h=>So h)
theorem V7 (l:List ShD):(qo l).length<=l.length:=by
 unfold qo;refine jE (L.comp_len _) ?_;rw[(qc l).length_eq];exact jj _
theorem KP:H7:=by
 unfold H7 jiU;rintro⟨l,⟨⟩⟩ a;exact⟨a,fun _ _ _ _=>tZ,Za l,by rw[(qc (lt:=wd tSh fun x=>(dH x.1 x.2.1,())) l).length_eq];exact a,rfl,rfl⟩
theorem sV:gX PR 83 H6:=CN KP Tryz.func83 (kcC Dk kcN) (koC uz (koC bR (koC pR koN)))
theorem NY:KI:=by
 unfold KI jiV;rintro⟨s,⟨m,⟨⟩⟩,⟨⟩⟩ h;have h:XU m:=h;have:=h (gx s);have this:0<=wM 0 (wA .int s.1 m)/\wM 0 (wA .int s.1 m)<=200000:=this;exact⟨L.FU (by simp only;omega) (by simp only;omega),rfl,rfl⟩
theorem KQ:gX PR 126 KH:=CN NY Tryz.func126 kcN koN
theorem fh {m:List (Int×Int)} {l:List ShD} {i:Nat} (h:i<l.length):yT m l (i+1)=nK (yT m l i) (nth l i):=by
 unfold yT;rw[L.wO h,jU];rfl
theorem jav (l:List ShD):∀i,i<=l.length->∀k,0<=wM 0 (wA .int k (yT [] l i))/\wM 0 (wA .int k (yT [] l i))<=(i:Int)
 |0,_,k=>⟨zN 0,zN 0⟩
 |i+1,hi,k=>by
  have b:=jav l i (by omega)
  rw[fh (by omega)]
  unfold nK
  by_cases e:k=gx (nth l i)
  rw[e]
  have a:=M.rm (kt:= .int) (gx (nth l i)) (wM 0 (wA .int (gx (nth l i)) (yT [] l i))+1) (yT [] l i)
  rw[a]
  have:=b (gx (nth l i))
  show 0<=wM 0 (wA .int (gx (nth l i)) (yT [] l i))+1/\wM 0 (wA .int (gx (nth l i)) (yT [] l i))+1<=_
  omega
  have a:=M.dZ (kt:= .int) (k:=gx (nth l i)) (k':=k) e (wM 0 (wA .int (gx (nth l i)) (yT [] l i))+1) (yT [] l i)
  rw[a]
  have:=b k
  omega
theorem Zb {m:List (Int×Int)} {l:List ShD} {i:Nat} (h:i<l.length) (a:∀b:Nat,b<i->tL m l b=false) (hi:tL m l i=true):mX m l=(i:Int)/\XT m l=i+1:=by
 have e:(List.range l.length).findIdx? (tL m l)=some i:=by
  rw[zY];refine⟨by simpa using h,by simpa using hi,fun j c=>by simp[a j c]⟩
 unfold mX XT gy;rw[e];exact⟨rfl,rfl⟩
theorem GH {m:List (Int×Int)} {l:List ShD} (a:∀b:Nat,b<l.length->tL m l b=false):mX m l= -1/\XT m l=l.length:=by
 have e:(List.range l.length).findIdx? (tL m l)=none:=by
  rw[kw];intro x c;exact a x (jD.1 c)
 unfold mX XT gy;rw[e];exact⟨rfl,rfl⟩
theorem iI:fc:=by
 rintro⟨l,⟨m,⟨⟩⟩,⟨⟩⟩ j f n;have f:m=[]:=f;subst f;have j:l.length<=100000:=j;refine⟨⟨0,⟨⟨rfl,tZ⟩,rfl,tZ⟩,jl _,fun b i=>by omega⟩,fun x a=>⟨fun h=> ?_,fun h=> ?_⟩⟩;have h:x<l.length:=(by simpa using h);simp only[jw];refine⟨by omega,by omega,fun k=> ?_,fun d=> ?_,fun d=>⟨iZ6,x+1,⟨⟨by simp,tZ⟩,⟨tZ,tZ⟩,(fh h).symm,tZ⟩,⟨h,fun b i=> ?_⟩,by omega⟩⟩;have:=jav l x (by omega) k;omega;obtain⟨c,e2⟩:=Zb h a.2 d;unfold re;rw[c,e2,fh h];exact⟨rfl,rfl⟩;by_cases e:b=x;subst e;exact d;exact a.2 b (by omega);have h:l.length<=x:=(by simpa using h);obtain⟨c,e2⟩:=GH (m:=[]) (l:=l) (fun b i=>a.2 b (by omega));have g:x=l.length:=(by have:=a.1;simp only at this;omega);unfold re;rw[c,e2,g];exact⟨rfl,rfl⟩
theorem fi:gX PR 167 eY:=sA eZ iI Tryz.func167 kcN (koC KQ koN)
theorem cZ:cC:=fun _ a b=>⟨a,b,rfl,rfl⟩
theorem cD:gX PR 125 cB:=CN cZ Tryz.func125 kcN (koC fi koN)
theorem V8:Sg:=fun _ h=>⟨h,rfl,rfl⟩
theorem Sp:wV PR 82 Sf:=wK V8 Tryz.func82 kcN (koC cD koN)
theorem Zc {c:CrD} (h:wt c=true):qb c (0,1,0,0,0,1,())=true:=by
 obtain⟨a,_⟩:=w4 h;unfold qb;refine jG ?_;refine⟨by decide,?_,by decide,?_,by decide,by decide,by decide,by decide,by decide,by decide,by decide,by decide,by decide⟩;show(0:Int)<=U.la c-1;omega;show(1:Int)<=U.la c-1;omega
theorem V9 (c:CrD):vE c (0,1,0,0,0,1,())=if wt c=false then 30 else 0:=by
 unfold vE;by_cases h:wt c=false;rw[jg h,jg h];rw[jd h,jd h,jd (by rw[Zc (by simpa using h)];simp)]
theorem H8:EZ:=by
 unfold EZ jiW;rintro⟨d,⟨⟩⟩;have e:=V9 d.1;simp only[e];by_cases f:wt d.1=false;rw[jg f];refine⟨fun _=> ?_,fun h=>by simp at h⟩;have f:wt (wq d)=false:=f;unfold xa;rw[jg f];rw[jd f];have c:wt (wq d)=true:=eq_true_of_ne_false f;refine⟨fun h=>by simp at h,fun _ k=>⟨⟨0,⟨⟨rfl,tZ⟩,tZ⟩,jl _,fun b j=>by omega⟩,fun x l=>⟨fun h=> ?_,fun h=> ?_⟩⟩⟩;have h:(x:Int)<(wo d).length:=ja h;have h:x<(wo d).length:=(by omega);have k:(wo d).length<4611686018427387904:=k;have e2:vE d.1 (nth d.2.2.1 x).1=if qb (wq d) (yS (nth (wo d) x))=false then 31 else 0:=by
  show(if wt (wq d)=false then(30:Int) else if qb (wq d) (yS (nth (wo d) x))=false then 31 else 0)=_;rw[jd (by rw[c];simp)]
 simp only[jw,e2];refine⟨by omega,by show(x:Int)<(wo d).length;omega,fun a=> ?_,fun a=>⟨iZ6,x+1,⟨⟨by simp,tZ⟩,tZ⟩,⟨h,fun b j=> ?_⟩,(by show(wo d).length-(x+1)<(wo d).length-x;omega)⟩⟩;have a:=ja a;by_cases g:qb (wq d) (yS (nth (wo d) x))=false;rw[jg g];unfold xa;rw[jd (by rw[c];simp),jg];unfold I4;exact L.all_false h g;rw[jd g] at a;exact absurd rfl a;have a:=jc a;by_cases m:b=x;subst m;by_cases g:qb (wq d) (yS (nth (wo d) b))=false;rw[jg g] at a;exact absurd (by decide) a;exact eq_true_of_ne_false g;exact l.2 b (by omega);have h:¬(x:Int)<(wo d).length:=jc h;have h:(wo d).length<=x:=(by omega);unfold xa;rw[jd (by rw[c];simp),jd];rw[Bool.not_eq_false];unfold I4;rw[jT];intro b j;obtain⟨i,hi,rfl⟩:=L.mem_iff.1 j;exact l.2 i (by omega)
theorem E2:wV PR 80 EX:=qY EY H8 Tryz.func80 (kcC GD kcN) koN
theorem Wa:Sj:=by
 unfold Sj Prod.q4;rintro⟨d,⟨⟩⟩ c;refine⟨fun h=> ?_,fun h=>⟨fun b=> ?_,fun b=>⟨c,jE (V7 _) c,fun a=> ?_,fun a=> ?_⟩⟩⟩;have h:=ja h;simp only at h⊢;unfold qe;rw[jg h];have h:=jc h;simp only at h⊢;unfold qe;rw[jd h,jg (by simpa using b)];have h:=jc h;simp only at h⊢;unfold qe;rw[jd h,jd (by simpa using b)];have a:Un (qo (w7 d))=true:=a;rw[jg a];have h:=jc h;simp only at h⊢;unfold qe;rw[jd h,jd (by simpa using b)];have a:Un (qo (w7 d))=false:=a;rw[jd (by rw[a];simp)]
theorem GI:wV PR 50 Si:=wK Wa Tryz.func50 (kcC E2 (kcC Sl (kcC Sp kcN))) (koC sV koN)
namespace U
def Ub {α:Type} [Inhabited α] (l:List α) (j k:Nat):List α:=(l.set j (nth l k)).set k (nth l j)
def oj {α:Type} [Inhabited α] (lt:α->α->Bool):List α->Nat->List α
 |l,0=>l
 |l,j+1=>if lt (nth l (j+1)) (nth l j)=true then oj lt (Ub l (j+1) j) j else l
def dW {α:Type} [Inhabited α] (lt:α->α->Bool) (l:List α) (i:Nat):List α:=(List.range i).foldl (oj lt) l
def lg {α:Type} [Inhabited α] (lt:α->α->Bool) (l:List α):List α:=dW lt l l.length
def rg {α:Type} (lt:α->α->Bool) (x:α):List α->List α
 |[]=>[x]
 |y::r=>if lt x y=true then y::rg lt x r else x::y::r
end U
namespace IS
variable {α:Type} [Inhabited α] {lt:α->α->Bool}
theorem swap_perm {l:List α} {j k:Nat} (a:j<l.length) (hk:k<l.length):(Ub l j k).Perm l:=by
 unfold Ub;rw[L.qM a,L.qM hk];exact List.set_set_perm a hk
theorem sink_perm:∀(j:Nat) (l:List α),j<l.length->(oj lt l j).Perm l
 |0,l,_=>List.Perm.refl _
 |j+1,l,h=>by
  unfold oj
  have a:=swap_perm (l:=l) (j:=j+1) (k:=j) h (by omega)
  split
  exact(sink_perm j _ (by rw[a.length_eq];omega)).trans a
  exact List.Perm.refl _
theorem part_succ (lt:α->α->Bool) (l:List α) (i:Nat):dW lt l (i+1)=oj lt (dW lt l i) i:=by
 simp[dW,zc]
theorem part_perm {l:List α}:∀(i:Nat),i<=l.length->(dW lt l i).Perm l
 |0,_=>List.Perm.refl _
 |i+1,h=>by
  rw[part_succ]
  have a:=part_perm (l:=l) i (by omega)
  exact(sink_perm i _ (by rw[a.length_eq];omega)).trans a
theorem isort_perm (lt:α->α->Bool) (l:List α):(lg lt l).Perm l:=part_perm _ (jj _)
theorem part_isort {l:List α} {i:Nat} (a:1<=i) (b:i<=max l.length 1) (c:l.length<=i):dW lt l i=lg lt l:=by
 unfold lg;by_cases h:l.length=0;have:i=1:=(by omega);subst this;rw[h];rfl;have:i=l.length:=(by omega);rw[this]
theorem insR_len {α:Type} {lt:α->α->Bool} (x:α):∀q:List α,(rg lt x q).length=q.length+1
 |[]=>rfl
 |y::r=>by
  unfold rg
  split
  simp[insR_len x r]
  simp
theorem nth_mid (a:List α) (x:α) (s:List α):nth (a++x::s) a.length=x:=by
 rw[L.qM (by simp)];simp
theorem sink_app:∀(q:List α) (x:α) (s:List α),oj lt (q.reverse++x::s) q.length=(rg lt x q).reverse++s
 |[],x,s=>rfl
 |y::r,x,s=>by
  have e:(y::r).reverse++x::s=r.reverse++y::x::s:=by simp
  rw[e]
  have g:nth (r.reverse++y::x::s) (r.length+1)=x:=by
   have:=nth_mid (r.reverse++[y]) x s;simpa using this
  have h:nth (r.reverse++y::x::s) r.length=y:=by
   have:=nth_mid r.reverse y (x::s);simpa using this
  show(if lt (nth _ (r.length+1)) (nth _ r.length)=true then oj lt (Ub _ (r.length+1) r.length) r.length else _)=_;rw[g,h];unfold rg
  split
  .have a:Ub (r.reverse++y::x::s) (r.length+1) r.length=r.reverse++x::(y::s):=by
    unfold Ub;rw[g,h];apply List.ext_getElem?;intro k;simp only[kr,kg];by_cases b:r.length=k
    .subst b;rw[jg rfl,jg (by simp)];rw[jx (by simp)];simp
    .rw[jd b];by_cases c:r.length+1=k
     .subst c;rw[jg rfl,jg (by simp)];rw[jx (by simp)];simp
     .rw[jd c];by_cases f:k<r.length
      .rw[jA (by simpa using f),jA (by simpa using f)]
      .rw[jx (by simp;omega),jx (by simp;omega)];obtain⟨d,i⟩:∃d,k-r.reverse.length=d+2:=⟨k-r.length-2,by simp;omega⟩;rw[i];simp
   rw[a,sink_app r x (y::s)];simp
  .simp
theorem fold_len {α:Type} {lt:α->α->Bool}:∀(l q:List α),(l.foldl (fun q x=>rg lt x q) q).length=q.length+l.length
 |[],q=>rfl
 |x::l,q=>by
  simp only[List.foldl_cons,j8]
  rw[fold_len l,insR_len];omega
theorem part_eq (l:List α):∀i,i<=l.length->dW lt l i=((l.take i).foldl (fun q x=>rg lt x q) []).reverse++l.drop i
 |0,_=>by simp[dW]
 |i+1,h=>by
  rw[part_succ,part_eq l i (by omega)]
  have b:l.drop i=nth l i::l.drop (i+1):=by
   rw[L.qM (by omega)];exact z7 (by omega)
  rw[b];have a:((l.take i).foldl (fun q x=>rg lt x q) []).length=i:=(by rw[fold_len];simp;omega);have:=sink_app (lt:=lt) ((l.take i).foldl (fun q x=>rg lt x q) []) (nth l i) (l.drop (i+1));rw[a] at this;rw[this,L.wO (by omega),jU];rfl
theorem isort_eq (l:List α):lg lt l=(l.foldl (fun q x=>rg lt x q) []).reverse:=by
 unfold lg;rw[part_eq l _ (jj _)];simp
theorem insR_mem {α:Type} {lt:α->α->Bool} {x z:α}:∀{q:List α},z∈rg lt x q↔z=x\/z∈q
 |[]=>by simp[rg]
 |y::r=>by
  unfold rg
  split
  simp only[jk,insR_mem (q:=r)]
  constructor
  rintro(h|h|h)<;>simp[h]
  rintro(h|h|h)<;>simp[h]
  simp
theorem insR_desc {α:Type} {lt:α->α->Bool} {x:α}:∀{q:List α},yc lt (x::q)->q.Pairwise (fun a b=>lt a b=false)->(rg lt x q).Pairwise (fun a b=>lt a b=false)
 |[],_,_=>by simp[rg]
 |y::r,ho,h=>by
  rw[zA] at h
  unfold rg
  split
  rename_i d
  rw[zA]
  refine⟨fun z c=> ?_,insR_desc (ho.sub (fun z c=>by rcases jk.1 c with h|h;exact h▸zg;exact jm _ (jm _ h))) h.2⟩
  rcases insR_mem.1 c with rfl|c
  exact ho.asymm (by simp) (by simp) d
  exact h.1 z c
  rename_i d
  have d:lt x y=false:=by simpa using d
  rw[zA]
  refine⟨fun z c=> ?_,zA.2 h⟩
  rcases jk.1 c with rfl|c
  exact d
  exact ho.ntrans (by simp) (by simp) (by simp[c]) d (h.1 z c)
theorem fold_desc {α:Type} {lt:α->α->Bool}:∀(l q:List α),yc lt (l++q)->q.Pairwise (fun a b=>lt a b=false)->(l.foldl (fun q x=>rg lt x q) q).Pairwise (fun a b=>lt a b=false)
 |[],q,_,h=>h
 |x::l,q,ho,h=>by
  refine fold_desc l _ (ho.sub (fun z c=> ?_)) (insR_desc (ho.sub (fun z c=> ?_)) h)
  rcases jr.1 c with c|c
  simp[c]
  rcases insR_mem.1 c with rfl|c
  simp
  simp[c]
  rcases jk.1 c with rfl|c
  simp
  simp[c]
theorem isort_asc {l:List α} (a:yc lt l):RY lt (lg lt l):=by
 rw[isort_eq];unfold RY;rw[List.pairwise_reverse];exact fold_desc l [] (by simpa using a) (by simp)
theorem isort_sort {l:List α} (a:yc lt l):lg lt l=wc lt l:=sy a (isort_perm lt l) (isort_asc a)
end IS
end Go.X
namespace Go.X
open U
open Go.Proofs
def U.len8tab:ByteArray:=⟨#[0,1,2,2,3,3,3,3,4,4,4,4,4,4,4,4,5,5,5,5,5,5,5,5,5,5,5,5,5,5,5,5,6,6,6,6,6,6,6,6,6,6,6,6,6,6,6,6,6,6,6,6,6,6,6,6,6,6,6,6,6,6,6,6,7,7,7,7,7,7,7,7,7,7,7,7,7,7,7,7,7,7,7,7,7,7,7,7,7,7,7,7,7,7,7,7,7,7,7,7,7,7,7,7,7,7,7,7,7,7,7,7,7,7,7,7,7,7,7,7,7,7,7,7,7,7,7,7,8,8,8,8,8,8,8,8,8,8,8,8,8,8,8,8,8,8,8,8,8,8,8,8,8,8,8,8,8,8,8,8,8,8,8,8,8,8,8,8,8,8,8,8,8,8,8,8,8,8,8,8,8,8,8,8,8,8,8,8,8,8,8,8,8,8,8,8,8,8,8,8,8,8,8,8,8,8,8,8,8,8,8,8,8,8,8,8,8,8,8,8,8,8,8,8,8,8,8,8,8,8,8,8,8,8,8,8,8,8,8,8,8,8,8,8,8,8,8,8,8,8,8,8,8,8,8,8]⟩
abbrev rwI:Sh:= .cl (.row 3 .int .unk)
namespace U
abbrev FC:=Int×Int×Unit->Int×Unit
abbrev cf (F:FC):Int->Int->Bool:=wd .int F
def lh (p:Int×Int×Unit->List Prop) (l:List Int):Prop:=∀x∈l,∀y∈l,wy (p (x,y,()))
def rh (n:Int):Int:=if n=0 then 0 else if n<2 then 1 else if n<4 then 2 else if n<8 then 3 else 4
end U
def H9:wQ:=⟨[.val (.uint .u64)],[.int],false,fun d=>[0<=d.1/\d.1<=12],fun d=>(rh d.1,())⟩
abbrev jiX (d:Int×Unit):=(d.1/(2:Int)^Int.toNat 32/(2:Int)^Int.toNat 16/(2:Int)^Int.toNat 8)
abbrev jiY (d:Int×Unit):=(d.1/(2:Int)^Int.toNat 32/(2:Int)^Int.toNat 16)
abbrev jiZ (d:Int×Unit):=(d.1/(2:Int)^Int.toNat 32/(2:Int)^Int.toNat 8)
abbrev ji0 (d:Int×Unit):=(d.1/(2:Int)^Int.toNat 16/(2:Int)^Int.toNat 8)
abbrev jjC (d:Int×Unit):=(256<=d.1/(2:Int)^Int.toNat 32/(2:Int)^Int.toNat 16)
def Ia:Prop:=∀(d:Int×Unit),0<=d.1/\d.1<=12->(decide (4294967296<=d.1)=true->(0:Int)<=32/\(32:Int)<=64/\(decide (65536<=d.1/(2:Int)^Int.toNat 32)=true->(0:Int)<=16/\(16:Int)<=64/\wm ((32:Int)+16)/\(decide (jjC d)=true->(0:Int)<=8/\(8:Int)<=64/\wm ((32:Int)+16+8)/\0<=d.1/(2:Int)^Int.toNat 32/(2:Int)^Int.toNat 16/(2:Int)^Int.toNat 8/\d.1/(2:Int)^Int.toNat 32/(2:Int)^Int.toNat 16/(2:Int)^Int.toNat 8<=255/\0<=d.1/(2:Int)^Int.toNat 32/(2:Int)^Int.toNat 16/(2:Int)^Int.toNat 8/\d.1/(2:Int)^Int.toNat 32/(2:Int)^Int.toNat 16/(2:Int)^Int.toNat 8<(U.len8tab.size:Int)/\wm (aH U.len8tab (jiX d).toNat)/\wm ((32:Int)+16+8+aH U.len8tab (jiX d).toNat)/\((32:Int)+16+8+aH U.len8tab (jiX d).toNat,())=(rh d.1,()))/\(decide (jjC d)=false->0<=d.1/(2:Int)^Int.toNat 32/(2:Int)^Int.toNat 16/\d.1/(2:Int)^Int.toNat 32/(2:Int)^Int.toNat 16<=255/\0<=d.1/(2:Int)^Int.toNat 32/(2:Int)^Int.toNat 16/\d.1/(2:Int)^Int.toNat 32/(2:Int)^Int.toNat 16<(U.len8tab.size:Int)/\wm (aH U.len8tab (jiY d).toNat)/\wm ((32:Int)+16+aH U.len8tab (jiY d).toNat)/\((32:Int)+16+aH U.len8tab (jiY d).toNat,())=(rh d.1,())))/\(decide (65536<=d.1/(2:Int)^Int.toNat 32)=false->(decide (256<=d.1/(2:Int)^Int.toNat 32)=true->(0:Int)<=8/\(8:Int)<=64/\wm ((32:Int)+8)/\0<=d.1/(2:Int)^Int.toNat 32/(2:Int)^Int.toNat 8/\d.1/(2:Int)^Int.toNat 32/(2:Int)^Int.toNat 8<=255/\0<=d.1/(2:Int)^Int.toNat 32/(2:Int)^Int.toNat 8/\d.1/(2:Int)^Int.toNat 32/(2:Int)^Int.toNat 8<(U.len8tab.size:Int)/\wm (aH U.len8tab (jiZ d).toNat)/\wm ((32:Int)+8+aH U.len8tab (jiZ d).toNat)/\((32:Int)+8+aH U.len8tab (jiZ d).toNat,())=(rh d.1,()))/\(decide (256<=d.1/(2:Int)^Int.toNat 32)=false->0<=d.1/(2:Int)^Int.toNat 32/\d.1/(2:Int)^Int.toNat 32<=255/\0<=d.1/(2:Int)^Int.toNat 32/\d.1/(2:Int)^Int.toNat 32<(U.len8tab.size:Int)/\wm (aH U.len8tab (d.1/(2:Int)^Int.toNat 32).toNat)/\wm ((32:Int)+aH U.len8tab (d.1/(2:Int)^Int.toNat 32).toNat)/\((32:Int)+aH U.len8tab (d.1/(2:Int)^Int.toNat 32).toNat,())=(rh d.1,()))))/\(decide (4294967296<=d.1)=false->(decide (65536<=d.1)=true->(0:Int)<=16/\(16:Int)<=64/\wm ((0:Int)+16)/\(decide (256<=d.1/(2:Int)^Int.toNat 16)=true->(0:Int)<=8/\(8:Int)<=64/\wm ((0:Int)+16+8)/\0<=d.1/(2:Int)^Int.toNat 16/(2:Int)^Int.toNat 8/\d.1/(2:Int)^Int.toNat 16/(2:Int)^Int.toNat 8<=255/\0<=d.1/(2:Int)^Int.toNat 16/(2:Int)^Int.toNat 8/\d.1/(2:Int)^Int.toNat 16/(2:Int)^Int.toNat 8<(U.len8tab.size:Int)/\wm (aH U.len8tab (ji0 d).toNat)/\wm ((0:Int)+16+8+aH U.len8tab (ji0 d).toNat)/\((0:Int)+16+8+aH U.len8tab (ji0 d).toNat,())=(rh d.1,()))/\(decide (256<=d.1/(2:Int)^Int.toNat 16)=false->0<=d.1/(2:Int)^Int.toNat 16/\d.1/(2:Int)^Int.toNat 16<=255/\0<=d.1/(2:Int)^Int.toNat 16/\d.1/(2:Int)^Int.toNat 16<(U.len8tab.size:Int)/\wm (aH U.len8tab (d.1/(2:Int)^Int.toNat 16).toNat)/\wm ((0:Int)+16+aH U.len8tab (d.1/(2:Int)^Int.toNat 16).toNat)/\((0:Int)+16+aH U.len8tab (d.1/(2:Int)^Int.toNat 16).toNat,())=(rh d.1,())))/\(decide (65536<=d.1)=false->(decide (256<=d.1)=true->(0:Int)<=8/\(8:Int)<=64/\wm ((0:Int)+8)/\0<=d.1/(2:Int)^Int.toNat 8/\d.1/(2:Int)^Int.toNat 8<=255/\0<=d.1/(2:Int)^Int.toNat 8/\d.1/(2:Int)^Int.toNat 8<(U.len8tab.size:Int)/\wm (aH U.len8tab (d.1/(2:Int)^Int.toNat 8).toNat)/\wm ((0:Int)+8+aH U.len8tab (d.1/(2:Int)^Int.toNat 8).toNat)/\((0:Int)+8+aH U.len8tab (d.1/(2:Int)^Int.toNat 8).toNat,())=(rh d.1,()))/\(decide (256<=d.1)=false->0<=d.1/\d.1<=255/\0<=d.1/\d.1<(U.len8tab.size:Int)/\wm (aH U.len8tab d.1.toNat)/\wm ((0:Int)+aH U.len8tab d.1.toNat)/\((0:Int)+aH U.len8tab d.1.toNat,())=(rh d.1,()))))
def NZ:wQ:=⟨[.val (.uint .u64)],[.int],false,fun d=>[0<=d.1/\d.1<=12],fun d=>(rh d.1,())⟩
def N0:Prop:=∀(d:Int×Unit),0<=d.1/\d.1<=12->(false=true->False)/\(qF->(0<=d.1/\d.1<=12)/\(rh d.1,())=(rh d.1,()))
def bB:q7:=⟨[.own rwI true,.val .int,.val .int,.fn [.int,.int] [.int]],[],fun d=>[d.2.1=0/\d.2.2.1=(d.1.length:Int)/\d.1.length<=12,lh d.2.2.2.1.pre d.1],fun d=>((),(lg (cf d.2.2.2.1.F) d.1,()))⟩
def bC:Ann:=fun r=>match r with
 |1=>some fun σ=>{X:=Nat,sl:=fun i=>[(8,.dat .int (i:Int))],ob:=fun i=>[(1000000,some (.row 3 .int false .unk (dW (cf (gfn [.int,.int] [.int] σ 3)) (gr .int σ 1000000) i)))],inv:=fun i=>1<=i/\i<=max (gr .int σ 1000000).length 1,mu:=fun i=>(gr .int σ 1000000).length-i}
 |4=>some fun σ=>{X:=Nat×List Int,sl:=fun x=>[(9,.dat .int (x.1:Int))],ob:=fun x=>[(1000000,some (.row 3 .int false .unk x.2))],inv:=fun x=>(x.1:Int)<=gd .int σ 8/\x.2.Perm (gr .int σ 1000000)/\oj (cf (gfn [.int,.int] [.int] σ 3)) x.2 x.1=oj (cf (gfn [.int,.int] [.int] σ 3)) (gr .int σ 1000000) (gd .int σ 8).toNat,mu:=fun x=>x.1}
 |_=>none
abbrev ji1 (a:Nat×List Int):=(nth a.2 (a.1:Int).toNat,nth a.2 ((a.1:Int)-1).toNat,())
abbrev jfO (d:List Int×Int×Int×FnD [Ty.int,Ty.int] [Ty.int]×Unit):=(cf d.2.2.2.1.2)
def bD:Prop:=∀(d:List Int×Int×Int×FnD [Ty.int,Ty.int] [Ty.int]×Unit),d.2.1=0/\d.2.2.1=(d.1.length:Int)/\d.1.length<=12->lh d.2.2.2.1.1 d.1->wm (d.2.1+1)/\(∃(x:Nat),((d.2.1+1=(x:Int)/\True)/\d.1=dW (jfO d) d.1 x/\True)/\1<=x/\x<=max d.1.length 1)/\∀(x:Nat),1<=x/\x<=max d.1.length 1->(decide ((x:Int)<d.2.2.1)=true->(∃(a:Nat×List Int),(((x:Int)=(a.1:Int)/\True)/\dW (jfO d) d.1 x=a.2/\True)/\(a.1:Int)<=(x:Int)/\a.2.Perm (dW (jfO d) d.1 x)/\oj (jfO d) a.2 a.1=oj (jfO d) (dW (jfO d) d.1 x) (x:Int).toNat)/\∀(a:Nat×List Int),(a.1:Int)<=(x:Int)/\a.2.Perm (dW (jfO d) d.1 x)/\oj (jfO d) a.2 a.1=oj (jfO d) (dW (jfO d) d.1 x) (x:Int).toNat->(decide (d.2.1<(a.1:Int))=true->0<=(a.1:Int))/\(decide (d.2.1<(a.1:Int))=true->(a.1:Int)<a.2.length)/\(decide (d.2.1<(a.1:Int))=true->wm ((a.1:Int)-1))/\(decide (d.2.1<(a.1:Int))=true->0<=(a.1:Int)-1)/\(decide (d.2.1<(a.1:Int))=true->(a.1:Int)-1<(a.2.length:Int))/\Uy (decide (d.2.1<(a.1:Int))) (d.2.2.2.1.1 (ji1 a)) (((decide (d.2.1<(a.1:Int))&&decide ((d.2.2.2.1.2 (ji1 a)).1<0))=true->wm ((a.1:Int)-1)/\wm ((a.1:Int)-1)/\0<=(a.1:Int)-1/\(a.1:Int)-1<(a.2.length:Int)/\0<=(a.1:Int)/\(a.1:Int)<a.2.length/\0<=(a.1:Int)/\(a.1:Int)<a.2.length/\0<=(a.1:Int)-1/\(a.1:Int)-1<(↑(a.2.set (a.1:Int).toNat (nth a.2 ((a.1:Int)-1).toNat)).length:Int)/\wm ((a.1:Int)-1)/\∃(b:Nat×List Int),(((a.1:Int)-1=(b.1:Int)/\True)/\(a.2.set (a.1:Int).toNat (nth a.2 ((a.1:Int)-1).toNat)).set ((a.1:Int)-1).toNat (nth a.2 (a.1:Int).toNat)=b.2/\True)/\((b.1:Int)<=(x:Int)/\b.2.Perm (dW (jfO d) d.1 x)/\oj (jfO d) b.2 b.1=oj (jfO d) (dW (jfO d) d.1 x) (x:Int).toNat)/\b.1<a.1)/\((decide (d.2.1<(a.1:Int))&&decide ((d.2.2.2.1.2 (ji1 a)).1<0))=false->wm ((x:Int)+1)/\∃(c:Nat),(((x:Int)+1=(c:Int)/\True)/\a.2=dW (jfO d) d.1 c/\True)/\(1<=c/\c<=max d.1.length 1)/\d.1.length-c<d.1.length-x)))/\(decide ((x:Int)<d.2.2.1)=false->()=()/\(dW (jfO d) d.1 x,())=(lg (jfO d) d.1,()))
def fj:q7:=⟨[.own rwI true,.val .int,.val .int,.val .int,.fn [.int,.int] [.int]],[],fun d=>[d.2.1=0/\d.2.2.1=(d.1.length:Int)/\d.1.length<=12,lh d.2.2.2.2.1.pre d.1],fun d=>((),(lg (cf d.2.2.2.2.1.F) d.1,()))⟩
def fo:Ann:=fun r=>match r with
 |1000002=>some fun _=>{X:=Unit,sl:=fun _=>[],ob:=fun _=>[],inv:=fun _=>True,mu:=fun _=>0}
 |_=>none
def fq:Prop:=∀(d:List Int×Int×Int×Int×FnD [Ty.int,Ty.int] [Ty.int]×Unit),d.2.1=0/\d.2.2.1=(d.1.length:Int)/\d.1.length<=12->lh d.q4.1.1 d.1->wm (d.2.2.1-d.2.1)/\(decide (d.2.2.1-d.2.1<=12)=true->(d.2.1=0/\d.2.2.1=(d.1.length:Int)/\d.1.length<=12)/\lh d.q4.1.1 d.1/\()=()/\(lg (cf d.q4.1.2) d.1,())=(lg (cf d.q4.1.2) d.1,()))/\(decide (d.2.2.1-d.2.1<=12)=false->(decide (d.2.2.2.1=0)=true->False)/\(decide (d.2.2.2.1=0)=false->((!true)=true->False)/\((!true)=false->False)))
def vg:q7:=⟨[.own rwI true,.fn [.int,.int] [.int]],[],fun d=>[d.1.length<=12,lh d.2.1.pre d.1,yc (cf d.2.1.F) d.1],fun d=>((),(wc (cf d.2.1.F) d.1,()))⟩
def sW:Prop:=∀(d:List Int×FnD [Ty.int,Ty.int] [Ty.int]×Unit),d.1.length<=12->lh d.2.1.1 d.1->yc (cf d.2.1.2) d.1->d.1.length<4611686018427387904->0<=(d.1.length:Int)/\(d.1.length:Int)<=18446744073709551615/\(0<=(d.1.length:Int)/\(d.1.length:Int)<=12)/\((0:Int)=0/\(d.1.length:Int)=d.1.length/\d.1.length<=12)/\lh d.2.1.1 d.1/\()=()/\(lg (cf d.2.1.2) d.1,())=(wc (cf d.2.1.2) d.1,())
def asI (l:List Int):List (Ty.st [.int]).Data:=l.map (fun x=>(x,()))
def LVi (d:PD [.ref (.slice .int)]) (xs:List (Ty.st [.int]).Data):Prop:=xs=asI d.1
def sX:Bh (YS [.int]):=fun r=>match r with
 |1=>some fun σ _=>{X:=Nat,sl:=fun i=>[(7,.dat .int (i:Int))],ob:=fun _=>[],ys:=fun i=>(asI ((gd (.slice .int) σ 5).take i),true),inv:=fun i=>i<=(gd (.slice .int) σ 5).length,mu:=fun i=>(gd (.slice .int) σ 5).length-i}
 |_=>none
abbrev jfY:=(fun(a:Int)=>(a,()))
abbrev jhI (d:List Int×Unit)(x:Nat):=(nth d.1 (x:Int).toNat,())
def dB:Prop:=∀(d:List Int×Unit) (l:Nat),d.1.length<4611686018427387904->(∃(x:Nat),((0=(x:Int)/\True)/\True)/\([],true)=(List.map jfY (List.take x d.1),true)/\x<=d.1.length)/\∀(x:Nat),x<=d.1.length->(decide ((x:Int)<d.1.length)=true->0<=(x:Int)/\(x:Int)<d.1.length/\l=l/\(∃(rest:List (Int×Unit)),List.map jfY (List.take x d.1)++[(jhI d x)]++rest=List.map jfY d.1)/\(((!true)=true->true=true->List.map jfY (List.take x d.1)++[(jhI d x)]=List.map jfY d.1)/\((!true)=false->wm ((x:Int)+1)/\∃(a:Nat),(((x:Int)+1=(a:Int)/\True)/\True)/\(List.map jfY (List.take x d.1)++[(jhI d x)],true)=(List.map jfY (List.take a d.1),true)/\a<=d.1.length/\d.1.length-a<d.1.length-x))/\((!false)=true->false=true->List.map jfY (List.take x d.1)++[(jhI d x)]=List.map jfY d.1)/\((!false)=false->wm ((x:Int)+1)/\∃(a:Nat),(((x:Int)+1=(a:Int)/\True)/\True)/\(List.map jfY (List.take x d.1)++[(jhI d x)],false)=(List.map jfY (List.take a d.1),true)/\a<=d.1.length/\d.1.length-a<d.1.length-x))/\(decide ((x:Int)<d.1.length)=false->true=true->List.map jfY (List.take x d.1)=List.map jfY d.1)
theorem mH:(YI (ctx 16 [] []) (qf Tryz.f241) [.int] [.ref (.slice .int)] LVi (fun _=>[]) (fun _ _=>sX) (fun d l=>hkY [.int] l [13] (fun q=>∃rest,LVi d (q++rest)) (fun _=>none)))=dB:=by kernel_rfl
def vl:pk:=⟨[.val (.slice .int)],fun _=>[],241,[.slice .int],fun d=>(d.1,())⟩
def i8:Prop:=∀(d:List Int×Unit),d=d
theorem pS:(VB (ctx 4 [] []) (fun _=>none) Tryz.f223 (qf Tryz.f223) vl)=i8:=by kernel_rfl
def cE:JV [.int]:={ps:=[.own (.box 31 [.row 3 .int .unk]) true],slots:=[2],dst:=20,pre:=fun _=>[],G:=fun d q=>((d.1.1++q.map (·.1),()),()),seq:=fun sv=>match sv with
 | .clo 241 [.ep t m]=>(match qH t (.slice .int) m with
  |some a=>some (True,fun xs=>xs=asI a)
  |none=>none)
 |_=>none}
def gZ:Nat->Option ((ts:List Ty)×JV ts):=fun r=>match r with
 |3=>some ⟨[.int],cE⟩
 |_=>none
def vM:pn:=⟨[none,some (241,1)],[.nil false,.ref (.slice .int)],[rwI],fun d=>[d.2.1.length<=12],fun d r=>r.1.1=d.2.1⟩
def yw:pn:=⟨[some (241,1)],[.ref (.slice .int)],[rwI],fun d=>[d.1.length<=12],fun d r=>r.1.1=d.1⟩
def vw:pn:=⟨[some (241,1),none],[.ref (.slice .int),.fn [.int,.int] [.int]],[rwI],fun d=>[d.1.length<=12,lh d.2.1.pre d.1,yc (cf d.2.1.F) d.1],fun d r=>r.1.1=wc (cf d.2.1.F) d.1⟩
def pT (d:OD vM.ps):List SV:=[.lit (.slice none 0 0),.clo 241 [.ep (.slice .int) d.2.1]]
abbrev jhJ:=(fun(a:Int×Unit)=>a.1)
abbrev ji2:=(fun(a:List (Int×Unit))=>false)
abbrev ji3:=(fun(a:Int)=>(a,()))
def cF:Prop:=∀(d:Unit×List Int×Unit),d.2.1.length<=12/\True->True/\True/\(([]++List.map jhJ [],()),())=(([],()),())/\(∀(q:List (Int×Unit)) (x:Int×Unit) (rest:List (Int×Unit)),q++x::rest=List.map ji3 d.2.1->yV ji2 q->(([]++List.map jhJ q).length+[x.1].length)*8<=140737488355328/\qF/\(([]++List.map jhJ q++[x.1],()),())=(([]++List.map jhJ (q++[x]),()),()))/\(∀(xs:List (Int×Unit)),xs=List.map ji3 d.2.1->yV ji2 xs->∃(_:Unit),[]++List.map jhJ xs=d.2.1)/\∀(q:List (Int×Unit)) (x:Int×Unit) (rest:List (Int×Unit)),q++x::rest=List.map ji3 d.2.1->yV ji2 q->false=true->∃(_:Unit),[]=d.2.1
theorem lD:(VD (ctx 13 [] []) (fun _=>none) (hkC (ctx 13 [] []) (fun _=>none) gZ [] []) Tryz.f246 (qf Tryz.f246) vM pT)=cF:=by kernel_rfl
def uA (d:OD yw.ps):List SV:=[.clo 241 [.ep (.slice .int) d.1]]
def fu:Prop:=∀(d:List Int×Unit),d.1.length<=12/\True->(d.1.length<=12/\True)/\∀(r:(List Int×Unit)×Unit),r.1.1=d.1->∃(_:Unit),r.1.1=d.1
theorem nZ:(VD (ctx 5 [] []) (fun _=>none) (hkC (ctx 5 [] []) (fun _=>none) jby [4] [(246,20,vM)]) Tryz.f239 (qf Tryz.f239) yw uA)=fu:=by kernel_rfl
def n4 (d:OD vw.ps):List SV:=[.clo 241 [.ep (.slice .int) d.1],.fn [.int,.int] [.int] d.2.1.pre d.2.1.F]
def bS:Prop:=∀(d:List Int×FnD [Ty.int,Ty.int] [Ty.int]×Unit),d.1.length<=12/\lh d.2.1.1 d.1/\yc (cf d.2.1.2) d.1/\True->(d.1.length<=12/\True)/\∀(r:(List Int×Unit)×Unit),r.1.1=d.1->r.1.1.length<=12/\lh d.2.1.1 r.1.1/\yc (cf d.2.1.2) r.1.1/\∃(_:Unit),wc (cf d.2.1.2) r.1.1=wc (cf d.2.1.2) d.1
theorem iJ:(VD (ctx 12 [] [(240,vg)]) (fun _=>none) (hkC (ctx 12 [] [(240,vg)]) (fun _=>none) jby [7] [(239,20,yw)]) Tryz.f222 (qf Tryz.f222) vw n4)=bS:=by kernel_rfl
theorem Sq {b:Bool} {l:List Prop} {k:Prop} (h:b=true->wy l) (hk:k):Uy b l k:=by
 induction l with
 |nil=>exact hk
 |cons p l c=>exact⟨fun a=>(h a).1,c (fun a=>(h a).2)⟩
theorem jfl:∀n:Nat,n<13->aH U.len8tab n=rh (n:Int):=by decide+kernel
theorem jbO (n:Int):0<=rh n/\rh n<=4:=by
 unfold rh
 split
 omega
 split
 omega
 split
 omega
 split<;>omega
theorem KR:Ia:=by
 unfold Ia jjC ji0 jiZ jiY jiX;rintro⟨n,⟨⟩⟩ ⟨a,b⟩;have a:0<=n:=a;have b:n<=12:=b;refine⟨fun h=>absurd (ja h) (by simp only;omega),fun _=>⟨fun h=>absurd (ja h) (by simp only;omega),fun _=>⟨fun h=>absurd (ja h) (by simp only;omega),fun _=> ?_⟩⟩⟩;have c:=jfl n.toNat (by omega);rw[Int.toNat_of_nonneg a] at c;have d:=jbO n;simp only;rw[c];refine⟨by omega,by omega,by omega,?_,by unfold wm;omega,by unfold wm;omega,by rw[Int.zero_add]⟩;have:U.len8tab.size=256:=(by decide+kernel);omega
theorem Ib:wV PR 178 H9:=wK KR Tryz.func178 kcN koN
theorem Sr:N0:=by
 rintro⟨n,⟨⟩⟩ h;exact⟨fun e=>(by cases e),fun _=>⟨h,rfl⟩⟩
theorem N1:wV PR 140 NZ:=wK Sr Tryz.func140 (kcC Ib kcN) koN
theorem bM:bD:=by
 unfold bD jfO ji1;rintro⟨l,a,b,⟨pre,c⟩,⟨⟩⟩ x y;obtain⟨z,n,E⟩:a=0/\b=(l.length:Int)/\l.length<=12:=x;have s:lh pre l:=y;subst z n;simp only;refine⟨by unfold wm;omega,⟨1,⟨⟨rfl,tZ⟩,rfl,tZ⟩,jj _,by omega⟩,fun i hi=>⟨fun h=> ?_,fun h=> ?_⟩⟩
 .have h:i<l.length:=(by have:=ja h;omega);have u:=IS.part_perm (lt:=cf c) (l:=l) i (by omega);refine⟨⟨(i,dW (cf c) l i),⟨⟨rfl,tZ⟩,rfl,tZ⟩,zN _,List.Perm.refl _,rfl⟩,?_⟩;rintro⟨j,m⟩ ⟨v,o,p⟩;have v:(j:Int)<=i:=v;have o:m.Perm (dW (cf c) l i):=o;have p:oj (cf c) m j=oj (cf c) (dW (cf c) l i) i:=p;have C:m.length=l.length:=(o.trans u).length_eq;have g:∀{k:Nat},k<m.length->nth m k∈l:=fun hk=>(o.trans u).mem_iff.1 (L.wh hk)
  simp only[jw];refine⟨fun _=>by omega,fun f=>by have:=ja f;omega,fun f=>by have:=ja f;unfold wm;omega,fun f=>by have:=ja f;omega,fun f=>by have:=ja f;omega,Sq (fun f=> ?_) ⟨fun n=> ?_,fun n=> ?_⟩⟩
  .have f:=ja f;exact s _ (g (by omega)) _ (g (by omega))
  .simp only[ji,jp] at n;obtain⟨D,q⟩:=n;obtain⟨d,rfl⟩:∃d,j=d+1:=⟨j-1,by omega⟩;have r:((d+1:Nat):Int)-1=(d:Int):=(by omega);rw[r] at q⊢;simp only[jw] at q⊢;have t:=IS.swap_perm (l:=m) (j:=d+1) (k:=d) (by omega) (by omega);have e:wm (d:Int):=(by unfold wm;omega);refine⟨e,e,by omega,by omega,by omega,by omega,by omega,by omega,by omega,by simp;omega,e,⟨(d,Ub m (d+1) d),⟨⟨rfl,tZ⟩,rfl,tZ⟩,⟨by simp only;omega,t.trans o,?_⟩,by simp⟩⟩;rw[<-p];show _=(if cf c (nth m (d+1)) (nth m d)=true then oj (cf c) (Ub m (d+1) d) d else m);have w:cf c (nth m (d+1)) (nth m d)=true:=jG q;rw[jg w]
  .have B:m=dW (cf c) l (i+1):=by
    rw[IS.part_succ,<-p];cases j with
    |zero=>rfl
    |succ d=>
     unfold oj;rw[jd];intro A;refine absurd n (by
      rw[kl];rintro(h|h)
      .exact absurd (jc h) (by simp)
      .refine jc h ?_;have r:((d+1:Nat):Int)-1=(d:Int):=(by omega);rw[r];exact ja A)
   exact⟨by unfold wm;omega,i+1,⟨⟨by simp,tZ⟩,B,tZ⟩,by omega,by omega⟩
 .have h:l.length<=i:=(by have:=jc h;omega);exact⟨tZ,by rw[IS.part_isort hi.1 hi.2 h]⟩
theorem bE:gX PR 251 bB:=sA bC bM Tryz.func251 kcN koN
theorem iK:fq:=by
 unfold fq Prod.q4;rintro⟨l,a,b,lim,⟨pre,c⟩,⟨⟩⟩ e d;obtain⟨f,g,i⟩:a=0/\b=(l.length:Int)/\l.length<=12:=e;subst f g;refine⟨by unfold wm;simp only;omega,fun _=>⟨⟨rfl,rfl,by simp only;omega⟩,d,rfl,rfl⟩,fun h=>absurd (jc h) (by simp only;omega)⟩
theorem fw:gX PR 247 fj:=sA fo iK Tryz.func247 kcN (koC bE koN)
theorem uB:sW:=by
 rintro⟨l,⟨pre,c⟩,⟨⟩⟩ a b d _;have a:l.length<=12:=a;exact⟨by simp only;omega,by simp only;omega,⟨by simp only;omega,by simp only;omega⟩,⟨rfl,rfl,a⟩,b,rfl,jF (·,()) (IS.isort_sort d)⟩
theorem sY:gX PR 240 vg:=CN uB Tryz.func240 (kcC N1 kcN) (koC fw koN)
theorem Zd {l:List Int} {i:Nat} (h:i<l.length):asI (l.take (i+1))=asI (l.take i)++[(nth l i,())]:=by
 unfold asI;rw[L.wO h,zw];rfl
theorem uC:dB:=by
 unfold dB jhI jfY;rintro⟨l,⟨⟩⟩ y b;have b:l.length<4611686018427387904:=b;refine⟨⟨0,⟨⟨rfl,tZ⟩,tZ⟩,rfl,jl _⟩,fun x c=>⟨fun h=> ?_,fun h _=> ?_⟩⟩;have h:(x:Int)<l.length:=ja h;have a:x<l.length:=(by omega);have e:=Zd a;unfold asI at e;simp only[jw];refine⟨by omega,h,tZ,⟨asI (l.drop (x+1)),?_⟩,⟨fun h=>(by cases h),fun _=>⟨iZ6,x+1,⟨⟨by simp,tZ⟩,tZ⟩,?_,by show x+1<=l.length;omega,by show l.length-(x+1)<l.length-x;omega⟩⟩,fun _ h=>(by cases h),fun h=>(by cases h)⟩;rw[<-e];unfold asI;rw[<-zw,z6];rw[e];have h:¬(x:Int)<l.length:=jc h;have c:x<=l.length:=c;rw[zv (by show l.length<=x;omega)]
theorem Ss {H:Imm} {lb:Array Value} {d:PD [.ref (.slice .int)]} (e:pvs PR H [.ref (.slice .int)] lb.toList d):YG PR H [.int] (LVi d) (.func (.func 241) #[] lb):=
 jar (C:=ctx 16 [] []) (oD trivial trivial) mixed Tryz.func241 (by kernel_rfl) (by kernel_rfl) (by kernel_rfl) (by kernel_rfl) (by decide) (mH.mpr uC) (fun d l B0 R f a b c=>jdo a c) e trivial
theorem Dl:i8:=by intro d;rfl
theorem Ao:JZ PR 223 vl:=jdr (pS.mpr Dl) Tryz.func223 (by kernel_rfl) (by kernel_rfl) (by kernel_rfl) (by kernel_rfl) trivial trivial
theorem jbP (l:List Int):(asI l).map (fun(x:Int×Unit)=>x.1)=l:=by
 unfold asI;rw[kW];exact List.map_id l
theorem sZ:cF:=by
 unfold cF ji3 ji2 jhJ;intro d ⟨a,_⟩;refine⟨tZ,tZ,rfl,fun q x rest h _=>⟨?_,rfl,?_⟩,fun xs h _=>⟨(),?_⟩,fun _ _ _ _ _ h=>(by cases h)⟩;have b:=jF List.length h;simp only[zf,jI,j8] at b;have a:d.2.1.length<=12:=a;simp only[jY,zf,j8,zr];omega;simp;rw[h,jY];exact jbP d.2.1
theorem Ap:fu:=fun _ a=>⟨a,fun _ h=>⟨(),h⟩⟩
theorem pU:bS:=fun d ⟨a,b,c,_⟩=>⟨⟨a,tZ⟩,fun r h=>by rw[h];exact⟨a,b,c,(),rfl⟩⟩
theorem QH {P:Program} {ρ:Env} {H:Imm} (b:ρ.H=H) {g:Nat} {t:Ty} {d:t.Data} {lb:Array Value} {w:World} {bs:List Nat} (a:eI P H w [.ref t] lb.toList (d,()) bs):SV.den P ρ (.clo g [.ep t d]) (.func (.func g) #[] lb):=by
 subst b
 match e:lb.toList,a with
 |[],a=>exact a.elim
 |[x],⟨_,_,_,⟨c,_⟩,_⟩=>
  simp only[SV.den,SV.denL];exact⟨lb,rfl,x,[],e,c,rfl⟩
 |x::y::r,⟨_,_,_,_,h2⟩=>cases h2.1
theorem N2 {lb:Array Value} (h:lb.size=1):∃x,lb.toList=[x]:=by
 have a:lb.toList.length=1:=(by rw[j9];exact h);exact List.length_eq_one_iff.1 a
theorem Wb {g n:Nat} {s:pn} (h:ROK PR g s):∀(f:Nat) (p:Nat×pn),wH [(g,n,s)] f=some p->ROK PR f p.2:=by
 intro f p a;simp only[wH] at a
 split at a
 rename_i b;have:=jb b;subst this;simp at a;subst a;exact h;cases a
theorem Ze (n:Nat):(ctx n [] []).ok PR:=oD trivial trivial
theorem n7:ROK PR 246 vM:=by
 refine VE (body:=qf Tryz.f246) (C:=ctx 13 [] []) (hk:=hkC (ctx 13 [] []) (fun _=>none) gZ [] []) (Ze 13) mixed Tryz.func246 (by kernel_rfl) (by kernel_rfl) (by kernel_rfl) (fun B=>GA (Ze 13) mixed ?_ jbK B) rfl (fun H w vals fl d bs c b ρ f=> ?_) (fun d=>rfl) (lD.mpr sZ)
 .intro k t rs sv pr L v ρ hk a p g;unfold gZ at hk
  split at hk
  case h_2=>cases hk
  simp only[jz] at hk;cases hk;simp only[cE] at a
  split at a
  case h_2=>cases a
  rename_i t m
  split at a
  case h_2=>cases a
  rename_i z o;simp only[jz,Prod.mk.injEq] at a;obtain⟨rfl,rfl⟩:=a;obtain⟨e,rfl⟩:=wn o;subst e;simp only[SV.den,SV.denL] at g;obtain⟨lb,rfl,x,r,n,j,l⟩:=g;exact Ss (d:=(m,())) (by rw[n,l];exact⟨j,rfl⟩)
 .obtain⟨v,q,h,rfl,rfl,lb,s,i,rfl,rfl,_,rfl,rfl⟩:=c;obtain⟨u,y,_,⟨rfl,_⟩,b⟩:=b;rw[jZ] at b;refine⟨_,_,rfl,rfl,_,_,rfl,QH f b,rfl⟩
theorem s0:ROK PR 239 yw:=by
 refine VE (body:=qf Tryz.f239) (C:=ctx 5 [] []) (hk:=hkC (ctx 5 [] []) (fun _=>none) jby [4] [(246,20,vM)]) (Ze 5) mixed Tryz.func239 (by kernel_rfl) (by kernel_rfl) (by kernel_rfl) (fun B=>GA (Ze 5) mixed Np (Wb n7) B) rfl (fun H w vals fl d bs a c ρ b=> ?_) (fun d=>rfl) (nZ.mpr Ap);obtain⟨lb,f,e,rfl,rfl,_,rfl,rfl⟩:=a;rw[jZ] at c;exact⟨_,_,rfl,QH b c,rfl⟩
theorem GJ:(ctx 12 [] [(240,vg)]).ok PR:=oD trivial ⟨sY,tZ⟩
theorem mI:ROK PR 222 vw:=by
 refine VE (body:=qf Tryz.f222) (C:=ctx 12 [] [(240,vg)]) (hk:=hkC (ctx 12 [] [(240,vg)]) (fun _=>none) jby [7] [(239,20,yw)]) GJ mixed Tryz.func222 (by kernel_rfl) (by kernel_rfl) (by kernel_rfl)
  (fun B=>GA GJ mixed Np (Wb s0) B) rfl (fun H w vals fl d bs a e ρ c=> ?_) (fun d=>rfl) (iJ.mpr pU)
 obtain⟨lb,k,g,rfl,rfl,b,v,l,h,rfl,rfl,rfl,rfl⟩:=a;obtain⟨x,f⟩:=N2 b;rw[f] at e;obtain⟨m,n,_,⟨i,_⟩,c1,c2,_,⟨j,_⟩,_⟩:=e;subst c;refine⟨_,_,rfl,⟨lb,rfl,x,[],f,i,rfl⟩,_,_,rfl,j,rfl⟩
abbrev tRo:Ty:= .st [tDy,.slice .int,.slice (.slice .int),.slice .int]
abbrev RoD:Type:=DyD×List Int×List (List Int)×List Int×Unit
namespace U
def ro (o:Option RoD):RoD:=wG (Ty.dflt tRo) o
def rd (r:RoD):DyD:=r.1
def mY (r:RoD):List Int:=r.2.1
def bJ (r:RoD):List (List Int):=r.2.2.1
def jeP (r:RoD):List Int:=r.2.2.2.1
def aq (d:DyD) (b:Int):Prop:=0<=b/\b<((wo d).length:Int)
def Eo (d:DyD) (l:List Int):Prop:=l.length<=12/\∀b∈l,aq d b
def FN (d:DyD):Prop:=wt (wq d)=true/\I4 d=true/\qv d=true
def Rf (r:RoD):Prop:=FN (rd r)/\(mY r).length=(wo (rd r)).length
def My (d:DyD) (p:Int):Prop:=0<=p/\p<((wi (wq d)).length:Int)
def tM (d:DyD) (a b:Int):Int:=y7 [cT (w8 (bk d a)) (w8 (bk d b)),cT a b]
def wx (d:DyD) (l:List Int):List Int:=wc (ak d) l
def vP (d:DyD) (s:List Int) (n:Nat):Int:=I5 d (s.take n)
def I7 (d:DyD) (dG:List Int) (p:Int) (s:List Int) (i:Nat):Bool:= !(decide (fO (nth dG (nth s i).toNat/2^p.toNat) 1=0)||(s.drop (i+1)).any (fun c=>decide (bG d (nth s i) c<0)))
def jcF (d:DyD) (dG:List Int) (p:Int) (s:List Int):Bool:=(List.range s.length).all (I7 d dG p s)&&decide (I5 d s<=Z5 d)
def PJ (d:DyD) (dG:List Int) (p:Int) (l:List Int):Bool:=jcF d dG p (wx d l)
def Mc (r:RoD) (p:Int) (l:List Int):Bool:=PJ (rd r) (mY r) p l
def aY (on:List (List Int)) (b:Int) (n:Nat):Int:=(List.range n).foldl (fun s p=>if(nth on p).any (fun x=>decide (x=b))=true then bor s (1*2^p) else s) 0
def dX (on:List (List Int)) (b:Int):Int:=aY on b on.length
def Ep (d:DyD) (b t:Int):Bool:=(decide (bI (wq d) (yS (bk d b)) t=0)&&decide (jc0 (wq d) (yS (bk d b)) t=0))&&decide (t≠0)
end U
def uD:wQ:=⟨[.val (.ptr tRo),.val .int,.val .int],[.int],false,fun d=>[d.1.isSome=true,FN (U.rd (U.ro d.1)),aq (U.rd (U.ro d.1)) d.2.1,aq (U.rd (U.ro d.1)) d.2.2.1],fun d=>(bG (U.rd (U.ro d.1)) d.2.1 d.2.2.1,())⟩
abbrev jga (d:Option RoD×Int×Int×Unit):=(wG ((((0:Int),[],[],()),[],[],(0:Int),(0:Int),[],()),[],[],[],()) d.1)
abbrev jgs (d:Option RoD×Int×Int×Unit):=(nth (jga d).1.2.2.1 d.2.1.toNat)
abbrev jgE (d:Option RoD×Int×Int×Unit):=(nth (jga d).1.2.2.1 d.2.2.1.toNat)
def uE:Prop:=∀(d:Option RoD×Int×Int×Unit),d.1.isSome=true->FN (U.rd (U.ro d.1))->aq (U.rd (U.ro d.1)) d.2.1->aq (U.rd (U.ro d.1)) d.2.2.1->d.1.isSome=true/\0<=d.2.1/\d.2.1<(↑(jga d).1.2.2.1.length:Int)/\d.1.isSome=true/\0<=d.2.2.1/\d.2.2.1<(↑(jga d).1.2.2.1.length:Int)/\wm ((jgE d).2.2.1-(jgs d).2.2.2.1)/\d.1.isSome=true/\wm ((jgE d).2.2.1-(jgs d).2.2.2.1-(jga d).1.2.2.2.1)/\d.1.isSome=true/\(0:Int)<=(jgs d).2.1/\(jgs d).2.1<(↑(jga d).1.2.1.length:Int)/\(0:Int)<=(jgE d).2.1/\(jgE d).2.1<(↑(nth (jga d).1.2.1 (jgs d).2.1.toNat).length:Int)/\wm ((jgE d).2.2.1-(jgs d).2.2.2.1-(jga d).1.2.2.2.1-(nth (nth (jga d).1.2.1 (jgs d).2.1.toNat) (jgE d).2.1.toNat).2.1)/\((jgE d).2.2.1-(jgs d).2.2.2.1-(jga d).1.2.2.2.1-(nth (nth (jga d).1.2.1 (jgs d).2.1.toNat) (jgE d).2.1.toNat).2.1,())=(bG (U.rd (U.ro d.1)) d.2.1 d.2.2.1,())
def qO:wQ:=⟨[.val .int,.val .int,.ref (.ptr tRo)],[.int],false,fun d=>[d.2.2.1.isSome=true,aq (U.rd (U.ro d.2.2.1)) d.1,aq (U.rd (U.ro d.2.2.1)) d.2.1],fun d=>(tM (U.rd (U.ro d.2.2.1)) d.1 d.2.1,())⟩
abbrev jik (d:Int×Int×Option RoD×Unit):=(wG ((((0:Int),[],[],()),[],[],(0:Int),(0:Int),[],()),[],[],[],()) d.2.2.1)
def n8:Prop:=∀(d:Int×Int×Option RoD×Unit),d.2.2.1.isSome=true->aq (U.rd (U.ro d.2.2.1)) d.1->aq (U.rd (U.ro d.2.2.1)) d.2.1->d.2.2.1.isSome=true/\0<=d.1/\d.1<(↑(jik d).1.2.2.1.length:Int)/\d.2.2.1.isSome=true/\0<=d.2.1/\d.2.1<(↑(jik d).1.2.2.1.length:Int)/\(y7 [cT (nth (jik d).1.2.2.1 d.1.toNat).2.2.1 (nth (jik d).1.2.2.1 d.2.1.toNat).2.2.1,cT d.1 d.2.1],())=(tM (U.rd (U.ro d.2.2.1)) d.1 d.2.1,())
def dC:wQ:=⟨[.val (.ptr tRo),.val (.slice .int)],[.slice .int],false,fun d=>[d.1.isSome=true,Eo (U.rd (U.ro d.1)) d.2.1],fun d=>(wx (U.rd (U.ro d.1)) d.2.1,())⟩
abbrev jjD (d:Option RoD×List Int×Unit):=(cf fun(a:Int×Int×Unit)=>(tM (U.rd (U.ro d.1)) a.1 a.2.1,()))
def dD:Prop:=∀(d:Option RoD×List Int×Unit),d.1.isSome=true->Eo (U.rd (U.ro d.1)) d.2.1->(d.2.1.length<=12/\lh (fun(a:Int×Int×Unit)=>[d.1.isSome=true,aq (U.rd (U.ro d.1)) a.1,aq (U.rd (U.ro d.1)) a.2.1]) d.2.1/\yc (jjD d) d.2.1/\True)/\∀(r:(List Int×Unit)×Unit),r.1.1=wc (jjD d) d.2.1->r.1=(wx (U.rd (U.ro d.1)) d.2.1,())
theorem mJ:(jbu (Mv 9 [(224,qO)] [] [(223,vl)] []) (fun _=>none) (hkC (Mv 9 [(224,qO)] [] [(223,vl)] []) (fun _=>none) jby [8] [(222,20,vw)]) Tryz.f209 (qf Tryz.f209) dC)=dD:=by kernel_rfl
def uF:wQ:=⟨[.val .int,.ref (.ptr tRo),.ref .int],[.bool],false,fun d=>[d.2.1.isSome=true,FN (U.rd (U.ro d.2.1)),aq (U.rd (U.ro d.2.1)) d.1,aq (U.rd (U.ro d.2.1)) d.2.2.1],fun d=>(decide (bG (U.rd (U.ro d.2.1)) d.2.2.1 d.1<0),())⟩
def uG:Prop:=∀(d:Int×Option RoD×Int×Unit),d.2.1.isSome=true->FN (U.rd (U.ro d.2.1))->aq (U.rd (U.ro d.2.1)) d.1->aq (U.rd (U.ro d.2.1)) d.2.2.1->d.2.1.isSome=true/\FN (U.rd (U.ro d.2.1))/\aq (U.rd (U.ro d.2.1)) d.2.2.1/\aq (U.rd (U.ro d.2.1)) d.1/\(decide (bG (U.rd (U.ro d.2.1)) d.2.2.1 d.1<0),())=(decide (bG (U.rd (U.ro d.2.1)) d.2.2.1 d.1<0),())
def Dm:wQ:=⟨[.val (.ptr tRo),.val .int,.val (.slice .int)],[.bool],false,fun d=>[d.1.isSome=true,Rf (U.ro d.1),My (U.rd (U.ro d.1)) d.2.1,Eo (U.rd (U.ro d.1)) d.2.2.1],fun d=>(Mc (U.ro d.1) d.2.1 d.2.2.1,())⟩
def Dn:Ann:=fun r=>match r with
 |4=>some fun σ=>{X:=Nat,sl:=fun i=>[(16,.dat .int (i:Int)),(7,.dat .int (vP (U.rd (U.ro (gd (.ptr tRo) σ 0))) (gd (.slice .int) σ 14) i))],ob:=fun _=>[],inv:=fun i=>i<=(gd (.slice .int) σ 14).length/\∀b:Nat,b<i->I7 (U.rd (U.ro (gd (.ptr tRo) σ 0))) (mY (U.ro (gd (.ptr tRo) σ 0))) (gd .int σ 1) (gd (.slice .int) σ 14) b=true,mu:=fun i=>(gd (.slice .int) σ 14).length-i}
 |_=>none
abbrev jgY (d:Option RoD×Int×List Int×Unit):=(wG ((((0:Int),[],[],()),[],[],(0:Int),(0:Int),[],()),[],[],[],()) d.1)
abbrev jfR (d:Option RoD×Int×List Int×Unit):=(U.rd (U.ro d.1))
abbrev jfC (d:Option RoD×Int×List Int×Unit):=(wx (jfR d) d.2.2.1)
abbrev jhh (d:Option RoD×Int×List Int×Unit)(x:Nat):=(fO (nth (jgY d).2.1 (nth (jfC d) (x:Int).toNat).toNat/(2:Int)^d.2.1.toNat) (1:Int)=0)
abbrev ji4 (d:Option RoD×Int×List Int×Unit)(x:Nat):=((nth (jgY d).1.2.2.1 (nth (jfC d) (x:Int).toNat).toNat).2.2.2.1-(nth (jgY d).1.2.2.1 (nth (jfC d) (x:Int).toNat).toNat).2.2.1)
abbrev jgF (d:Option RoD×Int×List Int×Unit):=(↑(jfC d).length:Int)
abbrev jjE (d:Option RoD×Int×List Int×Unit)(x:Nat):=(decide (jhh d x)||(List.take ((jgF d).toNat-((x:Int)+1).toNat) (List.drop ((x:Int)+1).toNat (jfC d))).any (wb fun(a:Int×Unit)=>(decide (bG (jfR d) (nth (jfC d) (x:Int).toNat) a.1<0),())))
def Do:Prop:=∀(d:Option RoD×Int×List Int×Unit),d.1.isSome=true->Rf (U.ro d.1)->My (jfR d) d.2.1->Eo (jfR d) d.2.2.1->d.1.isSome=true/\Eo (jfR d) d.2.2.1/\((jfC d).length<4611686018427387904->(∃(x:Nat),((0=(x:Int)/\0=vP (jfR d) (jfC d) x/\True)/\True)/\x<=(jfC d).length/\∀(b:Nat),b<x->I7 (jfR d) (mY (U.ro d.1)) d.2.1 (jfC d) b=true)/\∀(x:Nat),(x<=(jfC d).length/\∀(b:Nat),b<x->I7 (jfR d) (mY (U.ro d.1)) d.2.1 (jfC d) b=true)->(decide ((x:Int)<(jgF d))=true->0<=(x:Int)/\(x:Int)<(jgF d)/\d.1.isSome=true/\0<=nth (jfC d) (x:Int).toNat/\nth (jfC d) (x:Int).toNat<(↑(jgY d).1.2.2.1.length:Int)/\d.1.isSome=true/\0<=nth (jfC d) (x:Int).toNat/\nth (jfC d) (x:Int).toNat<(↑(jgY d).1.2.2.1.length:Int)/\wm (ji4 d x)/\wm (vP (jfR d) (jfC d) x+(ji4 d x))/\d.1.isSome=true/\0<=nth (jfC d) (x:Int).toNat/\nth (jfC d) (x:Int).toNat<(↑(jgY d).2.1.length:Int)/\0<=d.2.1/\d.2.1<=64/\((!decide (jhh d x))=true->wm ((x:Int)+1))/\((!decide (jhh d x))=true->0<=(x:Int)+1)/\((!decide (jhh d x))=true->(x:Int)+1<=(jgF d))/\((!decide (jhh d x))=true->(jgF d)<=(jgF d))/\((!decide (jhh d x))=true->∀(g:Int),g∈List.take ((jgF d).toNat-((x:Int)+1).toNat) (List.drop ((x:Int)+1).toNat (jfC d))->wy [d.1.isSome=true,FN (jfR d),aq (jfR d) g,aq (jfR d) (nth (jfC d) (x:Int).toNat)])/\((jjE d x)=true->(false,())=(Mc (U.ro d.1) d.2.1 d.2.2.1,()))/\((jjE d x)=false->wm ((x:Int)+1)/\∃(a:Nat),(((x:Int)+1=(a:Int)/\vP (jfR d) (jfC d) x+(ji4 d x)=vP (jfR d) (jfC d) a/\True)/\True)/\(a<=(jfC d).length/\∀(b:Nat),b<a->I7 (jfR d) (mY (U.ro d.1)) d.2.1 (jfC d) b=true)/\(jfC d).length-a<(jfC d).length-x))/\(decide ((x:Int)<(jgF d))=false->d.1.isSome=true/\(decide (vP (jfR d) (jfC d) x<=(jgY d).1.q4.1),())=(Mc (U.ro d.1) d.2.1 d.2.2.1,())))
def Aq:wQ:=⟨[.val (.ptr tRo),.val .int],[.int],false,fun d=>[d.1.isSome=true,(bJ (U.ro d.1)).length<=60],fun d=>(dX (bJ (U.ro d.1)) d.2.1,())⟩
def Ar:Ann:=fun r=>match r with
 |2=>some fun σ=>{X:=Nat,sl:=fun i=>[(12,.dat .int (i:Int)),(4,.dat .int (aY (bJ (U.ro (gd (.ptr tRo) σ 0))) (gd .int σ 1) i))],ob:=fun _=>[],inv:=fun i=>i<=(bJ (U.ro (gd (.ptr tRo) σ 0))).length,mu:=fun i=>(bJ (U.ro (gd (.ptr tRo) σ 0))).length-i}
 |_=>none
abbrev jhi (d:Option RoD×Int×Unit):=(wG ((((0:Int),[],[],()),[],[],(0:Int),(0:Int),[],()),[],[],[],()) d.1)
abbrev jfS (d:Option RoD×Int×Unit):=(bJ (U.ro d.1))
def As:Prop:=∀(d:Option RoD×Int×Unit),d.1.isSome=true->(jfS d).length<=60->d.1.isSome=true/\((jhi d).2.2.1.length<4611686018427387904->(∃(x:Nat),((0=(x:Int)/\0=aY (jfS d) d.2.1 x/\True)/\True)/\x<=(jfS d).length)/\∀(x:Nat),x<=(jfS d).length->(decide ((x:Int)<(jhi d).2.2.1.length)=true->0<=(x:Int)/\(x:Int)<(jhi d).2.2.1.length/\(((nth (jhi d).2.2.1 (x:Int).toNat).any fun(b:Int)=>decide (b=d.2.1))=true->0<=(x:Int)/\(x:Int)<=64/\wm ((1:Int)*2^(x:Int).toNat)/\wm ((x:Int)+1)/\∃(a:Nat),(((x:Int)+1=(a:Int)/\bor (aY (jfS d) d.2.1 x) ((1:Int)*2^(x:Int).toNat)=aY (jfS d) d.2.1 a/\True)/\True)/\a<=(jfS d).length/\(jfS d).length-a<(jfS d).length-x)/\(((nth (jhi d).2.2.1 (x:Int).toNat).any fun(b:Int)=>decide (b=d.2.1))=false->wm ((x:Int)+1)/\∃(a:Nat),((aY (jfS d) d.2.1 x=aY (jfS d) d.2.1 a/\(x:Int)+1=(a:Int)/\True)/\True)/\a<=(jfS d).length/\(jfS d).length-a<(jfS d).length-x))/\(decide ((x:Int)<(jhi d).2.2.1.length)=false->(aY (jfS d) d.2.1 x,())=(dX (jfS d) d.2.1,())))
def Au:wQ:=⟨[.val (.ptr tRo),.val .int,.val .int],[.bool],false,fun d=>[d.1.isSome=true,aq (U.rd (U.ro d.1)) d.2.1],fun d=>(Ep (U.rd (U.ro d.1)) d.2.1 d.2.2.1,())⟩
abbrev jhK (d:Option RoD×Int×Int×Unit):=(wG ((((0:Int),[],[],()),[],[],(0:Int),(0:Int),[],()),[],[],[],()) d.1)
def Av:Prop:=∀(d:Option RoD×Int×Int×Unit),d.1.isSome=true->aq (U.rd (U.ro d.1)) d.2.1->d.1.isSome=true/\d.1.isSome=true/\0<=d.2.1/\d.2.1<(↑(jhK d).1.2.2.1.length:Int)/\(decide (bI (jhK d).1.1 (nth (jhK d).1.2.2.1 d.2.1.toNat).1 d.2.2.1=0)&&decide (jc0 (jhK d).1.1 (nth (jhK d).1.2.2.1 d.2.1.toNat).1 d.2.2.1=0)&&decide (d.2.2.1≠0),())=(Ep (U.rd (U.ro d.1)) d.2.1 d.2.2.1,())
theorem yd {d:DyD} (h:qv d=true):(wo d).length<=4/\(1<=(w6 d).length/\(w6 d).length<=5)/\(0<=A0 d/\A0 d<=300)/\(0<=Z5 d/\Z5 d<=1440)/\(w7 d).length<=30/\
 (∀r∈w6 d,cJ (w6 d).length r=true)/\(∀b∈wo d,mT (w6 d).length b=true)/\∀s∈w7 d,mU (wo d).length (wi (wq d)).length s=true:=by
 unfold qv at h;simp only[ji,jp,jT] at h;obtain⟨⟨e,f,g,i,j,k,l,m⟩,n,a,c⟩:=h;exact⟨e,⟨f,g⟩,⟨i,j⟩,⟨k,l⟩,m,n,a,c⟩
theorem jdv {d:DyD} {b:Int} (h:aq d b):U.bk d b∈wo d:=by
 unfold U.bk;exact L.wh (by unfold aq at h;omega)
theorem b9 {d:DyD} (h:qv d=true) {b:Int} (a:aq d b):(0<=T9 (U.bk d b)/\T9 (U.bk d b)<((w6 d).length:Int))/\0<=w8 (U.bk d b)/\w8 (U.bk d b)<gn (U.bk d b)/\gn (U.bk d b)<=1440:=by
 have:=(yd h).2.2.2.2.2.2.1 _ (jdv a);unfold mT at this;have:=ja this;omega
theorem s7 {d:DyD} (h:qv d=true) {i:Nat} (hi:i<(w6 d).length):(nth (w6 d) i).length=(w6 d).length/\∀j,j<(w6 d).length->0<=U.lo (nth (nth (w6 d) i) j)/\U.lo (nth (nth (w6 d) i) j)<=U.hi (nth (nth (w6 d) i) j)/\U.hi (nth (nth (w6 d) i) j)<=300:=by
 have:=(yd h).2.2.2.2.2.1 _ (L.wh hi);unfold cJ at this;rw[ji,jp,jT] at this;refine⟨this.1,fun j b=> ?_⟩;have a:=this.2 _ (L.wh (l:=nth (w6 d) i) (i:=j) (by omega));unfold tG at a;exact ja a
theorem Dp {d:DyD} (h:qv d=true) {a b:Int} (c:aq d a) (e:aq d b):0<=PI d a b/\PI d a b<=300:=by
 have f:=(b9 h c).1;have g:=(b9 h e).1;have:=(s7 h (i:=(T9 (U.bk d a)).toNat) (by omega)).2 (T9 (U.bk d b)).toNat (by omega);unfold PI;omega
theorem Aw:uE:=by
 unfold uE jgE jgs jga;rintro⟨(_|r),a,b,⟨⟩⟩ h c d e;cases h;obtain⟨c1,c2,c⟩:FN (U.rd r):=c;have d:aq (U.rd r) a:=d;have e:aq (U.rd r) b:=e;have g:=b9 c d;have j:=b9 c e;have k:=Dp c d e;have l:=(yd c).2.2.1;have m:=(s7 c (i:=(T9 (U.bk (U.rd r) a)).toNat) (by omega)).1;have f:(0<=a/\a<((wo (U.rd r)).length:Int))/\0<=b/\b<((wo (U.rd r)).length:Int):=⟨d,e⟩;refine⟨rfl,f.1.1,f.1.2,rfl,f.2.1,f.2.2,?_,rfl,?_,rfl,g.1.1,g.1.2,j.1.1,?_,?_,rfl⟩;show wm (w8 (U.bk (U.rd r) b)-gn (U.bk (U.rd r) a));exact iZ6;show wm (w8 (U.bk (U.rd r) b)-gn (U.bk (U.rd r) a)-A0 (U.rd r));exact iZ6;show T9 (U.bk (U.rd r) b)<((nth (w6 (U.rd r)) (T9 (U.bk (U.rd r) a)).toNat).length:Int);omega;show wm (w8 (U.bk (U.rd r) b)-gn (U.bk (U.rd r) a)-A0 (U.rd r)-PI (U.rd r) a b);exact iZ6
theorem uH:wV PR 211 uD:=wK Aw Tryz.func211 kcN koN
theorem pV:n8:=by
 unfold n8 jik;rintro⟨a,b,(_|r),⟨⟩⟩ e c d;cases e;have c:aq (U.rd r) a:=c;have d:aq (U.rd r) b:=d;exact⟨rfl,c.1,c.2,rfl,d.1,d.2,rfl⟩
theorem n9:wV PR 224 qO:=wK pV Tryz.func224 (kcC y4 (kcC b8 kcN)) koN
theorem jbQ (d:DyD):iw (tM d):=by
 have e:tM d=Uk (fun a b=>cT (w8 (U.bk d a)) (w8 (U.bk d b))) cT:=by
  funext a b;unfold tM;rw[qm,vL];rfl
 rw[e];exact pK (oE mw (fun a=>w8 (U.bk d a))) mw
theorem Wc {d:DyD} {a b:Int} (h:tM d a b=0):a=b:=by
 unfold tM at h;rw[qm] at h
 split at h
 contradiction;rw[vL] at h;exact bh.1 h
theorem Wd (d:DyD) (a b:Int):decide (tM d a b<0)=ak d a b:=by
 unfold tM ak;rw[qm,vL];refine decide_eq_decide.2 ?_;by_cases c:w8 (U.bk d a)<w8 (U.bk d b);have e:cT (w8 (U.bk d a)) (w8 (U.bk d b))= -1:=(by unfold cT;rw[jg c]);rw[e];simp;omega;by_cases f:w8 (U.bk d b)<w8 (U.bk d a);have e:cT (w8 (U.bk d a)) (w8 (U.bk d b))=1:=(by unfold cT;rw[jd c,jg f]);rw[e];simp;omega;have e:cT (w8 (U.bk d a)) (w8 (U.bk d b))=0:=(by unfold cT;rw[jd c,jd f]);rw[e];unfold cT;simp only[ne_eq,not_true_eq_false,if_false]
 split<;>(try split)<;>omega
theorem jfm (d:DyD) (l:List Int):yc (ak d) l:=by
 have:=Bk (t:= .int) (jbQ d) (l:=l) (fun _ _ _ _ h=>Wc h);have e:(wd .int fun(x:Int×Int×Unit)=>(tM d x.1 x.2.1,()))=ak d:=by
  funext a b;exact Wd d a b
 rw[e] at this;exact this
theorem ltK (d:DyD):(cf fun(x:Int×Int×Unit)=>(tM d x.1 x.2.1,()))=ak d:=by
 funext a b;exact Wd d a b
theorem uI:dD:=by
 unfold dD jjD;rintro⟨(_|r),l,⟨⟩⟩ c f;cases c;obtain⟨d,b⟩:Eo (U.rd r) l:=f;refine⟨⟨d,fun x g y h=>⟨rfl,b x g,b y h,tZ⟩,?_,tZ⟩,fun q a=> ?_⟩;have e:=ltK (U.rd r);show yc (cf fun(x:Int×Int×Unit)=>(tM (U.rd r) x.1 x.2.1,())) l;rw[e];exact jfm _ l;have e:=ltK (U.rd r);have a:q.1.1=wc (cf fun(x:Int×Int×Unit)=>(tM (U.rd r) x.1 x.2.1,())) l:=a;rw[e] at a;obtain⟨⟨q,⟨⟩⟩,⟨⟩⟩:=q;rw[show q=_ from a];rfl
theorem KS:(Mv 9 [(224,qO)] [] [(223,vl)] []).ok PR:=Nu ⟨fun _=>n9,tZ⟩ trivial ⟨Ao,tZ⟩ trivial
theorem s8:wV PR 209 dC:=
 jdm (body:=qf Tryz.f209) (C:=Mv 9 [(224,qO)] [] [(223,vl)] []) (hk:=hkC (Mv 9 [(224,qO)] [] [(223,vl)] []) (fun _=>none) jby [8] [(222,20,vw)]) KS mixed Tryz.func209 (by kernel_rfl) (by kernel_rfl) (by kernel_rfl) (by decide)
  (fun B=>GA KS mixed Np (Wb mI) B) (mJ.mpr uI)
theorem Ax:uG:=by
 rintro⟨b,(_|r),a,⟨⟩⟩ c f e d;cases c;exact⟨rfl,f,d,e,rfl⟩
theorem uJ:wV PR 210 uF:=wK Ax Tryz.func210 (kcC uH kcN) koN
theorem pW {d:DyD} {s:List Int} {i:Nat} (h:i<s.length):vP d s (i+1)=vP d s i+(gn (U.bk d (nth s i))-w8 (U.bk d (nth s i))):=by
 unfold vP I5;rw[L.wO h,zw,jU];rfl
theorem N3 {d:DyD} (a:qv d=true) {s:List Int} (c:∀b∈s,aq d b):∀i,i<=s.length->0<=vP d s i/\vP d s i<=1440*(i:Int)
 |0,_=>⟨zN _,zN _⟩
 |i+1,hi=>by
  have f:=N3 a c i (by omega)
  have e:=b9 a (c _ (L.wh (l:=s) (i:=i) (by omega)))
  rw[pW (by omega)]
  omega
theorem N4 {d:DyD} {l:List Int} {b:Int}:b∈wx d l↔b∈l:=(qc l).mem_iff
theorem N5 (d:DyD) (l:List Int):(wx d l).length=l.length:=(qc l).length_eq
theorem E3:Do:=by
 unfold Do jjE jgF ji4 jhh jfC jfR jgY Prod.q4;rintro⟨(_|r),p,l,⟨⟩⟩ D v q K;cases D;obtain⟨⟨c1,c2,u⟩,v⟩:Rf r:=v;have q:My (U.rd r) p:=q;obtain⟨z,A⟩:Eo (U.rd r) l:=K;have N:=(w4 c1).2.2.1;refine⟨rfl,⟨z,A⟩,fun _=> ?_⟩;obtain⟨s,o⟩:∃s,s=wx (U.rd r) l:=⟨_,rfl⟩;have O:s.length<=12:=(by rw[o,N5];exact z);have k:∀b∈s,aq (U.rd r) b:=fun b d=>A b (by rw[o] at d;exact N4.1 d)
 have t:U.ro (some r)=r:=rfl;simp only[t,<-o];refine⟨⟨0,⟨⟨rfl,rfl,tZ⟩,tZ⟩,jl _,fun b d=>by omega⟩,fun x w=>⟨fun h=> ?_,fun h=> ?_⟩⟩;have h:(x:Int)<s.length:=ja h;have a:x<s.length:=(by omega);have d:=k _ (L.wh a);have H:=b9 u d;have M:=N3 u k x (by omega);have C:((x:Int)+1).toNat=x+1:=(by omega);have B:(s.drop (x+1)).take (s.length-(x+1))=s.drop (x+1):=zv (by rw[zD];omega);have I:w8 (U.bk (U.rd r) (nth s x))=(nth (wo (U.rd r)) (nth s x).toNat).2.2.1:=rfl;simp only[jw,C,B];have n:(nth s x)<((mY r).length:Int):=(by rw[v];exact d.2);have m:I7 (U.rd r) (mY r) p s x= !(decide (fO (nth (mY r) (nth s x).toNat/2^p.toNat) 1=0)||(s.drop (x+1)).any (fun c=>decide (bG (U.rd r) (nth s x) c<0))):=rfl;have j:((s.drop (x+1)).any (wb fun(y:Int×Unit)=>(decide (bG (U.rd r) (nth s x) y.fst<0),())))=(s.drop (x+1)).any (fun c=>decide (bG (U.rd r) (nth s x) c<0)):=rfl;unfold My at q;refine⟨by omega,h,rfl,d.1,d.2,rfl,d.1,d.2,?_,?_,rfl,d.1,n,q.1,by omega,fun _=>iZ6,fun _=>by omega,fun _=>by omega,fun _=>by omega,fun _ g J=>⟨rfl,⟨c1,c2,u⟩,k g (z8 J),d,tZ⟩,fun f=> ?_,fun f=>⟨iZ6,x+1,⟨⟨by simp,(pW a).symm,tZ⟩,tZ⟩,⟨by omega,fun b G=> ?_⟩,by omega⟩⟩;show wm (gn (U.bk (U.rd r) (nth s x))-w8 (U.bk (U.rd r) (nth s x)));exact iZ6;show wm (vP (U.rd r) s x+(gn (U.bk (U.rd r) (nth s x))-w8 (U.bk (U.rd r) (nth s x))));exact iZ6;have f:(decide (fO (nth (mY r) (nth s x).toNat/2^p.toNat) 1=0)||((s.drop (x+1)).any (wb fun(y:Int×Unit)=>(decide (bG (U.rd r) (nth s x) y.fst<0),()))))=true:=f;have f:I7 (U.rd r) (mY r) p s x=false:=(by rw[m,<-j,f];rfl);have:Mc r p l=false:=by
  unfold Mc PJ jcF;rw[<-o];have:(List.range s.length).all (I7 (U.rd r) (mY r) p s)=false:=by
   rw[zU];exact⟨x,by simpa using a,by rw[f];simp⟩
  rw[this];rfl
 rw[this];by_cases e:b=x;subst e;have f:(decide (fO (nth (mY r) (nth s b).toNat/2^p.toNat) 1=0)||((s.drop (b+1)).any (wb fun(y:Int×Unit)=>(decide (bG (U.rd r) (nth s b) y.fst<0),()))))=false:=f;rw[m,<-j,f];rfl;exact w.2 b (by omega);have h:¬(x:Int)<s.length:=jc h;have a:x=s.length:=(by have:=w.1;omega);refine⟨rfl,?_⟩;have E:(List.range s.length).all (I7 (U.rd r) (mY r) p s)=true:=by
  rw[jT];intro i hi;exact w.2 i (by rw[a];simpa using hi)
 have F:vP (U.rd r) s x=I5 (U.rd r) s:=by
  unfold vP;rw[a,zv (jj _)]
 rw[F];have:Mc r p l=decide (I5 (U.rd r) s<=Z5 (U.rd r)):=by
  unfold Mc PJ jcF;rw[<-o,E,Bool.true_and]
 rw[this];rfl
theorem Dq:wV PR 182 Dm:=qY Dn E3 Tryz.func182 (kcC s8 (kcC uJ (kcC yW kcN))) koN
theorem Dr (on:List (List Int)) (b:Int) (n:Nat):aY on b (n+1)=if(nth on n).any (fun x=>decide (x=b))=true then bor (aY on b n) (1*2^n) else aY on b n:=by
 unfold aY;rw[zc,jU];rfl
theorem mK (n:Nat):(1:Int)*2^n=2^n:=Int.one_mul _
theorem Dt:As:=by
 unfold As jfS jhi;rintro⟨(_|r),b,⟨⟩⟩ g d;cases g;have d:(bJ r).length<=60:=d;have c:U.ro (some r)=r:=rfl;refine⟨rfl,fun _=>⟨⟨0,⟨⟨rfl,rfl,tZ⟩,tZ⟩,jl _⟩,fun x f=>⟨fun h=> ?_,fun h=> ?_⟩⟩⟩;have h:(x:Int)<(bJ r).length:=ja h;have e:=Dr (bJ r) b x;have i:BT.qh ((2:Int)^x):=BT.iS (by omega);unfold BT.qh at i;simp only[jw,c];refine⟨by omega,h,fun a=>⟨by omega,by omega,by rw[mK];exact iZ6,iZ6,x+1,⟨⟨by simp,?_,tZ⟩,tZ⟩,by omega,by omega⟩,fun a=>⟨iZ6,x+1,⟨⟨?_,by simp,tZ⟩,tZ⟩,by omega,by omega⟩⟩;rw[e];have a:((nth (bJ r) x).any fun y=>decide (y=b))=true:=a;rw[jg a];rw[e];have a:((nth (bJ r) x).any fun y=>decide (y=b))=false:=a;rw[jd (by rw[a];simp)];have h:¬(x:Int)<(bJ r).length:=jc h;have f:x<=(bJ r).length:=f;rw[show x=(bJ r).length by omega];rfl
theorem i9:wV PR 106 Aq:=qY Ar Dt Tryz.func106 (kcC dA kcN) koN
theorem Du:Av:=by
 unfold Av jhK;rintro⟨(_|r),b,t,⟨⟩⟩ c a;cases c;have a:aq (U.rd r) b:=a;exact⟨rfl,rfl,a.1,a.2,rfl⟩
theorem Ay:wV PR 107 Au:=wK Du Tryz.func107 (kcC NN kcN) koN
theorem pX {l:List ShD} {s:ShD}:s∈qo l↔s∈l:=by
 have e:qo l=bN (fun a b=>decide (a=b)) (wc (wd tSh fun x=>(dH x.1 x.2.1,())) l):=by
  unfold qo;congr 1
 rw[e,L.comp_mem];exact(qc l).mem_iff
theorem KT (l:List ShD):(qo l).Nodup:=by
 have e:qo l=bN (fun a b=>decide (a=b)) (wc (wd tSh fun x=>(dH x.1 x.2.1,())) l):=by
  unfold qo;congr 1
 rw[e];refine L.asc_nodup (lt:=wd tSh fun x=>(dH x.1 x.2.1,())) (fun x=> ?_) (L.comp_asc (Za _) (cn (Za l)));exact(Za [x]).irrefl x (kV.2 rfl)
theorem jaw (l:List ShD):∀i,i<=l.length->∀k,wM 0 (wA .int k (yT [] l i))=(((l.take i).countP (fun s=>decide (gx s=k)):Nat):Int)
 |0,_,k=>rfl
 |i+1,hi,k=>by
  have a:=jaw l i (by omega)
  rw[fh (by omega),L.wO (by omega),zK]
  unfold nK
  by_cases e:k=gx (nth l i)
  rw[e]
  rw[M.rm (kt:= .int) (gx (nth l i)) (wM 0 (wA .int (gx (nth l i)) (yT [] l i))+1) (yT [] l i)]
  show wM 0 (wA .int (gx (nth l i)) (yT [] l i))+1=_
  rw[a]
  simp
  rw[M.dZ (kt:= .int) (k:=gx (nth l i)) (k':=k) e (wM 0 (wA .int (gx (nth l i)) (yT [] l i))+1) (yT [] l i),a]
  have:decide (gx (nth l i)=k)=false:=zn fun h=>e h.symm
  simp[this]
theorem QI {l:List ShD} {i:Nat} (h:i<l.length):tL [] l i=(l.take i).any (fun s=>decide (gx s=gx (nth l i))):=by
 unfold tL Re;rw[<-fh h,jaw l (i+1) (by omega),L.wO h,zK];rw[j0,jp,za];have b:List.countP (fun s=>decide (gx s=gx (nth l i))) [nth l i]=1:=(by simp);rw[b];constructor;intro a;have:0<(l.take i).countP (fun s=>decide (gx s=gx (nth l i))):=(by omega);rw[List.countP_pos_iff] at this;exact this;intro a;have:0<(l.take i).countP (fun s=>decide (gx s=gx (nth l i))):=List.countP_pos_iff.2 a;omega
theorem jbR (l:List ShD):Un l=false↔(l.map gx).Nodup:=by
 have g:Un l=false↔∀i,i<l.length->tL [] l i=false:=by
  unfold Un;constructor;intro h i hi;cases k:tL [] l i with
  |false=>rfl
  |true=>
   exfalso;have b:(List.range l.length).findIdx? (tL [] l)≠none:=by
    intro f;rw[kw] at f;have:=f i (jD.2 hi);rw[k] at this;cases this
   unfold mX gy at h;cases d:(List.range l.length).findIdx? (tL [] l) with
   |none=>exact b d
   |some j=>
    rw[d] at h;have h:=jc h;exact h (jX j)
  intro h;rw[(GH h).1];rfl
 rw[g,kR,zT,zI];constructor;intro h i j hi a m e;have:=h j a;rw[QI a,zi] at this;have c:=this (l[i]) (by rw[zb];exact⟨i,by omega,rfl⟩);rw[L.qM a] at c;simp[e] at c;intro h i hi;rw[QI hi,zi];intro s b;rw[zb] at b;obtain⟨j,a,rfl⟩:=b;have:=h j i (by omega) hi (by omega);rw[L.qM hi];simpa using this
theorem We (l:List ShD):Un (qo l)=false↔∀a∈l,∀b∈l,gx a=gx b->a=b:=by
 rw[jbR];constructor;intro h a c b d e;exact L.nodup_inj h (pX.2 c) (pX.2 d) e;intro h;rw[kR,zT];exact(List.Pairwise.imp_of_mem (fun{a b} c d f e=>f (h a (pX.1 c) b (pX.1 d) e)) (KT l))
theorem Wf (l:List ShD):bV l=false↔∀a∈l,∀b∈l,gx a=gx b->a=b:=by
 have k:bV l=false↔∀i,i<l.length->∀j,j<i->Em (nth l i) (nth l j)=false:=by
  unfold bV aB Bp;rw[zi];constructor;intro h i hi j d;have:=h i (jD.2 hi);rw[zZ,zi] at this;have:=this (nth l j) (by rw[zb];exact⟨j,by omega,(L.qM (by omega)).symm⟩);simpa using this;intro h i hi;have hi:=jD.1 hi;rw[zZ,zi];intro s g;rw[zb] at g;obtain⟨j,d,rfl⟩:=g;have:=h i hi j (by omega);rw[L.qM (l:=l) (i:=j) (by omega)] at this;simpa using this
 rw[k];have f:∀a b:ShD,Em a b=false↔(gx a=gx b->a=b):=by
  intro a b;unfold Em;rw[kl];simp only[jH,zl,jp];constructor;rintro(h|h) e;exact absurd e h;exact h;intro h;by_cases e:gx a=gx b;exact .inr (h e);exact .inl e
 constructor;intro h a m b n e;obtain⟨i,hi,rfl⟩:=L.mem_iff.1 m;obtain⟨j,d,rfl⟩:=L.mem_iff.1 n;rcases Nat.lt_trichotomy i j with c|rfl|c;exact((f _ _).1 (h j d i c) e.symm).symm;rfl;exact(f _ _).1 (h i hi j c) e;intro h i hi j d;exact(f _ _).2 (h _ (L.wh hi) _ (L.wh (by omega)))
theorem Wg (l:List ShD):Un (qo l)=bV l:=by
 have:=(We l).trans (Wf l).symm;cases a:Un (qo l) with
 |false=>exact(this.1 a).symm
 |true=>
  cases b:bV l with
  |false=>rw[this.2 b] at a;cases a
  |true=>rfl
theorem fx (d:DyD):qe d=aj d:=by
 unfold qe xa aj;rw[Wg]
 split
 rfl
 split
 rfl;rw[jd (by simp)]
abbrev tSt:Ty:= .st [.int,.int]
abbrev jeh:Sh:= .box 168 [.dat .int,.dat (.slice tPe),.dat (.slice tLw),.dat (.slice (.slice tSp)),.dat (.slice tBk),.dat .int,.dat .int,.dat (.slice tSh),.row 3 .int .yes,.row 31 (.slice .int) .no,.row 3 .int .unk]
namespace U
def noI:List Int:=[]
def yF (b:jeh.D):RoD:=(((b.1,b.2.1,b.2.2.1,()),b.2.2.2.1,b.2.2.2.2.1,b.2.2.2.2.2.1,b.2.2.2.2.2.2.1,b.2.2.2.2.2.2.2.1,()),b.2.2.2.2.2.2.2.2.1,b.2.2.2.2.2.2.2.2.2.1,b.2.2.2.2.2.2.2.2.2.2.1,())
def A1 (b:jeh.D) (x:List (List Int)×List Int):jeh.D:=(b.1,b.2.1,b.2.2.1,b.2.2.2.1,b.2.2.2.2.1,b.2.2.2.2.2.1,b.2.2.2.2.2.2.1,b.2.2.2.2.2.2.2.1,b.2.2.2.2.2.2.2.2.1,x.1,x.2,())
def fH (s:ShD):Int×Int×Unit:=(lL s,ao s,())
def vb (l:List ShD) (n:Nat):List ((Int×Int×Unit)×ShD):=(l.take n).foldl (fun m s=>fN tSt (fH s) s m) []
def yy (m:List ((Int×Int×Unit)×ShD)) (s:ShD):Bool:= !(!decide (wM (Ty.dflt tSh) (wA tSt (fH s) m)=s)|| !decide (XS s=1))
def Md (d:DyD) (dG:List Int) (m:List ((Int×Int×Unit)×ShD)) (x:List (List Int)×List Int) (s:ShD):List (List Int)×List Int:=
 if yy m s=true then(if PJ d dG (ao s) (nth x.1 (ao s).toNat++[lL s])=true then(x.1.set (ao s).toNat (nth x.1 (ao s).toNat++[lL s]),x.2) else(x.1,x.2++[gx s])) else x
def jft (l:List ShD):List ShD:=wc (wd tSh fun x=>(wz x.1 x.2.1,())) l
def vp (d:DyD):List ShD:=jft (qo (w7 d))
def yC (r:RoD) (l:List ShD) (n:Nat):List (List Int)×List Int:=(l.take n).foldl (Md (rd r) (mY r) (vb l l.length)) (bJ r,jeP r)
def bO (r:RoD):List (List Int)×List Int:=((yC r (vp (rd r)) (vp (rd r)).length).1,El (yC r (vp (rd r)) (vp (rd r)).length).2)
def jcG (l:List (List Int)):Prop:=∀x∈l,x=noI
def Z6 (r:RoD):Prop:=(qe (rd r)=0/\(mY r).length=(wo (rd r)).length)/\((bJ r).length=(wi (wq (rd r))).length/\jcG (bJ r))/\jeP r=noI
def dI (r:RoD) (l:List ShD) (n:Nat) (x:List (List Int)×List Int):Prop:=x.1.length=(wi (wq (rd r))).length/\x.2.length<=n/\∀p:Nat,(nth x.1 p).Nodup/\∀b∈nth x.1 p,aq (rd r) b/\∃i:Nat,i<n/\fH (nth l i)=(b,(p:Int),())/\wM (Ty.dflt tSh) (wA tSt (fH (nth l i)) (vb l l.length))=nth l i
end U
def bx (σ:St) (o:Nat):List SV:=match σ.obj o with|some (.box _ _ cs)=>cs|_=>[]
def gb (t:Ty) (σ:St) (o:Nat):t.Data:=match yY σ t (bx σ o) with|some (x,_)=>x|none=>t.dflt
abbrev E4:q7:=VH 3
def uK:q7:=⟨[.own jeh true],[],fun d=>[Z6 (yF d.1)],fun d=>((),(A1 d.1 (bO (yF d.1)),()))⟩
def uL:Ann:=fun r=>match r with
 |4=>some fun σ=>{X:=Nat,sl:=fun i=>[(20,.dat .int (i:Int))],ob:=fun i=>[(9,some (.map false tSt tSh (vb (gr tSh σ 3) i)))],inv:=fun i=>i<=(gr tSh σ 3).length,mu:=fun i=>(gr tSh σ 3).length-i}
 |9=>some fun σ=>{X:=Nat,sl:=fun i=>[(34,.dat .int (i:Int))],ob:=fun i=>[(400009,some (.row 31 (.slice .int) false .no (yC (gb tRo σ 1000000) (gr tSh σ 3) i).1)),(400010,some (.row 3 .int false .unk (yC (gb tRo σ 1000000) (gr tSh σ 3) i).2))],inv:=fun i=>i<=(gr tSh σ 3).length/\dI (gb tRo σ 1000000) (gr tSh σ 3) i (yC (gb tRo σ 1000000) (gr tSh σ 3) i),mu:=fun i=>(gr tSh σ 3).length-i}
 |_=>none
abbrev jfK (d:(Int×List PeD×List LwD×List (List (Int×Int×Unit))×List BkD×Int×Int×List ShD×List Int×List (List Int)×List Int×Unit)×Unit):=(((d.1.1,d.1.2.1,d.1.2.2.1,()),d.1.2.2.2.1,d.1.q4.1,d.1.q4.2.1,d.1.q4.2.2.1,d.1.q4.2.2.2.1,()),d.1.q4.q4)
abbrev jil:=(Ty.int.pair (Ty.int.pair Ty.unit))
abbrev jjF:=(wd (Ty.int.pair (Ty.int.pair (Ty.int.pair jil))) fun(a:ShD×ShD×Unit)=>(wz a.1 a.2.1,()))
abbrev jfv (d:(Int×List PeD×List LwD×List (List (Int×Int×Unit))×List BkD×Int×Int×List ShD×List Int×List (List Int)×List Int×Unit)×Unit):=(wc jjF (qo d.1.q4.2.2.2.1))
abbrev jfz (d:(Int×List PeD×List LwD×List (List (Int×Int×Unit))×List BkD×Int×Int×List ShD×List Int×List (List Int)×List Int×Unit)×Unit)(a:Nat):=(nth (jfv d) (a:Int).toNat)
abbrev jfD (d:(Int×List PeD×List LwD×List (List (Int×Int×Unit))×List BkD×Int×Int×List ShD×List Int×List (List Int)×List Int×Unit)×Unit)(a:Nat):=(yC (jfK d) (jfv d) a)
abbrev jhj (d:(Int×List PeD×List LwD×List (List (Int×Int×Unit))×List BkD×Int×Int×List ShD×List Int×List (List Int)×List Int×Unit)×Unit)(a:Nat):=(some (((d.1.1,d.1.2.1,d.1.2.2.1,()),d.1.2.2.2.1,d.1.q4.1,d.1.q4.2.1,d.1.q4.2.2.1,d.1.q4.2.2.2.1,()),d.1.q4.q4.1,(jfD d a).1,(jfD d a).2,()))
abbrev jjG:=((0:Int),(0:Int),(0:Int),(0:Int),(0:Int),())
def uM:Prop:=∀(d:(Int×List PeD×List LwD×List (List (Int×Int×Unit))×List BkD×Int×Int×List ShD×List Int×List (List Int)×List Int×Unit)×Unit),Z6 (yF d.1)->d.1.q4.2.2.2.1.length<=100000/\(∀(c:ShD),c∈qo d.1.q4.2.2.2.1->∀(y:ShD),y∈qo d.1.q4.2.2.2.1->wy [])/\yc jjF (qo d.1.q4.2.2.2.1)/\((jfv d).length<4611686018427387904->(∃(x:Nat),((0=(x:Int)/\True)/\[]=vb (jfv d) x/\True)/\x<=(jfv d).length)/\∀(x:Nat),x<=(jfv d).length->(decide ((x:Int)<(jfv d).length)=true->0<=(x:Int)/\(x:Int)<(jfv d).length/\wm ((x:Int)+1)/\∃(b:Nat),(((x:Int)+1=(b:Int)/\True)/\fN jil (nth (jfv d) (x:Int).toNat).2.2.2 (nth (jfv d) (x:Int).toNat) (vb (jfv d) x)=vb (jfv d) b/\True)/\b<=(jfv d).length/\(jfv d).length-b<(jfv d).length-x)/\(decide ((x:Int)<(jfv d).length)=false->(jfv d).length<4611686018427387904->(∃(x:Nat),((0=(x:Int)/\True)/\d.1.q4.q4.2.1=(yC (jfK d) (jfv d) x).1/\d.1.q4.q4.2.2.1=(yC (jfK d) (jfv d) x).2/\True)/\x<=(jfv d).length/\dI (jfK d) (jfv d) x (yC (jfK d) (jfv d) x))/\∀(a:Nat),a<=(jfv d).length/\dI (jfK d) (jfv d) a (jfD d a)->(decide ((a:Int)<(jfv d).length)=true->0<=(a:Int)/\(a:Int)<(jfv d).length/\((!decide (wM jjG (wA jil (jfz d a).2.2.2 (vb (jfv d) x))=nth (jfv d) (a:Int).toNat)||decide ((jfz d a).2.2.1≠1))=true->wm ((a:Int)+1)/\∃(b:Nat),(((a:Int)+1=(b:Int)/\True)/\(jfD d a).2=(yC (jfK d) (jfv d) b).2/\(jfD d a).1=(yC (jfK d) (jfv d) b).1/\True)/\(b<=(jfv d).length/\dI (jfK d) (jfv d) b (yC (jfK d) (jfv d) b))/\(jfv d).length-b<(jfv d).length-a)/\((!decide (wM jjG (wA jil (jfz d a).2.2.2 (vb (jfv d) x))=nth (jfv d) (a:Int).toNat)||decide ((jfz d a).2.2.1≠1))=false->(0:Int)<=(jfz d a).q4.1/\(jfz d a).q4.1<(↑(jfD d a).1.length:Int)/\(0:Int)<=(jfz d a).q4.1/\(jfz d a).q4.1<(↑(jfD d a).1.length:Int)/\(0:Int)<=(jfz d a).q4.1/\(jfz d a).q4.1<(↑(jfD d a).1.length:Int)/\(↑(nth (jfD d a).1 (jfz d a).q4.1.toNat).length:Int)=(nth (jfD d a).1 (jfz d a).q4.1.toNat).length/\(↑(nth (jfD d a).1 (jfz d a).q4.1.toNat).length:Int)=(nth (jfD d a).1 (jfz d a).q4.1.toNat).length/\((nth (jfD d a).1 (jfz d a).q4.1.toNat).length+[(jfz d a).2.2.2.1].length)*8<=140737488355328/\(jhj d a).isSome=true/\Rf (U.ro (jhj d a))/\My (U.rd (U.ro (jhj d a))) (jfz d a).q4.1/\Eo (U.rd (U.ro (jhj d a))) (nth (jfD d a).1 (jfz d a).q4.1.toNat++[(jfz d a).2.2.2.1])/\(Mc (U.ro (jhj d a)) (jfz d a).q4.1 (nth (jfD d a).1 (jfz d a).q4.1.toNat++[(jfz d a).2.2.2.1])=true->(0:Int)<=(jfz d a).q4.1/\(jfz d a).q4.1<(↑(jfD d a).1.length:Int)/\wm ((a:Int)+1)/\∃(b:Nat),(((a:Int)+1=(b:Int)/\True)/\(jfD d a).2=(yC (jfK d) (jfv d) b).2/\(jfD d a).1.set (jfz d a).q4.1.toNat (nth (jfD d a).1 (jfz d a).q4.1.toNat++[(jfz d a).2.2.2.1])=(yC (jfK d) (jfv d) b).1/\True)/\(b<=(jfv d).length/\dI (jfK d) (jfv d) b (yC (jfK d) (jfv d) b))/\(jfv d).length-b<(jfv d).length-a)/\(Mc (U.ro (jhj d a)) (jfz d a).q4.1 (nth (jfD d a).1 (jfz d a).q4.1.toNat++[(jfz d a).2.2.2.1])=false->((jfD d a).2.length+[(jfz d a).1].length)*8<=140737488355328/\wm ((a:Int)+1)/\∃(b:Nat),(((a:Int)+1=(b:Int)/\True)/\(jfD d a).1=(yC (jfK d) (jfv d) b).1/\(d.1.1=d.1.1/\d.1.2.1=d.1.2.1/\d.1.2.2.1=d.1.2.2.1/\d.1.2.2.2.1=d.1.2.2.2.1/\d.1.q4.1=d.1.q4.1/\d.1.q4.2.1=d.1.q4.2.1/\d.1.q4.2.2.1=d.1.q4.2.2.1/\d.1.q4.2.2.2.1=d.1.q4.2.2.2.1/\True/\True/\True/\True)/\(jfD d a).2++[(jfz d a).1]=(yC (jfK d) (jfv d) b).2/\True)/\(b<=(jfv d).length/\dI (jfK d) (jfv d) b (yC (jfK d) (jfv d) b))/\(jfv d).length-b<(jfv d).length-a)))/\(decide ((a:Int)<(jfv d).length)=false->()=()/\((d.1.1,d.1.2.1,d.1.2.2.1,d.1.2.2.2.1,d.1.q4.1,d.1.q4.2.1,d.1.q4.2.2.1,d.1.q4.2.2.2.1,d.1.q4.q4.1,(jfD d a).1,El (jfD d a).2,()),())=(A1 d.1 (bO (yF d.1)),()))))
theorem gI {d:DyD} (h:qe d=0):FN d/\∀a∈w7 d,∀b∈w7 d,gx a=gx b->a=b:=by
 unfold qe xa at h;cases c:wt (wq d) with
 |false=>rw[c] at h;simp at h
 |true=>
  cases e:I4 d with
  |false=>rw[c,e] at h;simp at h
  |true=>
   cases f:qv d with
   |false=>rw[c,e,f] at h;simp at h
   |true=>
    cases g:Un (qo (w7 d)) with
    |true=>rw[c,e,f,g] at h;simp at h
    |false=>exact⟨⟨c,e,f⟩,(We _).1 g⟩
theorem jbS:iw wz:=by
 have e:wz=Uk (fun a b=>cT (Ez a) (Ez b)) (fun a b=>cT (gx a) (gx b)):=by
  funext a b;unfold wz;rw[qm,vL];rfl
 rw[e];exact pK (oE mw Ez) (oE mw gx)
theorem Wh {a b:ShD} (h:wz a b=0):gx a=gx b:=by
 unfold wz at h;rw[qm,vL] at h
 split at h
 contradiction;exact bh.1 h
theorem je5 {d:DyD} (h:qe d=0):yc (wd tSh fun x=>(wz x.1 x.2.1,())) (qo (w7 d)):=
 Bk jbS (fun a b e f c=>(gI h).2 a (pX.1 e) b (pX.1 f) (Wh c))
theorem iL {d:DyD} {s:ShD}:s∈vp d↔s∈w7 d:=((qc _).mem_iff).trans pX
theorem fy (d:DyD):(vp d).Nodup:=(qc _).nodup_iff.2 (KT _)
theorem jbT (d:DyD):(vp d).length<=(w7 d).length:=by
 unfold vp jft;rw[(qc _).length_eq];exact V7 _
theorem nB {d:DyD} (h:qv d=true) {s:ShD} (a:s∈w7 d):(0<=ao s/\ao s<((wi (wq d)).length:Int))/\aq d (lL s):=by
 have:=(yd h).2.2.2.2.2.2.2 _ a;unfold mU at this;have:=ja this;unfold aq;omega
theorem Dv {l:List ShD} {i:Nat} (h:i<l.length):vb l (i+1)=fN tSt (fH (nth l i)) (nth l i) (vb l i):=by
 unfold vb;rw[L.wO h,jU];rfl
theorem s9 {r:RoD} {l:List ShD} {i:Nat} (h:i<l.length):yC r l (i+1)=Md (U.rd r) (mY r) (vb l l.length) (yC r l i) (nth l i):=by
 unfold yC;rw[L.wO h,jU];rfl
theorem jeA {d:DyD} {l:List Int} (c:l.Nodup) (a:∀b∈l,aq d b):l.length<=(wo d).length:=by
 have:=L.nodup_len l ((List.range (wo d).length).map (fun(b:Nat)=>(b:Int))) c (fun x e=>by
  have:=a x e;unfold aq at this;exact jV.2 ⟨x.toNat,jD.2 (by omega),by omega⟩)
 simpa using this
section
variable {r:RoD} {l:List ShD} {i:Nat}
theorem Wi (t:qv (U.rd r)=true) (u:∀s∈l,s∈w7 (U.rd r)) (nd:l.Nodup) (h:i<l.length) {x:List (List Int)×List Int} (w:dI (U.rd r,mY r,bJ r,jeP r,()) l i x)
 (g:yy (vb l l.length) (nth l i)=true):(nth x.1 (ao (nth l i)).toNat++[lL (nth l i)]).Nodup/\(∀b∈nth x.1 (ao (nth l i)).toNat++[lL (nth l i)],aq (U.rd r) b)/\
  ∀b∈nth x.1 (ao (nth l i)).toNat++[lL (nth l i)],∃j:Nat,j<i+1/\fH (nth l j)=(b,((ao (nth l i)).toNat:Int),())/\wM (Ty.dflt tSh) (wA tSt (fH (nth l j)) (vb l l.length))=nth l j:=by
 obtain⟨z,A,p⟩:=w;have v:=nB t (u _ (L.wh h));have d:wM (Ty.dflt tSh) (wA tSt (fH (nth l i)) (vb l l.length))=nth l i:=by
  unfold yy at g;simp only[jS,jR,zl,jp] at g;exact g.1
 have n:((ao (nth l i)).toNat:Int)=ao (nth l i):=(by omega);obtain⟨y,k⟩:=p (ao (nth l i)).toNat;refine⟨?_,fun b c=> ?_,fun b c=> ?_⟩;refine zF.2 ⟨y,by simp,fun a q b c e=> ?_⟩;simp at c;subst c;subst e;obtain⟨_,j,m,f,e2⟩:=k _ q;rw[n] at f;have o:fH (nth l j)=fH (nth l i):=f;rw[o,d] at e2;have:=(kR.1 nd);rw[zI] at this;refine this j i (by omega) h m ?_;rw[<-L.qM,<-L.qM h];exact e2.symm;rcases jr.1 c with c|c;exact(k b c).1;simp at c;subst c;exact v.2;rcases jr.1 c with c|c;obtain⟨_,j,m,f,e2⟩:=k b c;exact⟨j,by omega,f,e2⟩;simp at c;subst c;exact⟨i,by omega,by rw[n];rfl,d⟩
theorem Wj {r:RoD} {x:List (List Int)×List Int} (a:dI r l i x):dI r l (i+1) x:=
 ⟨a.1,by have:=a.2.1;omega,fun p=>⟨(a.2.2 p).1,fun b c=>⟨((a.2.2 p).2 b c).1,by
  obtain⟨j,d,e⟩:=((a.2.2 p).2 b c).2
  exact⟨j,by omega,e⟩⟩⟩⟩
theorem jax (g:qv (U.rd r)=true) (j:∀s∈l,s∈w7 (U.rd r)) (nd:l.Nodup) (h:i<l.length) {x:List (List Int)×List Int} (a:dI r l i x):
 dI r l (i+1) (Md (U.rd r) (mY r) (vb l l.length) x (nth l i)):=by
 unfold Md;cases k:yy (vb l l.length) (nth l i) with
 |false=>rw[jd (by simp)];exact Wj a
 |true=>
  rw[jg rfl];have d:=Wi g j nd h a k;have m:=nB g (j _ (L.wh h))
  split
  refine⟨by show(x.1.set _ _).length=_;rw[kg];exact a.1,by have:=a.2.1;show x.2.length<=_;omega,fun p=> ?_⟩;have c:(ao (nth l i)).toNat<x.1.length:=(by rw[a.1];omega);show(nth (x.1.set (ao (nth l i)).toNat (nth x.1 (ao (nth l i)).toNat++[lL (nth l i)])) p).Nodup/\_;rw[L.bj c]
  split
  rename_i e;subst e;exact⟨d.1,fun b f=>⟨d.2.1 b f,d.2.2 b f⟩⟩;exact(Wj a).2.2 p;refine⟨a.1,?_,(Wj a).2.2⟩;have:=a.2.1;show(x.2++[gx (nth l i)]).length<=_;rw[jI];simp;omega
end
theorem QJ {l:List (List Int)} (h:jcG l) (p:Nat):nth l p=[]:=by
 by_cases a:p<l.length;exact h _ (L.wh a);unfold nth;rw[ze,List.getElem?_eq_none (by omega)];rfl
theorem Wk {r:RoD} {l:List ShD} (a:(bJ r).length=(wi (wq (U.rd r))).length) (c:jcG (bJ r)) (d:jeP r=U.noI):dI r l 0 (yC r l 0):=by
 refine⟨a,?_,fun p=> ?_⟩;show(jeP r).length<=0;rw[d];exact jj 0;have e:nth (yC r l 0).1 p=[]:=QJ c p;rw[e];exact⟨kY,fun b f=>by cases f⟩
theorem jdw (m:List ((Int×Int×Unit)×ShD)) (s:ShD):yy m s= !(!decide (wM (Ty.dflt tSh) (wA tSt (fH s) m)=s)||decide (XS s≠1)):=by
 unfold yy;by_cases h:XS s=1<;>simp[h]
section
variable {r:RoD} {l:List ShD} {i:Nat}
theorem QK (h:i<l.length) (a:yy (vb l l.length) (nth l i)=false):yC r l (i+1)=yC r l i:=by
 rw[s9 h];unfold Md;rw[a,jd (by simp)]
theorem Wl (h:i<l.length) (a:yy (vb l l.length) (nth l i)=true) (b:PJ (U.rd r) (mY r) (ao (nth l i)) (nth (yC r l i).1 (ao (nth l i)).toNat++[lL (nth l i)])=true):
 yC r l (i+1)=((yC r l i).1.set (ao (nth l i)).toNat (nth (yC r l i).1 (ao (nth l i)).toNat++[lL (nth l i)]),(yC r l i).2):=by
 rw[s9 h];unfold Md;rw[a,jg rfl,jg b]
theorem jay (h:i<l.length) (a:yy (vb l l.length) (nth l i)=true) (b:PJ (U.rd r) (mY r) (ao (nth l i)) (nth (yC r l i).1 (ao (nth l i)).toNat++[lL (nth l i)])=false):
 yC r l (i+1)=((yC r l i).1,(yC r l i).2++[gx (nth l i)]):=by
 rw[s9 h];unfold Md;rw[a,jg rfl,b,jd (by simp)]
end
theorem Az:uM:=by
 unfold uM jjG jhj jfD jfz jfv jjF jil jfK Prod.q4;rintro⟨b,⟨⟩⟩ J;obtain⟨⟨hk,N⟩,⟨O,B⟩,C⟩:Z6 (yF b):=J;have F:=(gI hk).1;have u:=F.2.2;have v:(w7 (U.rd (yF b))).length<=30:=(yd u).2.2.2.2.1;have H:b.2.2.2.2.2.2.2.1.length<=30:=v;have M:(vp (U.rd (yF b))).length<=30:=jE (jbT _) v;have g:∀s∈vp (U.rd (yF b)),s∈w7 (U.rd (yF b)):=fun s D=>iL.1 D
 have w:=fy (U.rd (yF b));have K:(wo (U.rd (yF b))).length<=4:=(yd u).1;refine⟨by show b.2.2.2.2.2.2.2.1.length<=100000;omega,fun _ _ _ _=>tZ,je5 hk,fun _=>⟨⟨0,⟨⟨rfl,tZ⟩,rfl,tZ⟩,jl _⟩,fun x I=>⟨fun h=> ?_,fun h _=>⟨⟨0,⟨⟨rfl,tZ⟩,rfl,rfl,tZ⟩,jl _,Wk (r:=yF b) O B C⟩,fun y n=>⟨fun t=> ?_,fun t=> ?_⟩⟩⟩⟩⟩;have h:(x:Int)<(vp (U.rd (yF b))).length:=ja h;have D:=Dv (l:=vp (U.rd (yF b))) (i:=x) (by omega);exact⟨by omega,h,iZ6,x+1,⟨⟨by simp,tZ⟩,D.symm,tZ⟩,by show x+1<=(vp (U.rd (yF b))).length;omega,by show(vp (U.rd (yF b))).length-(x+1)<(vp (U.rd (yF b))).length-x;omega⟩;have I:x<=(vp (U.rd (yF b))).length:=I;have h:¬(x:Int)<(vp (U.rd (yF b))).length:=jc h;have E:x=(vp (U.rd (yF b))).length:=(by omega);have t:(y:Int)<(vp (U.rd (yF b))).length:=ja t;have a:y<(vp (U.rd (yF b))).length:=(by omega);obtain⟨_,e⟩:y<=(vp (U.rd (yF b))).length/\dI (yF b) (vp (U.rd (yF b))) y (yC (yF b) (vp (U.rd (yF b))) y):=n;have c:=jax (r:=yF b) u g w a e;rw[<-s9 a] at c;have up:y+1<=(vp (U.rd (yF b))).length:=a;have A:(vp (U.rd (yF b))).length-(y+1)<(vp (U.rd (yF b))).length-y:=(by omega);have q:=nB u (g _ (L.wh a));have o:=jdw (vb (vp (U.rd (yF b))) (vp (U.rd (yF b))).length) (nth (vp (U.rd (yF b))) y);subst E;refine⟨by omega,t,fun p=> ?_,fun p=> ?_⟩;have f:yy (vb (vp (U.rd (yF b))) (vp (U.rd (yF b))).length) (nth (vp (U.rd (yF b))) y)=false:=by
  rw[o];have p:(!decide (wM (Ty.dflt tSh) (wA tSt (fH (nth (vp (U.rd (yF b))) y)) (vb (vp (U.rd (yF b))) (vp (U.rd (yF b))).length))=nth (vp (U.rd (yF b))) y)||decide (XS (nth (vp (U.rd (yF b))) y)≠1))=true:=p;rw[p];rfl
 have d:=QK (r:=yF b) a f;exact⟨iZ6,y+1,⟨⟨by simp,tZ⟩,jF (·.2) d.symm,jF (·.1) d.symm,tZ⟩,⟨up,c⟩,A⟩;have f:yy (vb (vp (U.rd (yF b))) (vp (U.rd (yF b))).length) (nth (vp (U.rd (yF b))) y)=true:=by
  rw[o];have p:(!decide (wM (Ty.dflt tSh) (wA tSt (fH (nth (vp (U.rd (yF b))) y)) (vb (vp (U.rd (yF b))) (vp (U.rd (yF b))).length))=nth (vp (U.rd (yF b))) y)||decide (XS (nth (vp (U.rd (yF b))) y)≠1))=false:=p;rw[p];rfl
 have j:=Wi (r:=yF b) u g w a e f;have z:=jeA j.1 j.2.1;have G:(nth (yC (yF b) (vp (U.rd (yF b))) y).1 (ao (nth (vp (U.rd (yF b))) y)).toNat).length<=4:=by
  rw[jI] at z;omega
 have k:0<=ao (nth (vp (U.rd (yF b))) y):=q.1.1;have m:ao (nth (vp (U.rd (yF b))) y)<((yC (yF b) (vp (U.rd (yF b))) y).1.length:Int):=(by rw[e.1];exact q.1.2);have P:=e.2.1;refine⟨k,m,k,m,k,m,rfl,rfl,?_,rfl,⟨F,N⟩,q.1,⟨jE z (by omega),j.2.1⟩,fun n=> ?_,fun n=> ?_⟩;show((nth (yC (yF b) (vp (U.rd (yF b))) y).1 (ao (nth (vp (U.rd (yF b))) y)).toNat).length+1)*8<=140737488355328;omega;have d:=Wl (r:=yF b) a f n;exact⟨k,m,iZ6,y+1,⟨⟨by simp,tZ⟩,jF (·.2) d.symm,jF (·.1) d.symm,tZ⟩,⟨up,c⟩,A⟩;have d:=jay (r:=yF b) a f n;refine⟨?_,iZ6,y+1,⟨⟨by simp,tZ⟩,jF (·.1) d.symm,⟨rfl,rfl,rfl,rfl,rfl,rfl,rfl,rfl,tZ,tZ,tZ,tZ⟩,jF (·.2) d.symm,tZ⟩,⟨up,c⟩,A⟩;show((yC (yF b) (vp (U.rd (yF b))) y).2.length+1)*8<=140737488355328;omega;have t:¬(y:Int)<(vp (U.rd (yF b))).length:=jc t;have n:=n.1;have n:y<=(vp (U.rd (yF b))).length:=n;have a:y=(vp (U.rd (yF b))).length:=(by omega);subst a;exact⟨rfl,rfl⟩
theorem E5:gX PR 183 E4:=YP Tryz.sortI 3 (vK Tryz.func183 (c:=qf Tryz.f183) (by kernel_rfl) (by kernel_rfl))
theorem uN:gX PR 143 uK:=sA uL Az Tryz.func143 (kcC NX (kcC Dq kcN)) (koC sV (koC bR (koC E5 koN)))
end Go.X
namespace Go.X
open U
open Go.Proofs
namespace U
def li (l:List Int) (n:Nat):Int:=(l.take n).foldl (fun s p=>bor s (1*2^p.toNat)) 0
def Rg (l:List Int):Int:=li l l.length
def yz (d:DyD) (n:Nat):List Int:=((wo d).take n).map (fun b=>Rg (dG (wq d) (yS b)))
def jc1 (d:DyD):List (List Int):=List.replicate (wi (wq d)).length noI
def Mz (d:DyD):RoD:=(d,yz d (wo d).length,jc1 d,noI,())
def Uo (d:DyD):RoD:=(d,yz d (wo d).length,(bO (Mz d)).1,(bO (Mz d)).2,())
def tT (d:DyD):Option RoD:=if qe d=0 then some (Uo d) else none
end U
def KU:q7:=⟨[.val tDy,.nil true],[.cl (.dat (.ptr tRo)),.cl (.dat .int)],fun d=>[(w7 d.1).length<=100000],fun d=>((tT d.1,qe d.1,()),())⟩
def Wm:Ann:=fun r=>match r with
 |8=>some fun σ=>{X:=Nat,sl:=fun i=>[(39,.dat .int (i:Int))],ob:=fun i=>[(27,some (.box 168 false (((bx σ 27).set 8 (.own (fT 27 8) .int)).set 10 (.own (fT 27 10) .int)))),(fT 27 10,some (.row 3 .int false .yes U.noI)),(fT 27 8,some (.row 3 .int false .yes (yz (gb tDy σ 2) i)))],inv:=fun i=>i<=(wo (gb tDy σ 2)).length,mu:=fun i=>(wo (gb tDy σ 2)).length-i}
 |13=>some fun σ=>{X:=Nat,sl:=fun i=>[(53,.dat .int (i:Int)),(12,.dat .int (li (gd (.slice .int) σ 51) i))],ob:=fun _=>[],inv:=fun i=>i<=(gd (.slice .int) σ 51).length,mu:=fun i=>(gd (.slice .int) σ 51).length-i}
 |3000005=>some fun _=>{X:=Unit,sl:=fun _=>[],ob:=fun _=>[],inv:=fun _=>True,mu:=fun _=>0}
 |_=>none
abbrev jfL (d:DyD×Unit×Unit)(x:Nat):=(dG d.1.1 (nth d.1.2.2.1 (x:Int).toNat).1)
abbrev jjH (d:DyD×Unit×Unit):=(d.1.1.1=d.1.1.1/\d.1.1.2.1=d.1.1.2.1/\d.1.1.2.2.1=d.1.1.2.2.1/\d.1.2.1=d.1.2.1/\d.1.2.2.1=d.1.2.2.1/\d.1.2.2.2.1=d.1.2.2.2.1/\d.1.q4.1=d.1.q4.1/\d.1.q4.2.1=d.1.q4.2.1/\True/\True/\True/\True)
abbrev jhk (d:DyD×Unit×Unit):=(d.1.1.2.1.length:Int)
abbrev jjI (d:DyD×Unit×Unit)(x:Nat):=(yF (d.1.1.1,d.1.1.2.1,d.1.1.2.2.1,d.1.2.1,d.1.2.2.1,d.1.2.2.2.1,d.1.q4.1,d.1.q4.2.1,yz d.1 x,List.replicate (jhk d).toNat [],U.noI,()))
abbrev jgb (d:DyD×Unit×Unit)(x:Nat):=(A1 (d.1.1.1,d.1.1.2.1,d.1.1.2.2.1,d.1.2.1,d.1.2.2.1,d.1.2.2.2.1,d.1.q4.1,d.1.q4.2.1,yz d.1 x,List.replicate (jhk d).toNat [],U.noI,()) (bO (jjI d x)))
def KV:Prop:=∀(d:DyD×Unit×Unit),(w7 d.1).length<=100000->(w7 d.1).length<=100000/\(decide (qe d.1≠0)=true->(none,qe d.1,())=(tT d.1,qe d.1,())/\()=())/\(decide (qe d.1≠0)=false->0<=(jhk d)/\(jhk d)=(jhk d)/\(jhk d).toNat*24<=140737488355328/\((!true)=true->(!true)=true/\(!true)=true/\False)/\((!true)=false->(!true)=false/\(!true)=false/\(!true)=false/\(!true)=false/\(false=true->(none,(1:Int),())=(tT d.1,qe d.1,())/\()=())/\(qF->d.1.2.2.1.length<4611686018427387904->(∃(x:Nat),((0=(x:Int)/\True)/\(jjH d)/\U.noI=[]/\yz d.1 x=[]/\True)/\x<=(wo d.1).length)/\∀(x:Nat),x<=(wo d.1).length->(decide ((x:Int)<d.1.2.2.1.length)=true->0<=(x:Int)/\(x:Int)<d.1.2.2.1.length/\((jfL d x).length<4611686018427387904->(∃(a:Nat),((0=(a:Int)/\0=li (jfL d x) a/\True)/\True)/\a<=(jfL d x).length)/\∀(a:Nat),a<=(jfL d x).length->(decide ((a:Int)<(jfL d x).length)=true->0<=(a:Int)/\(a:Int)<(jfL d x).length/\0<=nth (jfL d x) (a:Int).toNat/\nth (jfL d x) (a:Int).toNat<=64/\wm ((1:Int)*2^(nth (jfL d x) (a:Int).toNat).toNat)/\wm ((a:Int)+1)/\∃(b:Nat),(((a:Int)+1=(b:Int)/\bor (li (jfL d x) a) ((1:Int)*2^(nth (jfL d x) (a:Int).toNat).toNat)=li (jfL d x) b/\True)/\True)/\b<=(jfL d x).length/\(jfL d x).length-b<(jfL d x).length-a)/\(decide ((a:Int)<(jfL d x).length)=false->((yz d.1 x).length+[li (jfL d x) a].length)*8<=140737488355328/\wm ((x:Int)+1)/\∃(b:Nat),(((x:Int)+1=(b:Int)/\True)/\U.noI=U.noI/\(jjH d)/\yz d.1 x++[li (jfL d x) a]=yz d.1 b/\True)/\b<=(wo d.1).length/\(wo d.1).length-b<(wo d.1).length-x)))/\(decide ((x:Int)<d.1.2.2.1.length)=false->Z6 (jjI d x)/\(some ((((jgb d x).1,(jgb d x).2.1,(jgb d x).2.2.1,()),(jgb d x).2.2.2.1,(jgb d x).q4.1,(jgb d x).q4.2.1,(jgb d x).q4.2.2.1,(jgb d x).q4.2.2.2.1,()),(jgb d x).q4.q4.1,(jgb d x).q4.q4.2.1,(jgb d x).q4.q4.2.2.1,()),(0:Int),())=(tT d.1,qe d.1,())/\()=()))))
theorem uO {l:List Int} {i:Nat} (h:i<l.length):li l (i+1)=bor (li l i) (1*2^(nth l i).toNat):=by
 unfold li;rw[L.wO h,jU];rfl
theorem Wn {d:DyD} {i:Nat} (h:i<(wo d).length):yz d (i+1)=yz d i++[Rg (dG (wq d) (yS (nth (wo d) i)))]:=by
 unfold yz;rw[L.wO h,zw];rfl
theorem Zf (d:DyD) (i:Nat):(yz d i).length<=i:=by
 unfold yz;rw[zf,j6];omega
theorem Wo {c:CrD} (h:wt c=true) {j:JbD} {p:Int} (a:p∈dG c j):0<=p/\p<8:=by
 have d:=(w4 h).2.2.1;unfold dG at a
 split at a
 unfold cN at a;obtain⟨n,b,rfl⟩:=jV.1 a;have:=jD.1 (jP.1 b).1;omega;cases a
theorem jbU {c:CrD} (h:wt c=true) (j:JbD):(dG c j).length<=8:=by
 have a:=(w4 h).2.2.1;unfold dG
 split
 unfold cN;rw[zf];exact jE (zy _ _) (by simpa using a);exact jl _
theorem Wp {d:DyD} (h:qe d=0):Z6 (Mz d):=by
 refine⟨⟨h,?_⟩,⟨?_,fun x a=> ?_⟩,rfl⟩;show(yz d (wo d).length).length=(wo d).length;unfold yz;simp;show(jc1 d).length=(wi (wq d)).length;unfold jc1;simp;have a:x∈jc1 d:=a;unfold jc1 at a;exact(List.mem_replicate.1 a).2
theorem N6:KV:=by
 unfold KV jgb jjI jhk jjH jfL Prod.q4;rintro⟨d,⟨⟩,⟨⟩⟩ j;refine⟨j,fun h=>⟨?_,rfl⟩,fun h=>⟨jX _,rfl,?_,fun c=>(by cases c),fun _=>⟨rfl,rfl,rfl,rfl,fun c=>(by cases c),fun _=> ?_⟩⟩⟩;have h:qe d≠0:=ja h;show(none,qe d,())=(tT d,qe d,());unfold tT;rw[jd h];have hk:qe d=0:=jN.1 (jc h);have e:=(w4 (gI hk).1.1).2.2.1;have e:d.1.2.1.length<=8:=e;show((d.1.2.1.length:Int)).toNat*24<=140737488355328;omega;have hk:qe d=0:=jN.1 (jc h);clear j h;have f:=(gI hk).1;have r:=f.2.2;have g:(wo d).length<=4:=(yd r).1;have n:d.2.2.1.length<=4:=g;refine fun _=>⟨⟨0,⟨⟨rfl,tZ⟩,⟨rfl,rfl,rfl,rfl,rfl,rfl,rfl,rfl,tZ,tZ,tZ,tZ⟩,rfl,rfl,tZ⟩,jl _⟩,fun x o=>⟨fun h=>⟨by omega,ja h,fun _=>⟨⟨0,⟨⟨rfl,rfl,tZ⟩,tZ⟩,jl _⟩,fun y p=>⟨fun a=> ?_,fun a=> ?_⟩⟩⟩,fun h=> ?_⟩⟩
 have a:(y:Int)<(dG (wq d) (nth d.2.2.1 (x:Int).toNat).1).length:=ja a;have b:y<(dG (wq d) (nth d.2.2.1 (x:Int).toNat).1).length:=(by omega);have s:=Wo f.1 (L.wh b);have k:=uO b;have e:=jbU f.1 (nth d.2.2.1 (x:Int).toNat).1;have q:BT.qh ((2:Int)^(nth (dG (wq d) (nth d.2.2.1 (x:Int).toNat).1) y).toNat):=BT.iS (by omega);unfold BT.qh at q;exact⟨by omega,a,s.1,by show nth (dG (wq d) (nth d.2.2.1 (x:Int).toNat).1) y<=64;omega,by show wm (1*2^(nth (dG (wq d) (nth d.2.2.1 (x:Int).toNat).1) y).toNat);rw[mK];exact iZ6,iZ6,y+1,⟨⟨by simp,k.symm,tZ⟩,tZ⟩,by show y+1<=(dG (wq d) (nth d.2.2.1 (x:Int).toNat).1).length;omega,by show(dG (wq d) (nth d.2.2.1 (x:Int).toNat).1).length-(y+1)<(dG (wq d) (nth d.2.2.1 (x:Int).toNat).1).length-y;omega⟩;have h:(x:Int)<(wo d).length:=ja h;have k:=Wn (d:=d) (i:=x) (by omega);have j:=Zf d x;have p:y<=(dG (wq d) (nth d.2.2.1 (x:Int).toNat).1).length:=p;have a:¬(y:Int)<(dG (wq d) (nth d.2.2.1 (x:Int).toNat).1).length:=jc a;have m:y=(dG (wq d) (nth d.2.2.1 (x:Int).toNat).1).length:=(by omega);subst m;refine⟨?_,iZ6,x+1,⟨⟨by simp,tZ⟩,rfl,⟨rfl,rfl,rfl,rfl,rfl,rfl,rfl,rfl,tZ,tZ,tZ,tZ⟩,k.symm,tZ⟩,by show x+1<=(wo d).length;omega,by show(wo d).length-(x+1)<(wo d).length-x;omega⟩;show((yz d x).length+1)*8<=140737488355328;omega;have h:¬(x:Int)<(wo d).length:=jc h;have o:x<=(wo d).length:=o;have l:x=(wo d).length:=(by omega);subst l;refine⟨Wp hk,?_⟩;refine⟨?_,rfl⟩;show(some (Uo d),(0:Int),())=(tT d,qe d,());unfold tT;rw[jg hk,hk]
theorem xC:gX PR 105 KU:=sA Wm N6 Tryz.func105 (kcC GI (kcC Y4 kcN)) (koC uN koN)
namespace U
def aF (d:DyD) (n:Nat):List Int:=(List.range n).map (fun(b:Nat)=>dX (bJ (Uo d)) (b:Int))
def fI (d:DyD):List Int:=if qe d=0 then aF d (wo d).length else[]
def Rh (d:DyD) (b:Nat):Bool:=Ep d (b:Int) (dX (bJ (Uo d)) (b:Int))
def am (d:DyD) (n:Nat):List Int:=((List.range n).filter (Rh d)).map (fun(b:Nat)=>(b:Int))
def wa (d:DyD):List Int:=if qe d=0 then am d (wo d).length else[]
def Me (d:DyD) (p:Int):Bool:=k8 p 0 (((wi (wq d)).length:Int)-1)
def XV (d:DyD) (b:Int):Bool:=k8 b 0 (((wo d).length:Int)-1)
end U
def Su:wQ:=⟨[.val tDy],[.slice .int,.int],false,fun d=>[(w7 d.1).length<=100000],fun d=>(fI d.1,qe d.1,())⟩
def Sv:Ann:=fun r=>match r with
 |6=>some fun σ=>{X:=Nat,sl:=fun i=>[(19,.dat .int (i:Int)),(6,.own 6 .int)],ob:=fun i=>[(6,some (.row 3 .int false .yes (aF (gb tDy σ 1) i)))],inv:=fun i=>i<=(wo (gb tDy σ 1)).length,mu:=fun i=>(wo (gb tDy σ 1)).length-i}
 |_=>none
def Sw:Prop:=∀(d:DyD×Unit),(w7 d.1).length<=100000->(w7 d.1).length<=100000/\(decide (qe d.1≠0)=true->([],qe d.1,())=(fI d.1,qe d.1,()))/\(decide (qe d.1≠0)=false->d.1.2.2.1.length<4611686018427387904->(∃(x:Nat),((0=(x:Int)/\True/\True)/\aF d.1 x=[]/\True)/\x<=(wo d.1).length)/\∀(x:Nat),x<=(wo d.1).length->(decide ((x:Int)<d.1.2.2.1.length)=true->(tT d.1).isSome=true/\(bJ (U.ro (tT d.1))).length<=60/\((aF d.1 x).length+[dX (bJ (U.ro (tT d.1))) (x:Int)].length)*8<=140737488355328/\wm ((x:Int)+1)/\∃(a:Nat),(((x:Int)+1=(a:Int)/\True/\True)/\aF d.1 x++[dX (bJ (U.ro (tT d.1))) (x:Int)]=aF d.1 a/\True)/\a<=(wo d.1).length/\(wo d.1).length-a<(wo d.1).length-x)/\(decide ((x:Int)<d.1.2.2.1.length)=false->(aF d.1 x,(0:Int),())=(fI d.1,qe d.1,())))
def N7:wQ:=⟨[.val tDy],[.slice .int,.int],false,fun d=>[(w7 d.1).length<=100000],fun d=>(wa d.1,qe d.1,())⟩
def N8:Ann:=fun r=>match r with
 |6=>some fun σ=>{X:=Nat,sl:=fun i=>[(19,.dat .int (i:Int)),(6,.own 6 .int)],ob:=fun i=>[(6,some (.row 3 .int false .yes (am (gb tDy σ 1) i)))],inv:=fun i=>i<=(wo (gb tDy σ 1)).length,mu:=fun i=>(wo (gb tDy σ 1)).length-i}
 |_=>none
def N9:Prop:=∀(d:DyD×Unit),(w7 d.1).length<=100000->(w7 d.1).length<=100000/\(decide (qe d.1≠0)=true->([],qe d.1,())=(wa d.1,qe d.1,()))/\(decide (qe d.1≠0)=false->d.1.2.2.1.length<4611686018427387904->(∃(x:Nat),((0=(x:Int)/\True/\True)/\am d.1 x=[]/\True)/\x<=(wo d.1).length)/\∀(x:Nat),x<=(wo d.1).length->(decide ((x:Int)<d.1.2.2.1.length)=true->(tT d.1).isSome=true/\(bJ (U.ro (tT d.1))).length<=60/\(tT d.1).isSome=true/\aq (U.rd (U.ro (tT d.1))) (x:Int)/\(Ep (U.rd (U.ro (tT d.1))) (x:Int) (dX (bJ (U.ro (tT d.1))) (x:Int))=true->((am d.1 x).length+[(x:Int)].length)*8<=140737488355328/\wm ((x:Int)+1)/\∃(a:Nat),(((x:Int)+1=(a:Int)/\True/\True)/\am d.1 x++[(x:Int)]=am d.1 a/\True)/\a<=(wo d.1).length/\(wo d.1).length-a<(wo d.1).length-x)/\(Ep (U.rd (U.ro (tT d.1))) (x:Int) (dX (bJ (U.ro (tT d.1))) (x:Int))=false->wm ((x:Int)+1)/\∃(a:Nat),((True/\(x:Int)+1=(a:Int)/\True)/\am d.1 x=am d.1 a/\True)/\a<=(wo d.1).length/\(wo d.1).length-a<(wo d.1).length-x))/\(decide ((x:Int)<d.1.2.2.1.length)=false->(am d.1 x,(0:Int),())=(wa d.1,qe d.1,())))
theorem Oa {r:RoD} {l:List ShD} (d:qv (U.rd r)=true) (e:∀s∈l,s∈w7 (U.rd r)) (nd:l.Nodup) (a:(bJ r).length=(wi (wq (U.rd r))).length) (b:jcG (bJ r)) (c:jeP r=U.noI):
 ∀i,i<=l.length->dI r l i (yC r l i)
 |0,_=>Wk a b c
 |i+1,hi=>by
  rw[s9 hi]
  exact jax d e nd hi (Oa d e nd a b c i (by omega))
structure jbV (d:DyD):Prop where
 may:Rf (Uo d)
 len:(bJ (Uo d)).length=(wi (wq d)).length
 row:∀p,(nth (bJ (Uo d)) p).Nodup/\∀b∈nth (bJ (Uo d)) p,aq d b
theorem Wq {d:DyD} (h:qe d=0):jbV d:=by
 obtain⟨⟨_,i⟩,⟨j,c⟩,e⟩:=Wp h;have f:=(gI h).1;have a:=Oa (r:=Mz d) (l:=vp d) f.2.2 (fun s k=>iL.1 k) (fy d) j c e _ (jj _);refine⟨⟨f,i⟩,a.1,fun p=> ?_⟩;have:=a.2.2 p;exact⟨this.1,fun b g=>(this.2 b g).1⟩
theorem jbV.len60 {d:DyD} (h:jbV d):(bJ (Uo d)).length<=60:=by
 have a:=(w4 h.may.1.1).2.2.1;have a:(wi (wq d)).length<=8:=a;rw[h.len];omega
theorem jaz {d:DyD} (h:qe d=0):tT d=some (Uo d):=jg h
theorem Sx (d:DyD) (n:Nat):aF d (n+1)=aF d n++[dX (bJ (Uo d)) (n:Int)]:=by
 unfold aF;rw[zc,zw];rfl
theorem Wr:Sw:=by
 rintro⟨d,⟨⟩⟩ j;refine⟨j,fun h=> ?_,fun h _=>⟨⟨0,⟨⟨rfl,tZ,tZ⟩,rfl,tZ⟩,jl _⟩,fun x g=>⟨fun a=> ?_,fun a=> ?_⟩⟩⟩;have h:qe d≠0:=ja h;show([],qe d,())=(fI d,qe d,());unfold fI;rw[jd h];have hk:qe d=0:=jN.1 (jc h);have f:=Wq hk;have i:(wo d).length<=4:=(yd f.may.1.2.2).1;have a:(x:Int)<(wo d).length:=ja a;have k:=Sx d x;have e:(aF d x).length=x:=(by unfold aF;simp);have b:=jaz hk;refine⟨by show(tT d).isSome=true;rw[b];rfl,by show(bJ (U.ro (tT d))).length<=60;rw[b];exact f.len60,?_,iZ6,x+1,⟨⟨by simp,tZ,tZ⟩,?_,tZ⟩,by show x+1<=(wo d).length;omega,by show(wo d).length-(x+1)<(wo d).length-x;omega⟩;show((aF d x).length+1)*8<=_;omega;show aF d x++[dX (bJ (U.ro (tT d))) (x:Int)]=aF d (x+1);rw[b,k];rfl;have hk:qe d=0:=jN.1 (jc h);have g:x<=(wo d).length:=g;have a:¬(x:Int)<(wo d).length:=jc a;have c:x=(wo d).length:=(by omega);subst c;show(aF d _,(0:Int),())=(fI d,qe d,());unfold fI;rw[jg hk,hk]
theorem Sy:wV PR 66 Su:=qY Sv Wr Tryz.func66 (kcC i9 kcN) (koC xC koN)
theorem Sz (d:DyD) (n:Nat):am d (n+1)=am d n++(if Rh d n=true then[(n:Int)] else[]):=by
 unfold am;rw[L.yf,zw];by_cases h:Rh d n=true;rw[jg h,jg h];rfl;rw[jd h,jd h];rfl
theorem SA:N9:=by
 rintro⟨d,⟨⟩⟩ p;refine⟨p,fun h=> ?_,fun h _=>⟨⟨0,⟨⟨rfl,tZ,tZ⟩,rfl,tZ⟩,jl _⟩,fun x m=>⟨fun b=> ?_,fun b=> ?_⟩⟩⟩;have h:qe d≠0:=ja h;show([],qe d,())=(wa d,qe d,());unfold wa;rw[jd h];have hk:qe d=0:=jN.1 (jc h);have l:=Wq hk;have o:(wo d).length<=4:=(yd l.may.1.2.2).1;have b:(x:Int)<(wo d).length:=ja b;have e:=Sz d x;have k:(am d x).length<=x:=by
  unfold am;rw[zf];exact jE (zy _ _) (by simp)
 have c:=jaz hk;have i:(tT d).isSome=true:=(by rw[c];rfl);have e2:(bJ (U.ro (tT d))).length<=60:=(by rw[c];exact l.len60);have n:aq (U.rd (U.ro (tT d))) (x:Int):=(by rw[c];exact⟨by omega,b⟩);have j:Ep (U.rd (U.ro (tT d))) (x:Int) (dX (bJ (U.ro (tT d))) (x:Int))=Rh d x:=(by rw[c];rfl);have up:x+1<=(wo d).length:=(by omega);have g:(wo d).length-(x+1)<(wo d).length-x:=(by omega);refine⟨i,e2,i,n,fun a=> ?_,fun a=> ?_⟩;have a:Rh d x=true:=(by rw[<-j];exact a);refine⟨?_,iZ6,x+1,⟨⟨by simp,tZ,tZ⟩,?_,tZ⟩,up,g⟩;show((am d x).length+1)*8<=_;omega;rw[jg a] at e;exact e.symm;have a:Rh d x=false:=(by rw[<-j];exact a);refine⟨iZ6,x+1,⟨⟨tZ,by simp,tZ⟩,?_,tZ⟩,up,g⟩;rw[jd (by rw[a];simp),jZ] at e;exact e.symm;have hk:qe d=0:=jN.1 (jc h);have m:x<=(wo d).length:=m;have b:¬(x:Int)<(wo d).length:=jc b;have f:x=(wo d).length:=(by omega);subst f;show(am d _,(0:Int),())=(wa d,qe d,());unfold wa;rw[jg hk,hk]
theorem Oc:wV PR 67 N7:=qY N8 SA Tryz.func67 (kcC i9 (kcC Ay kcN)) (koC xC koN)
theorem pY {l:List Int} (h:∀p∈l,0<=p/\p<8):∀n,n<=l.length->BT.qh (li l n)/\∀q,BT.has (li l n) q=true->q<8
 |0,_=>⟨BT.Ev,fun q a=>by rw[show li l 0=0 from rfl,BT.tR] at a;cases a⟩
 |n+1,d=>by
  have b:=pY h n (by omega)
  have e:=h _ (L.wh (l:=l) (i:=n) (by omega))
  have c:BT.qh ((2:Int)^(nth l n).toNat):=BT.iS (by omega)
  rw[uO (by omega),mK]
  refine⟨BT.bor_set b.1 c,fun q a=> ?_⟩
  rw[BT.has_bor b.1 c,zq,BT.Bt,jp] at a
  rcases a with a|a
  exact b.2 q a
  omega
end Go.X
namespace Go.X
open U
open Go.Proofs
end Go.X
namespace Go.X
open U
open Go.Proofs
end Go.X
