/-
  Part 5 of the road: a checked reading of bodies, and what the functions on it do (T L BT BS NL DF RC FX A1 P1 A2 P2 A4 P4 A5 P5 A3 P6 CM MP O1 B1 P7 IS B2 P8 B3 P9 DI B4 P10 B5 P11 B6 P12 P13 B7 P14 B8 P15 C1).
-/
import Derived.Test.YtjmbjgjcdklgdaaGreatDoorK04
import Derived.Test.YtjmbjgjcdklgdaaGreatDoorProg
import Derived.KernelRfl
import Derived.Shelf.SlSortCmp.WholeK
import Derived.Shelf.Sort.Plain
namespace Go.X
open U
open Go.Proofs
abbrev bT:=true
abbrev bF:=false
abbrev vO:Value:=.int .i64 0
abbrev qy0:Ty:=.ptr (.uint .u8)
abbrev qy1:Ty:=.st [.int,.int]
abbrev qy2:Ty:=.ptr (.uint .u64)
abbrev qy3:Ty:=.slice (.slice .int)
abbrev qy4:Ty:=.st [.int,.int,.int]
abbrev qy5:Ty:=.st [.int,.int,.bool]
abbrev qy6:Ty:=.slice qy1
abbrev qy7:Ty:=.slice qy4
abbrev qy8:Ty:=.slice qy5
abbrev qy9:Ty:=.st [.int,.int,.bool,.uint .u8]
abbrev qy10:Ty:=.map .int qy4
abbrev qy11:Ty:=.slice qy6
abbrev qy12:Ty:=.st [.int,.int,.int,.int,.int]
abbrev qy13:Ty:=.st [.int,.int,.int,.int,.int,.int]
abbrev qy14:Ty:=.slice qy12
abbrev qy15:Ty:=.slice qy13
abbrev qy16:Ty:=.st [.slice .int,.int,.int,.slice .int,.bool,.int]
abbrev qy17:Ty:=.map qy1 qy12
abbrev qy18:Ty:=.st [qy13,.int,.int,.int]
abbrev qy19:Ty:=.slice qy16
abbrev qy20:Ty:=.slice qy18
abbrev qy21:Ty:=.st [.int,.int,.int,.int,.int,.int,.int,.int,.slice .int,qy6]
abbrev qy22:Ty:=.st [.int,qy19,qy8]
abbrev qy23:Ty:=.st [qy22,qy13,qy5]
abbrev qy24:Ty:=.ptr qy23
abbrev qy25:Ty:=.st [qy18,qy21,.int,.int,.slice .int,.int,.int,.bool,.int]
abbrev qy26:Ty:=.ptr qy25
abbrev qy27:Ty:=.map .int qy26
abbrev qy28:Ty:=.st [qy22,qy11,qy20,.int,.int,qy14]
abbrev qy29:Ty:=.st [qy28,.slice .int,qy3,.slice .int]
abbrev qy30:Ty:=.ptr qy29
abbrev qy31:Ty:=.st [qy28,.slice .int,.slice .int,qy21,qy7]
abbrev qy32:Ty:=.st [qy31,qy27]
def rr (i:Nat)(t:Ty)(n:Nat)(a:Bool)(f:List (Nat×Nat))(s:Bool)(e b:Nat)(z:List Value)(c m:Bool)(k:Nat)(q:Bool):TI:=⟨i,t,n,a,f,s,e,b,z,c,m,k,q,false,false,false⟩
def rf (i:Nat):TI:=⟨i,.unit,1,false,[],false,0,8,[.nilFunc],false,false,0,false,false,false,true⟩
def rq (i:Nat):TI:=⟨i,.unit,1,false,[],false,0,8,[.pointer none],false,false,0,false,false,true,false⟩
def ti:List TI:=[
 rf 1,
 rr 2 .int 1 bF [] bF 0 8 [vO] bF bF 0 bT,
 rr 3 .int 1 bF [] bF 0 8 [vO] bF bF 0 bT,
 rr 4 .bool 1 bF [] bF 0 1 [.bool false] bT bF 0 bF,
 rr 5 (.uint .u8) 1 bF [] bF 0 1 [.int .u8 0] bF bF 0 bF,
 rr 6 (.uint .u8) 1 bF [] bF 0 1 [.int .u8 0] bF bF 0 bF,
 rr 7 qy9 4 bT [(0,2),(1,3),(2,4),(3,6)] bF 0 24 [vO,vO,.bool false,.int .u8 0] bT bF 0 bT,
 rr 8 qy9 4 bT [(0,2),(1,3),(2,4),(3,6)] bF 0 24 [vO,vO,.bool false,.int .u8 0] bT bF 0 bT,
 rr 12 (.uint .u64) 1 bF [] bF 0 8 [.int .u64 0] bF bF 0 bF,
 rq 15,
 rq 16,
 rq 17,
 rr 18 .unit 1 bT [(0,17)] bF 0 8 [.pointer none] bF bF 0 bF,
 rr 19 .unit 1 bT [(0,17)] bF 0 8 [.pointer none] bF bF 0 bF,
 rr 21 (.uint .i32) 1 bF [] bF 0 4 [.int .i32 0] bF bF 0 bF,
 rr 22 qy19 1 bF [] bT 138 24 [.slice none 0 0] bF bF 0 bF,
 rr 23 qy8 1 bF [] bT 140 24 [.slice none 0 0] bF bF 0 bF,
 rr 24 qy22 3 bT [(0,3),(1,22),(2,23)] bF 0 56 [vO,.slice none 0 0,.slice none 0 0] bF bF 0 bF,
 rr 25 qy22 3 bT [(0,3),(1,22),(2,23)] bF 0 56 [vO,.slice none 0 0,.slice none 0 0] bF bF 0 bF,
 rr 26 qy11 1 bF [] bT 109 24 [.slice none 0 0] bF bF 0 bF,
 rr 27 qy20 1 bF [] bT 62 24 [.slice none 0 0] bF bF 0 bF,
 rr 28 qy14 1 bF [] bT 75 24 [.slice none 0 0] bF bF 0 bF,
 rr 29 qy28 8 bT [(0,25),(3,26),(4,27),(5,3),(6,3),(7,28)] bF 0 144 [vO,.slice none 0 0,.slice none 0 0,.slice none 0 0,.slice none 0 0,vO,vO,.slice none 0 0] bF bF 0 bF,
 rr 30 qy28 8 bT [(0,25),(3,26),(4,27),(5,3),(6,3),(7,28)] bF 0 144 [vO,.slice none 0 0,.slice none 0 0,.slice none 0 0,.slice none 0 0,vO,vO,.slice none 0 0] bF bF 0 bF,
 rr 31 (.slice .int) 1 bF [] bT 3 24 [.slice none 0 0] bF bF 0 bF,
 rr 32 qy6 1 bF [] bT 96 24 [.slice none 0 0] bF bF 0 bF,
 rr 33 qy21 10 bT [(0,3),(1,3),(2,3),(3,3),(4,3),(5,3),(6,3),(7,3),(8,31),(9,32)] bF 0 112 [vO,vO,vO,vO,vO,vO,vO,vO,.slice none 0 0,.slice none 0 0] bF bF 0 bF,
 rr 34 qy21 10 bT [(0,3),(1,3),(2,3),(3,3),(4,3),(5,3),(6,3),(7,3),(8,31),(9,32)] bF 0 112 [vO,vO,vO,vO,vO,vO,vO,vO,.slice none 0 0,.slice none 0 0] bF bF 0 bF,
 rr 35 qy7 1 bF [] bT 39 24 [.slice none 0 0] bF bF 0 bF,
 rr 36 qy31 21 bT [(0,30),(8,31),(9,31),(10,34),(20,35)] bF 0 328 [vO,.slice none 0 0,.slice none 0 0,.slice none 0 0,.slice none 0 0,vO,vO,.slice none 0 0,.slice none 0 0,.slice none 0 0,vO,vO,vO,vO,vO,vO,vO,vO,.slice none 0 0,.slice none 0 0,.slice none 0 0] bF bF 0 bF,
 rr 37 qy31 21 bT [(0,30),(8,31),(9,31),(10,34),(20,35)] bF 0 328 [vO,.slice none 0 0,.slice none 0 0,.slice none 0 0,.slice none 0 0,vO,vO,.slice none 0 0,.slice none 0 0,.slice none 0 0,vO,vO,vO,vO,vO,vO,vO,vO,.slice none 0 0,.slice none 0 0,.slice none 0 0] bF bF 0 bF,
 rr 38 qy4 3 bT [(0,3),(1,3),(2,3)] bF 0 24 [vO,vO,vO] bT bF 0 bT,
 rr 39 qy4 3 bT [(0,3),(1,3),(2,3)] bF 0 24 [vO,vO,vO] bT bF 0 bT,
 rf 40,
 rf 41,
 rf 42,
 rr 43 .int 1 bF [] bF 0 8 [vO] bF bF 0 bT,
 rf 44,
 rr 45 qy15 1 bF [] bT 51 24 [.slice none 0 0] bF bF 0 bF,
 rf 47,
 rf 49,
 rr 50 qy13 6 bT [(0,3),(1,3),(2,3),(3,3),(4,3),(5,3)] bF 0 48 [vO,vO,vO,vO,vO,vO] bT bF 0 bT,
 rr 51 qy13 6 bT [(0,3),(1,3),(2,3),(3,3),(4,3),(5,3)] bF 0 48 [vO,vO,vO,vO,vO,vO] bT bF 0 bT,
 rf 53,
 rf 54,
 rf 55,
 rr 56 qy4 3 bT [(0,3),(1,3),(2,3)] bF 0 24 [vO,vO,vO] bT bF 0 bT,
 rr 57 qy4 3 bT [(0,3),(1,3),(2,3)] bF 0 24 [vO,vO,vO] bT bF 0 bT,
 rf 58,
 rr 59 qy13 6 bT [(0,3),(1,3),(2,3),(3,3),(4,3),(5,3)] bF 0 48 [vO,vO,vO,vO,vO,vO] bT bF 0 bT,
 rr 60 qy13 6 bT [(0,3),(1,3),(2,3),(3,3),(4,3),(5,3)] bF 0 48 [vO,vO,vO,vO,vO,vO] bT bF 0 bT,
 rr 61 qy18 9 bT [(0,60),(6,3),(7,3),(8,3)] bF 0 72 [vO,vO,vO,vO,vO,vO,vO,vO,vO] bT bF 0 bT,
 rr 62 qy18 9 bT [(0,60),(6,3),(7,3),(8,3)] bF 0 72 [vO,vO,vO,vO,vO,vO,vO,vO,vO] bT bF 0 bT,
 rf 64,
 rf 65,
 rf 66,
 rf 68,
 rf 70,
 rf 71,
 rf 72,
 rf 73,
 rr 74 qy12 5 bT [(0,3),(1,3),(2,3),(3,3),(4,3)] bF 0 40 [vO,vO,vO,vO,vO] bT bF 0 bT,
 rr 75 qy12 5 bT [(0,3),(1,3),(2,3),(3,3),(4,3)] bF 0 40 [vO,vO,vO,vO,vO] bT bF 0 bT,
 rf 76,
 rf 77,
 rf 78,
 rf 79,
 rf 80,
 rf 81,
 rf 82,
 rr 83 qy27 1 bF [] bF 92 8 [.map none] bF bT 3 bF,
 rr 84 qy32 22 bT [(0,37),(21,83)] bF 0 336 [vO,.slice none 0 0,.slice none 0 0,.slice none 0 0,.slice none 0 0,vO,vO,.slice none 0 0,.slice none 0 0,.slice none 0 0,vO,vO,vO,vO,vO,vO,vO,vO,.slice none 0 0,.slice none 0 0,.slice none 0 0,.map none] bF bF 0 bF,
 rr 85 qy32 22 bT [(0,37),(21,83)] bF 0 336 [vO,.slice none 0 0,.slice none 0 0,.slice none 0 0,.slice none 0 0,vO,vO,.slice none 0 0,.slice none 0 0,.slice none 0 0,vO,vO,vO,vO,vO,vO,vO,vO,.slice none 0 0,.slice none 0 0,.slice none 0 0,.map none] bF bF 0 bF,
 rf 87,
 rf 88,
 rf 89,
 rf 90,
 rf 91,
 {rr 92 qy26 1 bF [] bF 0 8 [.pointer none] bF bF 0 bF with pt:=true},
 rf 93,
 rf 94,
 rr 95 qy1 2 bT [(0,3),(1,3)] bF 0 16 [vO,vO] bT bF 0 bT,
 rr 96 qy1 2 bT [(0,3),(1,3)] bF 0 16 [vO,vO] bT bF 0 bT,
 rr 97 qy25 26 bT [(0,62),(9,34),(19,3),(20,3),(21,31),(22,3),(23,3),(24,4),(25,3)] bF 0 256 [vO,vO,vO,vO,vO,vO,vO,vO,vO,vO,vO,vO,vO,vO,vO,vO,vO,.slice none 0 0,.slice none 0 0,vO,vO,.slice none 0 0,vO,vO,.bool false,vO] bF bF 0 bF,
 rr 98 qy25 26 bT [(0,62),(9,34),(19,3),(20,3),(21,31),(22,3),(23,3),(24,4),(25,3)] bF 0 256 [vO,vO,vO,vO,vO,vO,vO,vO,vO,vO,vO,vO,vO,vO,vO,vO,vO,.slice none 0 0,.slice none 0 0,vO,vO,.slice none 0 0,vO,vO,.bool false,vO] bF bF 0 bF,
 rf 99,
 rf 100,
 rf 101,
 {rr 102 qy30 1 bF [] bF 0 8 [.pointer none] bF bF 0 bF with pt:=true},
 rf 104,
 rr 105 (.uint .u64) 1 bF [] bF 0 8 [.int .u64 0] bF bF 0 bF,
 rf 106,
 rf 107,
 rf 108,
 rr 109 qy6 1 bF [] bT 135 24 [.slice none 0 0] bF bF 0 bF,
 rf 110,
 rf 111,
 rf 112,
 rf 113,
 rf 114,
 rf 115,
 rf 116,
 rf 117,
 rf 118,
 rf 119,
 rf 121,
 rf 122,
 rf 123,
 rf 124,
 rr 125 qy3 1 bF [] bT 31 24 [.slice none 0 0] bF bF 0 bF,
 rr 126 qy29 11 bT [(0,30),(8,31),(9,125),(10,31)] bF 0 216 [vO,.slice none 0 0,.slice none 0 0,.slice none 0 0,.slice none 0 0,vO,vO,.slice none 0 0,.slice none 0 0,.slice none 0 0,.slice none 0 0] bF bF 0 bF,
 rr 127 qy29 11 bT [(0,30),(8,31),(9,125),(10,31)] bF 0 216 [vO,.slice none 0 0,.slice none 0 0,.slice none 0 0,.slice none 0 0,vO,vO,.slice none 0 0,.slice none 0 0,.slice none 0 0,.slice none 0 0] bF bF 0 bF,
 rf 128,
 rf 129,
 rf 130,
 rr 131 qy15 1 bF [] bT 60 24 [.slice none 0 0] bF bF 0 bF,
 rf 133,
 rr 134 qy1 2 bT [(0,3),(1,3)] bF 0 16 [vO,vO] bT bF 0 bT,
 rr 135 qy1 2 bT [(0,3),(1,3)] bF 0 16 [vO,vO] bT bF 0 bT,
 rf 136,
 rr 137 qy16 6 bT [(0,31),(1,3),(2,3),(3,31),(4,4),(5,3)] bF 0 80 [.slice none 0 0,vO,vO,.slice none 0 0,.bool false,vO] bF bF 0 bF,
 rr 138 qy16 6 bT [(0,31),(1,3),(2,3),(3,31),(4,4),(5,3)] bF 0 80 [.slice none 0 0,vO,vO,.slice none 0 0,.bool false,vO] bF bF 0 bF,
 rr 139 qy5 3 bT [(0,3),(1,3),(2,4)] bF 0 24 [vO,vO,.bool false] bT bF 0 bT,
 rr 140 qy5 3 bT [(0,3),(1,3),(2,4)] bF 0 24 [vO,vO,.bool false] bT bF 0 bT,
 rf 141,
 rf 142,
 rf 143,
 rf 144,
 rr 145 qy10 1 bF [] bF 39 8 [.map none] bF bT 3 bF,
 rf 147,
 rf 148,
 rf 149,
 rf 150,
 rf 151,
 rf 152,
 rf 153,
 rf 154,
 rf 155,
 {rr 156 qy24 1 bF [] bF 0 8 [.pointer none] bF bF 0 bF with pt:=true},
 rf 158,
 rr 159 (.uint .u64) 1 bF [] bF 0 8 [.int .u64 0] bF bF 0 bF,
 rf 160,
 rr 161 qy17 1 bF [] bF 75 8 [.map none] bF bT 165 bF,
 rf 162,
 rf 163,
 rr 164 qy1 2 bT [(0,3),(1,3)] bF 0 16 [vO,vO] bT bF 0 bT,
 rr 165 qy1 2 bT [(0,3),(1,3)] bF 0 16 [vO,vO] bT bF 0 bT,
 rf 166,
 rf 167,
 rf 168,
 rf 169,
 rf 170,
 rf 171,
 rf 172,
 rr 173 .int 1 bF [] bF 0 8 [vO] bF bF 0 bT,
 rf 175,
 rf 176,
 rf 177,
 rf 178,
 rf 179,
 rr 180 (.uint .u32) 1 bF [] bF 0 4 [.int .u32 0] bF bF 0 bF,
 rf 181,
 rr 182 (.uint .u64) 1 bF [] bF 0 8 [.int .u64 0] bF bF 0 bF,
 rf 183,
 rf 184,
 rf 185,
 rf 186,
 rf 187,
 rf 188,
 rf 189,
 rf 190,
 rf 191,
 rf 192,
 rf 193,
 rf 194,
 rr 195 (.map .int .int) 1 bF [] bF 3 8 [.map none] bF bT 3 bF,
 rr 196 qy23 12 bT [(0,25),(3,60),(9,140)] bF 0 128 [vO,.slice none 0 0,.slice none 0 0,vO,vO,vO,vO,vO,vO,vO,vO,.bool false] bF bF 0 bF,
 rr 197 qy23 12 bT [(0,25),(3,60),(9,140)] bF 0 128 [vO,.slice none 0 0,.slice none 0 0,vO,vO,vO,vO,vO,vO,vO,vO,.bool false] bF bF 0 bF,
 rf 198,
 rf 199,
 rf 200,
 rf 201,
 rf 202,
 rf 203,
 rf 204,
 rf 205,
 rf 206,
 rr 207 (.uint .u64) 1 bF [] bF 0 8 [.int .u64 0] bF bF 0 bF,
 rf 208,
 rf 209,
 rf 210,
 {rr 211 (.ptr .int) 1 bF [] bF 0 8 [.pointer none] bF bF 0 bF with pt:=true},
 rf 212,
 rf 213,
 rf 214,
 rf 215,
 rf 216,
 rf 217,
 rf 218,
 rf 219,
 rf 220,
 rf 221,
 rf 222,
 rf 223,
 rf 224,
 rf 225,
 rf 226,
 rf 227,
 rf 228,
 rf 229,
 rf 230,
 rf 231,
 rf 232,
 rf 233,
 {rr 234 qy2 1 bF [] bF 0 8 [.pointer none] bF bF 0 bF with pt:=true},
 rf 236,
 rf 237,
 rf 238,
 rf 239,
 rf 240,
 rf 241,
 rf 242,
 rf 243,
 rf 244,
 rf 245,
 rf 247,
 rf 248,
 rf 249,
 rf 250,
 rf 251,
 rf 252,
 rf 253,
 rf 255,
 rf 257,
 rf 258,
 rf 259,
 rf 260,
 rf 261,
 rf 262,
 rf 263,
 rf 264,
 rf 265,
 rf 266,
 rr 270 .unit 0 bT [(0,269)] bF 0 0 [] bF bF 0 bF,
 rr 271 .unit 0 bT [(0,269)] bF 0 0 [] bF bF 0 bF,
 rr 272 (.uint .u8) 1 bF [] bF 0 1 [.int .u8 0] bF bF 0 bF,
 rr 273 (.uint .u8) 1 bF [] bF 0 1 [.int .u8 0] bF bF 0 bF,
 rf 274,
 {rr 275 qy0 1 bF [] bF 0 8 [.pointer none] bF bF 0 bF with pt:=true},
 rr 276 (.uint .i32) 1 bF [] bF 0 4 [.int .i32 0] bF bF 0 bF,
 rr 277 (.uint .i32) 1 bF [] bF 0 4 [.int .i32 0] bF bF 0 bF,
 rr 278 .unit 11 bT [(0,12),(1,12),(2,180),(3,272),(4,5),(5,5),(6,273),(7,274),(8,275),(9,276),(10,277)] bF 0 48 [.int .u64 0,.int .u64 0,.int .u32 0,.int .u8 0,.int .u8 0,.int .u8 0,.int .u8 0,.nilFunc,.pointer none,.int .i32 0,.int .i32 0] bF bF 0 bF,
 rr 279 .unit 11 bT [(0,12),(1,12),(2,180),(3,272),(4,5),(5,5),(6,273),(7,274),(8,275),(9,276),(10,277)] bF 0 48 [.int .u64 0,.int .u64 0,.int .u32 0,.int .u8 0,.int .u8 0,.int .u8 0,.int .u8 0,.nilFunc,.pointer none,.int .i32 0,.int .i32 0] bF bF 0 bF,
 rf 280,
 rf 282]
def strs:List Nat:=[9,10,11]
noncomputable abbrev PR:Program:=Tryz.prog
theorem WO:ti.all (jcu PR)=true:=by kernel_rfl
def ZP (P:Program) (k:Nat):Bool:=match P.underlying k with|some .string=>true|_=>false
theorem TF {P:Program} {l:List Nat} (a:l.all (ZP P)=true) (T:Nat) (h:gV l T=true):P.underlying T=some .string:=by
 have:=jV.1 a T ((qH _ _).1 h);unfold ZP at this
 split at this
 assumption
 cases this
theorem ZQ:strs.all (ZP PR)=true:=by kernel_rfl
theorem O8:∀T,gV strs T=true->PR.underlying T=some .string:=TF ZQ
theorem mixed:PR.follows .mixedOrders=true:=by kernel_rfl
def jcR (n:Nat) (fs:List (Nat×we)):Ctx:=⟨n,ti,fs,fun _ _ _ _=>none,strs,false⟩
def ctx (n:Nat) (fs:List (Nat×we)) (os:List (Nat×qd)):Ctx:=⟨n,ti,fs,jcL (jcR n fs) os,strs,false⟩
def mS:List (Nat×we)->Prop
 |[]=>True
 |p::r=>(p.2.own=false->wo PR p.1 p.2)/\mS r
def ck:List (Nat×qd)->Prop
 |[]=>True
 |p::r=>yS PR p.1 p.2/\ck r
theorem du:∀{l:List (Nat×we)},mS l->∀f s,kQ l f=some s->s.own=false->wo PR f s
 |[],_,f,s,h,_=>by simp[kQ] at h
 | (j,x)::r,hk,f,s,h,ho=>by
  simp only[kQ] at h
  cases a:Nat.beq j f with
  |true=>rw[a] at h;simp at h;subst h;have:=jb a;subst this;exact hk.1 ho
  |false=>rw[a] at h;exact du hk.2 f s h ho
theorem oI:∀{l:List (Nat×qd)},ck l->∀f s,kQ l f=some s->yS PR f s
 |[],_,f,s,h=>by simp[kQ] at h
 | (j,x)::r,hk,f,s,h=>by
  simp only[kQ] at h
  cases a:Nat.beq j f with
  |true=>rw[a] at h;simp at h;subst h;have:=jb a;subst this;exact hk.1
  |false=>rw[a] at h;exact oI hk.2 f s h
theorem TG {n:Nat} {fs:List (Nat×we)} (h:mS fs):(jcR n fs).ok PR:=
 ⟨OP WO,du h,O8,rfl,fun _ _ _ _ _ a=>by cases a⟩
theorem nN {n:Nat} {fs:List (Nat×we)} {os:List (Nat×qd)} (h:mS fs) (b:ck os):(ctx n fs os).ok PR:=
 ⟨OP WO,du h,O8,rfl,fun _ _ _ _ _ a=>Qj (TG h) (oI b) a⟩
def gd (t:Ty) (σ:St) (s:Nat):t.Data:=match σ.get s with
 | .dat a d=>(match wO a t d with|some x=>x|none=>t.dflt)
 |_=>t.dflt
def gr (t:Ty) (σ:St) (o:Nat):List t.Data:=match σ.obj o with
 |some (.row _ a _ _ l)=>(match wO (.slice a) (.slice t) l with|some l'=>l'|none=>[])
 |_=>[]
def gfn (ps rs:List Ty) (σ:St) (s:Nat):(Ty.st ps).Data->(Ty.st rs).Data:=match σ.get s with
 | .fn a b _ F=>if h:a=ps/\b=rs then h.1▸h.2▸F else fun _=>(Ty.st rs).dflt
 |_=>fun _=>(Ty.st rs).dflt
def wt (fn:Func):Code:=match fn.body with|some c=>c|none=> .skip
theorem jdl {f:Nat} {fn:Func} {n:Nat} {fs:List (Nat×we)} {os:List (Nat×qd)} {s:we} {A:Ann} (h:jaW (ctx n fs os) A fn (wt fn) s) (d:PR.funcs[f]? =some fn) (c:fn.body=some (wt fn)) (a:(fn.name== "runtime.NumGoroutine")=false)
 (e:fn.ntmps=n) (b:Nat.ble s.ps.length n=true) (hk:mS fs) (g:ck os):wo PR f s:=
 jbj (nN hk g) mixed d c a e (jy b) A h
theorem jbw {f:Nat} {fn:Func} {n:Nat} {fs:List (Nat×we)} {os:List (Nat×qd)} {s:qd} {A:Ann} (h:Ti (ctx n fs os) A fn (wt fn) s) (e:PR.funcs[f]? =some fn) (d:fn.body=some (wt fn)) (a:(fn.name== "runtime.NumGoroutine")=false)
 (g:fn.ntmps=n) (c:Nat.ble s.ps.length n=true) (b:yQ (Me s.ps 0)=true) (hk:mS fs) (i:ck os):yS PR f s:=
 jbm (nN hk i) mixed e d a g (jy c) b A h
abbrev qF:Prop:=false=false
theorem tZ:True:=True.intro
theorem iZ6 {x:Int} (a: -9223372036854775808<=x:=by omega) (b:x<=9223372036854775807:=by omega):kM x:=⟨a,b⟩
theorem kcC {f:Nat} {s:we} {fs:List (Nat×we)} (h:wo PR f s) (hk:mS fs):mS ((f,s)::fs):=⟨fun _=>h,hk⟩
theorem kcN:mS []:=trivial
theorem koC {f:Nat} {s:qd} {fs:List (Nat×qd)} (h:yS PR f s) (hk:ck fs):ck ((f,s)::fs):=⟨h,hk⟩
theorem koN:ck []:=trivial
theorem q7 (A:Ann) {f:Nat} {fn:Func} {fs:List (Nat×we)} {os:List (Nat×qd)} {s:we} {P:Prop} (h:P) (e:PR.funcs[f]? =some fn) (hk:mS fs) (g:ck os) (d:jaW (ctx fn.ntmps fs os) A fn (wt fn) s=P:=by kernel_rfl) (c:fn.body=some (wt fn):=by kernel_rfl) (a:(fn.name== "runtime.NumGoroutine")=false:=by kernel_rfl) (b:Nat.ble s.ps.length fn.ntmps=true:=by kernel_rfl):wo PR f s:=jdl (d.mpr h) e c a rfl b hk g
theorem wb {f:Nat} {fn:Func} {fs:List (Nat×we)} {os:List (Nat×qd)} {s:we} {P:Prop} (h:P) (e:PR.funcs[f]? =some fn) (hk:mS fs) (g:ck os) (d:jaW (ctx fn.ntmps fs os) (fun _=>none) fn (wt fn) s=P:=by kernel_rfl) (c:fn.body=some (wt fn):=by kernel_rfl) (a:(fn.name== "runtime.NumGoroutine")=false:=by kernel_rfl) (b:Nat.ble s.ps.length fn.ntmps=true:=by kernel_rfl):wo PR f s:=jdl (d.mpr h) e c a rfl b hk g
theorem uO (A:Ann) {f:Nat} {fn:Func} {fs:List (Nat×we)} {os:List (Nat×qd)} {s:qd} {P:Prop} (h:P) (g:PR.funcs[f]? =some fn) (hk:mS fs) (i:ck os) (e:Ti (ctx fn.ntmps fs os) A fn (wt fn) s=P:=by kernel_rfl) (d:fn.body=some (wt fn):=by kernel_rfl) (a:(fn.name== "runtime.NumGoroutine")=false:=by kernel_rfl) (c:Nat.ble s.ps.length fn.ntmps=true:=by kernel_rfl) (b:yQ (Me s.ps 0)=true:=by kernel_rfl):yS PR f s:=jbw (e.mpr h) g d a rfl c b hk i
theorem Ca {f:Nat} {fn:Func} {fs:List (Nat×we)} {os:List (Nat×qd)} {s:qd} {P:Prop} (h:P) (g:PR.funcs[f]? =some fn) (hk:mS fs) (i:ck os) (e:Ti (ctx fn.ntmps fs os) (fun _=>none) fn (wt fn) s=P:=by kernel_rfl) (d:fn.body=some (wt fn):=by kernel_rfl) (a:(fn.name== "runtime.NumGoroutine")=false:=by kernel_rfl) (c:Nat.ble s.ps.length fn.ntmps=true:=by kernel_rfl) (b:yQ (Me s.ps 0)=true:=by kernel_rfl):yS PR f s:=jbw (e.mpr h) g d a rfl c b hk i
def Lr (n:Nat) (fs:List (Nat×we)) (os:List (Nat×qd)) (cs:List (Nat×oF)) (vs:List (Nat×GU)):Ctx:=⟨n,ti,fs,jcQ (jcR n fs) os cs vs,strs,false⟩
def TH:List (Nat×oF)->Prop
 |[]=>True
 |p::r=>Jc PR p.1 p.2/\TH r
def TJ:List (Nat×GU)->Prop
 |[]=>True
 |p::r=>VOK PR p.1 p.2/\TJ r
theorem Cb:∀{l:List (Nat×oF)},TH l->∀f s,kQ l f=some s->Jc PR f s
 |[],_,f,s,h=>by simp[kQ] at h
 | (j,x)::r,hk,f,s,h=>by
  simp only[kQ] at h
  cases a:Nat.beq j f with
  |true=>rw[a] at h;simp at h;subst h;have:=jb a;subst this;exact hk.1
  |false=>rw[a] at h;exact Cb hk.2 f s h
theorem Cc:∀{l:List (Nat×GU)},TJ l->∀f s,kQ l f=some s->VOK PR f s
 |[],_,f,s,h=>by simp[kQ] at h
 | (j,x)::r,hk,f,s,h=>by
  simp only[kQ] at h
  cases a:Nat.beq j f with
  |true=>rw[a] at h;simp at h;subst h;have:=jb a;subst this;exact hk.1
  |false=>rw[a] at h;exact Cc hk.2 f s h
theorem Mu {n:Nat} {fs:List (Nat×we)} {os:List (Nat×qd)} {cs:List (Nat×oF)} {vs:List (Nat×GU)} (h:mS fs) (c:ck os) (a:TH cs) (d:TJ vs):(Lr n fs os cs vs).ok PR:=
 ⟨OP WO,du h,O8,rfl,fun _ _ _ _ _ b=>Ql (TG h) (oI c) (Cb a) (Cc d) b⟩
theorem jbx {f:Nat} {fn:Func} {n:Nat} {fs:List (Nat×we)} {os:List (Nat×qd)} {s:oF} {A:Ann} (h:Tx (ctx n fs os) A fn (wt fn) s) (d:PR.funcs[f]? =some fn) (c:fn.body=some (wt fn)) (a:(fn.name== "runtime.NumGoroutine")=false)
 (e:fn.ntmps=n) (b:Nat.ble s.ps.length n=true) (hk:mS fs) (g:ck os):Jc PR f s:=
 jbt (nN hk g) mixed d c a e (jy b) A h
end Go.X
namespace Go.X
open U
namespace L
theorem wD {α:Type} [Inhabited α] {l:List α} {i:Nat} (h:i<l.length):nth l i=l[i]:=by
 unfold nth;simp[h]
theorem k8 {α:Type} [Inhabited α] {l:List α} {i:Nat} (h:i<l.length):l.take (i+1)=l.take i++[nth l i]:=by
 rw[wD h];exact List.take_succ_eq_append_getElem h
theorem kw {α:Type} [Inhabited α] {l:List α} {i:Nat} (h:i<l.length):nth l i∈l:=by
 rw[wD h];exact List.getElem_mem h
theorem mem_iff {α:Type} [Inhabited α] {l:List α} {x:α}:x∈l↔∃i,i<l.length/\nth l i=x:=by
 constructor;intro h;obtain⟨i,hi,e⟩:=List.getElem_of_mem h;exact⟨i,hi,by rw[wD hi,e]⟩;rintro⟨i,hi,rfl⟩;exact kw hi
theorem all_false {α:Type} [Inhabited α] {l:List α} {i:Nat} {p:α->Bool} (h:i<l.length) (a:p (nth l i)=false):l.all p=false:=by
 rw[zV];exact⟨nth l i,kw h,by simp[a]⟩
theorem EQ {x:Int} (a: -9223372036854775808<=x) (b:x<=9223372036854775807):kM x:=⟨a,b⟩
end L
namespace BT
theorem two_nat (k:Nat):(2:Int)^k=((2^k:Nat):Int):=by simp
theorem div_nat (n k:Nat):(n:Int)/2^k=((n/2^k:Nat):Int):=by simp
theorem pow63 {k:Nat} (h:k<=62):2^k<2^63:=Nat.pow_lt_pow_right (by decide) (by omega)
theorem ofInt_nat {n:Nat} (a:n<2^63):(BitVec.ofInt 64 (n:Int)).toNat=n:=by
 simp only[BitVec.toNat_ofInt];omega
theorem wrap_nat {n:Nat} (h:n<2^63):IntKind.i64.wrap (n:Int)=(n:Int):=by
 unfold IntKind.wrap;simp[IntKind.signed,IntKind.bits];omega
theorem wrapU_nat {n:Nat} (h:n<2^63):IntKind.u64.wrap (n:Int)=(n:Int):=by
 unfold IntKind.wrap;simp[IntKind.signed,IntKind.bits];omega
theorem band_nat {a b:Nat} (c:a<2^63) (d:b<2^63):nY (a:Int) (b:Int)=((a&&&b:Nat):Int):=by
 unfold nY;rw[BitVec.toNat_and,ofInt_nat c,ofInt_nat d];exact wrap_nat (Nat.lt_of_le_of_lt Nat.and_le_left c)
theorem uand_nat {a b:Nat} (c:a<2^63) (d:b<2^63):yr (a:Int) (b:Int)=((a&&&b:Nat):Int):=by
 unfold yr;rw[BitVec.toNat_and,ofInt_nat c,ofInt_nat d];exact wrapU_nat (Nat.lt_of_le_of_lt Nat.and_le_left c)
theorem bor_nat {a b:Nat} (c:a<2^63) (d:b<2^63):bor (a:Int) (b:Int)=((a|||b:Nat):Int):=by
 unfold bor;rw[BitVec.toNat_or,ofInt_nat c,ofInt_nat d,wrap_nat (Nat.or_lt_two_pow c d)]
def qS (s:Int):Prop:=0<=s/\s<2^62
def has (s:Int) (p:Nat):Bool:=s.toNat.testBit p
theorem nat_of {s:Int} (h:qS s):∃n:Nat,s=(n:Int)/\n<2^62:=⟨s.toNat,by unfold qS at h;omega,by unfold qS at h;omega⟩
theorem lt63 {n:Nat} (h:n<2^62):n<2^63:=by omega
theorem has_shr {s:Int} (h:qS s) (p:Nat):decide (nY (s/2^p) 1=1)=has s p:=by
 obtain⟨n,rfl,b⟩:=nat_of h;unfold has;rw[ju,div_nat];have a:n/2^p<2^63:=Nat.lt_of_le_of_lt (Nat.div_le_self _ _) (lt63 b);rw[show(1:Int)=((1:Nat):Int) from rfl,band_nat a (by decide),Nat.and_one_is_mod,Nat.testBit_eq_decide_div_mod_eq];exact decide_eq_decide.2 ⟨fun h=>by omega,fun h=>by omega⟩
theorem has_ushr {s:Int} (h:qS s) (p:Nat):decide (yr (s/2^p) 1=1)=has s p:=by
 obtain⟨n,rfl,b⟩:=nat_of h;unfold has;rw[ju,div_nat];have a:n/2^p<2^63:=Nat.lt_of_le_of_lt (Nat.div_le_self _ _) (lt63 b);rw[show(1:Int)=((1:Nat):Int) from rfl,uand_nat a (by decide),Nat.and_one_is_mod,Nat.testBit_eq_decide_div_mod_eq];exact decide_eq_decide.2 ⟨fun h=>by omega,fun h=>by omega⟩
theorem bit_num {s:Int} (h:qS s) (p:Nat):nY (s/2^p) 1=if has s p=true then 1 else 0:=by
 obtain⟨n,rfl,b⟩:=nat_of h;unfold has;rw[ju,div_nat];have a:n/2^p<2^63:=Nat.lt_of_le_of_lt (Nat.div_le_self _ _) (lt63 b);rw[show(1:Int)=((1:Nat):Int) from rfl,band_nat a (by decide),Nat.and_one_is_mod,Nat.testBit_eq_decide_div_mod_eq]
 split
 rename_i h;have:=ja h;omega;rename_i h;have:¬(n/2^p%2=1):=fun e=>h (jJ e);omega
theorem sQ (p:Nat):has 0 p=false:=by unfold has;simp
theorem AQ (k p:Nat):has ((2:Int)^k) p=decide (k=p):=by
 unfold has;rw[two_nat,ju,Nat.testBit_two_pow]
theorem has_bor {a b:Int} (c:qS a) (d:qS b) (p:Nat):has (bor a b) p=(has a p||has b p):=by
 obtain⟨n,rfl,f⟩:=nat_of c;obtain⟨m,rfl,e⟩:=nat_of d;unfold has;rw[bor_nat (lt63 f) (lt63 e)];simp only[ju,Nat.testBit_or]
theorem bor_set {a b:Int} (e:qS a) (f:qS b):qS (bor a b):=by
 obtain⟨n,rfl,d⟩:=nat_of e;obtain⟨m,rfl,c⟩:=nat_of f;rw[bor_nat (lt63 d) (lt63 c)];have:n|||m<2^62:=Nat.or_lt_two_pow d c;unfold qS;omega
theorem DG:qS 0:=by unfold qS;omega
theorem mQ {k:Nat} (h:k<=61):qS ((2:Int)^k):=by
 rw[two_nat];have:2^k<2^62:=Nat.pow_lt_pow_right (by decide) (by omega);obtain⟨q,a⟩:∃q,q=2^k:=⟨_,rfl⟩;rw[<-a] at this⊢;unfold qS;omega
theorem ext {a b:Int} (c:qS a) (d:qS b) (h:∀p,has a p=has b p):a=b:=by
 obtain⟨n,rfl,f⟩:=nat_of c;obtain⟨m,rfl,e⟩:=nat_of d;have:n=m:=kg (fun i=>by have:=h i;unfold has at this;simpa using this);rw[this]
theorem has_lt {s:Int} {k:Nat} (c:0<=s) (h:s<2^k) {p:Nat} (b:has s p=true):p<k:=by
 obtain⟨n,rfl⟩:∃n:Nat,s=(n:Int):=⟨s.toNat,by omega⟩;rw[two_nat] at h;unfold has at b;rw[ju] at b;have d:=Nat.ge_two_pow_of_testBit b;rcases Nat.lt_or_ge p k with a|a;exact a;have:=Nat.pow_le_pow_right (n:=2) (by decide) a;omega
theorem lt_of_has {s:Int} {k:Nat} (a:qS s) (h:∀p,has s p=true->p<k):s<2^k:=by
 obtain⟨n,rfl,b⟩:=nat_of a;rw[two_nat];have:n<2^k:=Nat.lt_pow_two_of_testBit n (fun i hi=>by
  cases e:n.testBit i with
  |false=>rfl
  |true=>have:=h i (by unfold has;simpa using e);omega)
 omega
theorem or_two {n p:Nat} (h:n.testBit p=false):n+2^p=n|||2^p:=by
 have f:n=2^(p+1)*(n/2^(p+1))+n%2^(p+1):=(Nat.div_add_mod _ _).symm;have c:n%2^(p+1)<2^p:=by
  have b:n%2^(p+1)<2^(p+1):=Nat.mod_lt _ (Nat.pow_pos (by decide));rcases Nat.lt_or_ge (n%2^(p+1)) (2^p) with a|a
  .exact a
  .exfalso;have:(n%2^(p+1)).testBit p=true:=Nat.testBit_of_two_pow_le_and_two_pow_add_one_gt a b;rw[Nat.testBit_mod_two_pow,h] at this;simp at this
 apply kg;intro i;rw[Nat.testBit_or,Nat.testBit_two_pow];have e:n+2^p=2^(p+1)*(n/2^(p+1))+(2^p+n%2^(p+1)):=(by omega);have g:2^p+n%2^(p+1)<2^(p+1):=zB (Nat.add_lt_add_left c _) (by rw[Nat.pow_succ];omega);rw[e,Nat.testBit_two_pow_mul_add _ g]
 conv=>rhs;rw[f,Nat.testBit_two_pow_mul_add _ (Nat.mod_lt _ (Nat.pow_pos (by decide)))]
 have e2:2^p+n%2^(p+1)=2^p*1+n%2^(p+1):=(by omega);by_cases hi:i<p+1
 .rw[je hi,je hi,e2,Nat.testBit_two_pow_mul_add _ c];by_cases d:i<p
  .rw[je d,zl (by omega),Bool.or_false]
  .have:i=p:=(by omega);subst this;rw[jc d,Nat.sub_self,jJ rfl,Bool.or_true];simp
 .rw[jc hi,jc hi,zl (by omega),Bool.or_false]
theorem add_two {s:Int} (b:qS s) {p:Nat} (c:p<=61) (h:has s p=false):s+2^p=bor s (2^p):=by
 obtain⟨n,rfl,a⟩:=nat_of b;rw[two_nat,bor_nat (lt63 a) (pow63 (by omega))];unfold has at h;rw[ju] at h;rw[<-or_two h];omega
def size (s:Int):Int:=(((List.range 62).countP (fun p=>has s p):Nat):Int)
theorem size_zero:size 0=0:=by
 unfold size;have:(List.range 62).countP (fun p=>has 0 p)=0:=zM.2 (fun p _=>by rw[sQ];simp);rw[this];rfl
theorem size_le (s:Int):0<=size s/\size s<=62:=by
 have:=List.countP_le_length (l:=List.range 62) (p:=fun p=>has s p);rw[zG] at this;unfold size;omega
theorem has_half {s:Int} (a:qS s) (p:Nat):has (s/2) p=has s (p+1):=by
 obtain⟨n,rfl,b⟩:=nat_of a;unfold has;have:((n:Int)/2).toNat=n/2:=(by omega);rw[this,ju,Nat.testBit_succ]
theorem size_half {s:Int} (d:qS s):size s=s%2+size (s/2):=by
 obtain⟨n,e,i⟩:=nat_of d;have b:has (s/2) 61=false:=by
  rw[has_half d];subst e;unfold has;rw[ju];exact Nat.testBit_lt_two_pow i
 have j:(List.range 62)=0::(List.range 61).map (·+1):=by
  rw[show(62:Nat)=61+1 from rfl,List.range_succ_eq_map]
 have c:(List.range 62)=List.range 61++[61]:=(by rw[show(62:Nat)=61+1 from rfl,ze]);have f:(has s 0=true)↔s%2=1:=by
  subst e;unfold has;rw[ju,Nat.testBit_zero];simp only[jr];omega
 have g:(List.range 62).countP (fun p=>has (s/2) p)=(List.range 61).countP (fun p=>has s (p+1)):=by
  rw[c,zQ];simp only[kh,List.countP_nil,b];simp only[has_half d];simp
 unfold size;rw[g]
 conv=>lhs;rw[j]
 rw[kh,List.countP_map];have h:((fun p=>has s p)∘fun(x:Nat)=>x+1)=fun p=>has s (p+1):=rfl
 rw[h];by_cases a:has s 0=true
 .rw[je a];have:=f.1 a;omega
 .rw[jc a];have:¬s%2=1:=fun e=>a (f.2 e);omega
end BT
namespace BT
theorem uor_nat {a b:Nat} (c:a<2^63) (d:b<2^63):uor (a:Int) (b:Int)=((a|||b:Nat):Int):=by
 unfold uor;rw[BitVec.toNat_or,ofInt_nat c,ofInt_nat d,wrapU_nat (Nat.or_lt_two_pow c d)]
theorem has_uor {a b:Int} (c:qS a) (d:qS b) (p:Nat):has (uor a b) p=(has a p||has b p):=by
 obtain⟨n,rfl,f⟩:=nat_of c;obtain⟨m,rfl,e⟩:=nat_of d;unfold has;rw[uor_nat (lt63 f) (lt63 e)];simp only[ju,Nat.testBit_or]
theorem uor_set {a b:Int} (e:qS a) (f:qS b):qS (uor a b):=by
 obtain⟨n,rfl,d⟩:=nat_of e;obtain⟨m,rfl,c⟩:=nat_of f;rw[uor_nat (lt63 d) (lt63 c)];have:n|||m<2^62:=Nat.or_lt_two_pow d c;unfold qS;omega
theorem pred_odd (k:Nat):(2*k+1)&&&(2*k+1-1)=2*k:=by
 apply kg;intro i;rw[Nat.testBit_and,Nat.add_sub_cancel];cases i with
 |zero=>simp
 |succ i=>
  rw[Nat.testBit_succ,Nat.testBit_succ];have:(2*k+1)/2=k:=(by omega);have a:(2*k)/2=k:=(by omega);rw[this,a,Bool.and_self]
theorem pred_even (k:Nat) (_:k≠0):(2*k)&&&(2*k-1)=2*(k&&&(k-1)):=by
 apply kg;intro i;rw[Nat.testBit_and];cases i with
 |zero=>simp
 |succ i=>
  rw[Nat.testBit_succ,Nat.testBit_succ,Nat.testBit_succ];have:(2*k)/2=k:=(by omega);have a:(2*k-1)/2=k-1:=(by omega);have b:(2*(k&&&(k-1)))/2=k&&&(k-1):=(by omega);rw[this,a,b,Nat.testBit_and]
theorem size_dbl {k:Nat} (h:k<2^61):size ((2*k:Nat):Int)=size (k:Int):=by
 rw[size_half (s:=((2*k:Nat):Int)) (by unfold qS;omega)];have a:((2*k:Nat):Int)%2=0:=(by omega);have b:((2*k:Nat):Int)/2=(k:Int):=(by omega);rw[a,b];omega
theorem size_odd {k:Nat} (h:k<2^61):size ((2*k+1:Nat):Int)=1+size (k:Int):=by
 rw[size_half (s:=((2*k+1:Nat):Int)) (by unfold qS;omega)];have a:((2*k+1:Nat):Int)%2=1:=(by omega);have b:((2*k+1:Nat):Int)/2=(k:Int):=(by omega);rw[a,b]
theorem pred_nat:∀(n:Nat),n≠0->n<2^62->(n&&&(n-1))<n/\size ((n&&&(n-1):Nat):Int)+1=size (n:Int)
 |n,b,d=>by
  rcases Nat.mod_two_eq_zero_or_one n with e|e
  obtain⟨k,rfl⟩:∃k,n=2*k:=⟨n/2,by omega⟩
  have hk:k≠0:=by omega
  obtain⟨c,a⟩:=pred_nat k hk (by omega)
  rw[pred_even k hk]
  exact⟨by omega,by rw[size_dbl (by omega),size_dbl (by omega)];exact a⟩
  obtain⟨k,rfl⟩:∃k,n=2*k+1:=⟨n/2,by omega⟩
  rw[pred_odd]
  exact⟨by omega,by rw[size_dbl (by omega),size_odd (by omega)];omega⟩
termination_by n=>n
theorem pred {s:Int} (d:qS s) (h:s≠0):qS (yr s (s-1))/\yr s (s-1)<s/\size (yr s (s-1))+1=size s:=by
 obtain⟨n,rfl,a⟩:=nat_of d;have b:n≠0:=(by omega);have e:(n:Int)-1=((n-1:Nat):Int):=(by omega);rw[e,uand_nat (lt63 a) (by omega)];obtain⟨f,c⟩:=pred_nat n b a;exact⟨by unfold qS;omega,by omega,c⟩
end BT
namespace U
def dZ {α:Type} (eq:α->α->Bool) (p:α):List α->List α
 |[]=>[]
 |y::r=>if eq y p=true then dZ eq y r else y::dZ eq y r
def aF {α:Type} (eq:α->α->Bool):List α->List α
 |[]=>[]
 |x::r=>x::dZ eq x r
def jaL {α:Type} (eq:α->α->Bool) (l:List α) (i:Nat):Prop:=1<=i/\i<=l.length/\aF eq (l.take i)=l.take i
def nT {α:Type} (eq:α->α->Bool) (l:List α) (n:Nat):Int:=((aF eq (l.take n)).length:Int)
def N8 {α:Type} (eq:α->α->Bool) (l:List α) (i k:Nat) (r:List α):Prop:=1<=k/\i+k<=l.length/\r.length=l.length/\aF eq (l.take (i+k))=r.take (aF eq (l.take (i+k))).length/\r.drop (i+k-1)=l.drop (i+k-1)/\(aF eq (l.take (i+k))).length<i+k
end U
namespace L
theorem nodup_len {α:Type}:∀(a b:List α),a.Nodup->(∀x∈a,x∈b)->a.length<=b.length
 |[],_,_,_=>by simp
 |x::a,b,hn,h=>by
  obtain⟨e,f,rfl⟩:=List.append_of_mem (h x (by simp))
  rw[zq] at hn
  have:=nodup_len a (e++f) hn.2 (fun y d=>by
   have:=h y (by simp[d])
   rw[js,jk] at this
   rw[js]
   rcases this with c|c|c
   exact .inl c
   subst c;exact absurd d hn.1
   exact .inr c)
  simp at this⊢
  omega
theorem cS {α:Type} [DecidableEq α]:∀{a b:List α},a.Nodup->b.Nodup->(∀n,n∈a↔n∈b)->a.Perm b
 |[],b,_,_,h=>by
  have:b=[]:=by
   cases b with
   |nil=>rfl
   |cons x r=>exact absurd ((h x).2 (by simp)) (by simp)
  rw[this]
 |x::r,b,ha,hb,h=>by
  have i:x∈b:=(h x).1 (by simp);have f:=List.perm_cons_erase i;refine(List.Perm.cons x (cS (zq.1 ha).2 (hb.erase x) (fun n=> ?_))).trans f.symm;rw[hb.mem_erase_iff];constructor;intro c;exact⟨fun e=>by subst e;exact(zq.1 ha).1 c,(h n).1 (jo _ c)⟩;rintro⟨d,c⟩;rcases jk.1 ((h n).2 c) with e|g;exact absurd e d;exact g
theorem nodup_inj {α β:Type} {f:α->β}:∀{l:List α},(l.map f).Nodup->∀{x y:α},x∈l->y∈l->f x=f y->x=y
 |[],_,_,_,h,_,_=>by simp at h
 |a::r,hn,x,y,hx,hy,e=>by
  simp only[zt,zq] at hn
  rcases jk.1 hx with rfl|c
  rcases jk.1 hy with rfl|b
  rfl
  exact absurd (jS.2 ⟨y,b,e.symm⟩) hn.1
  rcases jk.1 hy with rfl|b
  exact absurd (jS.2 ⟨x,c,e⟩) hn.1
  exact nodup_inj hn.2 c b e
theorem nth_take {α:Type} [Inhabited α] {l:List α} {i n:Nat} (h:i<n):nth (l.take n) i=nth l i:=by
 unfold nth;rw[za,za,jQ h]
theorem nth_drop {α:Type} [Inhabited α] {l r:List α} {a n:Nat} (h:l.drop a=r.drop a) (b:a<=n):nth l n=nth r n:=by
 have e:=jR (fun x=>x[n-a]?) h;simp only[zg] at e;rw[show a+(n-a)=n by omega] at e;unfold nth;rw[za,za,e]
theorem nth_map {α β:Type} [Inhabited α] [Inhabited β] {f:α->β} {l:List α} {i:Nat} (h:i<l.length):nth (l.map f) i=f (nth l i):=by
 rw[wD (by simpa using h),wD h];simp
theorem yq {α:Type} [Inhabited α] {l:List α} {i j:Nat} {x:α} (h:i<l.length):nth (l.set i x) j=if i=j then x else nth l j:=by
 unfold nth;rw[za,za,List.getElem?_set]
 split
 rename_i e;subst e;simp[h];rfl
theorem cz {α:Type} [Inhabited α] {n i:Nat} {x:α} (h:i<n):nth (List.replicate n x) i=x:=by
 unfold nth;rw[za,List.getElem?_replicate,je h];rfl
theorem ext_nth {α:Type} [Inhabited α] {a b:List α} (h:a.length=b.length) (d:∀i,i<a.length->nth a i=nth b i):a=b:=by
 apply List.ext_getElem h;intro i c e;rw[<-wD c,<-wD e];exact d i c
theorem range_map_nth {α:Type} [Inhabited α] (l:List α):(List.range l.length).map (nth l)=l:=by
 apply ext_nth;simp;intro i hi;rw[nth_map (by simpa using hi)];congr 1;rw[wD (by simpa using hi)];simp
section
variable {α:Type} [Inhabited α] {eq:α->α->Bool}
theorem compT_snoc (y:α):∀(r:List α) (p:α),dZ eq p (r++[y])=dZ eq p r++(if eq y (nth (p::r) r.length)=true then[] else[y])
 |[],p=>rfl
 |z::r,p=>by
  have e:nth (p::z::r) (z::r).length=nth (z::r) r.length:=rfl
  rw[e]
  simp only[jW,dZ]
  split
  exact compT_snoc y r z
  rw[compT_snoc y r z];rfl
theorem comp_snoc (y:α) {l:List α} (h:l≠[]):aF eq (l++[y])=aF eq l++(if eq y (nth l (l.length-1))=true then[] else[y]):=by
 cases l with
 |nil=>exact absurd rfl h
 |cons x r=>
  show x::dZ eq x (r++[y])=_;rw[compT_snoc];have:(x::r).length-1=r.length:=(by simp);rw[this];rfl
theorem comp_take {l:List α} {n:Nat} (b:1<=n) (a:n<l.length):aF eq (l.take (n+1))=aF eq (l.take n)++(if eq (nth l n) (nth l (n-1))=true then[] else[nth l n]):=by
 rw[L.k8 a,comp_snoc];have e:(l.take n).length-1=n-1:=(by rw[jX];omega);rw[e,nth_take (by omega)];intro e;have:=jR List.length e;rw[jX,zp] at this;omega
end
theorem comp_short {α:Type} {eq:α->α->Bool} {l:List α} (h:l.length<2):aF eq l=l:=by
 match l,h with
 |[],_=>rfl
 |[x],_=>rfl
theorem comp_len {α:Type} {eq:α->α->Bool} (l:List α):(aF eq l).length<=l.length:=by
 have:∀(r:List α) (p:α),(dZ eq p r).length<=r.length:=by
  intro r
  induction r with
  |nil=>intro p;simp[dZ]
  |cons y r a=>
   intro p;unfold dZ
   split
   have:=a y;simp;omega;have:=a y;simp;omega
 cases l with
 |nil=>simp[aF]
 |cons x r=>have:=this r x;simp[aF];omega
theorem inv9_next {α:Type} [Inhabited α] {eq:α->α->Bool} {l r:List α} {i k:Nat} (hi:1<=i) (h:N8 eq l i k r) (g:i+k<l.length):
 (eq (nth r (i+k)) (nth r (i+k-1))=false->nT eq l (i+(k+1))=nT eq l (i+k)+1/\N8 eq l i (k+1) (r.set (nT eq l (i+k)).toNat (nth r (i+k))))/\
 (eq (nth r (i+k)) (nth r (i+k-1))=true->nT eq l (i+(k+1))=nT eq l (i+k)/\N8 eq l i (k+1) r):=by
 obtain⟨s,t,j,d,e,p⟩:=h;have o:nth r (i+k)=nth l (i+k):=nth_drop e (by omega);have e2:nth r (i+k-1)=nth l (i+k-1):=nth_drop e (by omega);have a:=comp_take (eq:=eq) (l:=l) (n:=i+k) (by omega) g;rw[show i+k+1=i+(k+1) by omega] at a;have m:r.drop (i+k)=l.drop (i+k):=by
  have:=jR (List.drop 1) e;rw[List.drop_drop,List.drop_drop,show i+k-1+1=i+k by omega] at this;exact this
 rw[o,e2];obtain⟨c,b⟩:∃c,c=aF eq (l.take (i+k)):=⟨_,rfl⟩;rw[<-b] at a d p;have q:(nT eq l (i+k))=(c.length:Int):=(by unfold nT;rw[<-b]);rw[q];refine⟨fun f=> ?_,fun f=> ?_⟩;rw[jc (by rw[f];simp)] at a;refine⟨by unfold nT;rw[a];simp,by omega,by omega,by simpa using j,?_,?_,?_⟩;rw[a];simp only[ju,jI,jZ,zp];rw[List.take_add_one,List.getElem?_set_self (by omega)];rw[List.take_set_of_le (by omega),<-d];rfl;rw[show i+(k+1)-1=i+k by omega];simp only[ju];rw[List.drop_set_of_lt (by omega)];exact m;rw[a];simp;omega;rw[je f,j9] at a;refine⟨by unfold nT;rw[a],by omega,by omega,j,?_,?_,?_⟩;rw[a];exact d;rw[show i+(k+1)-1=i+k by omega];exact m;rw[a];omega
theorem compT_sub {α:Type} {eq:α->α->Bool}:∀(r:List α) (p x:α),x∈dZ eq p r->x∈r
 |[],_,_,h=>by simp[dZ] at h
 |y::r,p,x,h=>by
  unfold dZ at h
  split at h
  exact jo _ (compT_sub r y x h)
  rcases jk.1 h with rfl|h
  simp
  exact jo _ (compT_sub r y x h)
theorem comp_sub {α:Type} {eq:α->α->Bool} {l:List α} {x:α} (h:x∈aF eq l):x∈l:=by
 cases l with
 |nil=>simp[aF] at h
 |cons y r=>
  unfold aF at h;rcases jk.1 h with rfl|h;simp;exact jo _ (compT_sub r y x h)
theorem compT_mem {α:Type} [DecidableEq α]:∀(r:List α) (p x:α),x∈r->x=p\/x∈dZ (fun a b=>decide (a=b)) p r
 |y::r,p,x,h=>by
  unfold dZ
  rcases jk.1 h with rfl|h
  by_cases e:x=p
  exact .inl e
  rw[jc (by simpa using e)];right;simp
  rcases compT_mem r y x h with rfl|c
  by_cases e:x=p
  exact .inl e
  rw[jc (by simpa using e)];right;simp
  right
  split
  exact c
  exact jo _ c
theorem comp_mem {α:Type} [DecidableEq α] {l:List α} {x:α}:x∈aF (fun a b=>decide (a=b)) l↔x∈l:=by
 refine⟨comp_sub,fun h=> ?_⟩;cases l with
 |nil=>simp at h
 |cons y r=>
  unfold aF;rcases jk.1 h with rfl|h;simp;rcases compT_mem r y x h with rfl|c;simp;exact jo _ c
theorem comp_asc {α:Type} [DecidableEq α] {lt:α->α->Bool}:∀{l:List α},qP lt l->O5 lt l->(aF (fun a b=>decide (a=b)) l).Pairwise (fun a b=>lt a b=true):=by
 have i:∀(r:List α) (p:α),qP lt (p::r)->O5 lt (p::r)->(p::dZ (fun a b=>decide (a=b)) p r).Pairwise (fun a b=>lt a b=true):=by
  intro r
  induction r with
  |nil=>intro p _ _;exact List.pairwise_singleton _ _
  |cons y r n=>
   intro p f j;have d:=zx.1 j;have k:qP lt (y::r):=f.sub (fun z c=>jo _ c);have hi:=n y k d.2;unfold dZ;by_cases e:y=p;rw[je (by simpa using e)];subst e;exact hi;rw[jc (by simpa using e)];refine zx.2 ⟨fun z c=> ?_,hi⟩;have g:lt p y=true:=by
    cases h:lt p y with
    |true=>rfl
    |false=>exact absurd (f.total p y (by simp) (by simp) h (d.1 y (by simp))).symm e
   rcases jk.1 c with rfl|c;exact g;have m:=compT_sub r y z c;exact f.trans p y z (by simp) (by simp) (by simp[m]) g ((zx.1 hi).1 z c)
 intro l f j;cases l with
 |nil=>exact List.Pairwise.nil
 |cons p r=>exact i r p f j
theorem asc_nodup {α:Type} {lt:α->α->Bool} {l:List α} (hi:∀x,lt x x=false) (h:l.Pairwise (fun a b=>lt a b=true)):l.Nodup:=
 h.imp (fun{a b} h e=>by subst e;rw[hi] at h;cases h)
theorem filter_take {α:Type} [Inhabited α] {p:α->Bool} {l:List α} {i:Nat} (h:i<l.length):(l.take (i+1)).filter p=(l.take i).filter p++(if p (nth l i)=true then[nth l i] else[]):=by
 rw[k8 h,List.filter_append];congr 1;by_cases e:p (nth l i)=true<;>simp[e]
theorem cA {p:Nat->Bool} {n:Nat}:(List.range (n+1)).filter p=(List.range n).filter p++(if p n=true then[n] else[]):=by
 rw[ze,List.filter_append];congr 1;by_cases e:p n=true<;>simp[e]
end L
end Go.X
namespace Go.X
open U
abbrev tSp:Ty:= .st [.int,.int]
abbrev tPe:Ty:= .st [.slice .int,.int,.int,.slice .int,.bool,.int]
abbrev tLw:Ty:= .st [.int,.int,.bool]
abbrev tCr:Ty:= .st [.int,.slice tPe,.slice tLw]
abbrev tJb:Ty:= .st [.int,.int,.int,.int,.int,.int]
abbrev tBk:Ty:= .st [tJb,.int,.int,.int]
abbrev tSh:Ty:= .st [.int,.int,.int,.int,.int]
abbrev tDy:Ty:= .st [tCr,.slice (.slice tSp),.slice tBk,.int,.int,.slice tSh]
abbrev SpD:Type:=Int×Int×Unit
abbrev PeD:Type:=List Int×Int×Int×List Int×Bool×Int×Unit
abbrev LwD:Type:=Int×Int×Bool×Unit
abbrev CrD:Type:=Int×List PeD×List LwD×Unit
abbrev JbD:Type:=Int×Int×Int×Int×Int×Int×Unit
abbrev BkD:Type:=JbD×Int×Int×Int×Unit
abbrev ShD:Type:=Int×Int×Int×Int×Int×Unit
abbrev DyD:Type:=CrD×List (List SpD)×List BkD×Int×Int×List ShD×Unit
namespace U
def lo (s:SpD):Int:=s.1
def hi (s:SpD):Int:=s.2.1
def kj (n a b:Int):Bool:=decide (a<=n)&&decide (n<=b)
def lv (p:PeD):List Int:=p.1
def fd (p:PeD):Int:=p.2.1
def cl (p:PeD):Int:=p.2.2.1
def yJ (p:PeD):List Int:=p.2.2.2.1
def jb9 (p:PeD):Bool:=p.2.2.2.2.1
def fe (p:PeD):Int:=p.2.2.2.2.2.1
def V3 (l:LwD):Int:=l.1
def ja1 (l:LwD):Int:=l.2.1
def jc8 (l:LwD):Bool:=l.2.2.1
def la (c:CrD):Int:=c.1
def kC (c:CrD):List PeD:=c.2.1
def vP (c:CrD):List LwD:=c.2.2.1
def Sa (j:JbD):Int:=j.1
def Ls (j:JbD):Int:=j.2.1
def X3 (j:JbD):Int:=j.2.2.1
def X4 (j:JbD):Int:=j.2.2.2.1
def iT (j:JbD):Int:=j.2.2.2.2.1
def ja2 (j:JbD):Int:=j.2.2.2.2.2.1
def yV (b:BkD):JbD:=b.1
def jaM (b:BkD):Int:=b.2.1
def qn (b:BkD):Int:=b.2.2.1
def mN (b:BkD):Int:=b.2.2.2.1
def yc (s:ShD):Int:=s.1
def Ip (s:ShD):Int:=s.2.1
def V4 (s:ShD):Int:=s.2.2.1
def K4 (s:ShD):Int:=s.2.2.2.1
def nU (s:ShD):Int:=s.2.2.2.2.1
def kE (d:DyD):CrD:=d.1
def wl (d:DyD):List (List SpD):=d.2.1
def kB (d:DyD):List BkD:=d.2.2.1
def K5 (d:DyD):Int:=d.2.2.2.1
def X5 (d:DyD):Int:=d.2.2.2.2.1
def kX (d:DyD):List ShD:=d.2.2.2.2.2.1
def l4 (d:DyD) (l:List ShD):DyD:=(kE d,wl d,kB d,K5 d,X5 d,l,())
def fV (L:Int) (p:PeD):Bool:=decide (((lv p).length:Int)=L/\0<=fd p/\fd p<=255/\0<=cl p/\cl p<=255/\(yJ p).length<=10/\0<=fe p/\fe p<=1000)&&((lv p).all (fun n=>kj n 0 5)&&(yJ p).all (fun n=>kj n 0 99))
def d4 (l:LwD):Bool:=kj (V3 l) 1 5&&kj (ja1 l) 1 8
def kU (c:CrD):Bool:=decide (2<=la c/\la c<=5/\(kC c).length<=8/\(vP c).length=4)&&((kC c).all (fV (la c))&&(vP c).all d4)
def wY (c:CrD) (j:JbD):Bool:=decide (0<=Sa j/\Sa j<=la c-1/\0<=Ls j/\Ls j<=la c-1/\Sa j≠Ls j/\0<=X3 j/\X3 j<=99/\0<=X4 j/\X4 j<=7/\0<=iT j/\iT j<=3/\1<=ja2 j/\ja2 j<=8)
def qr (c:CrD) (j:JbD):Int:=if kU c=false then 30 else if wY c j=false then 31 else 0
def sG (s:SpD):Bool:=decide (0<=lo s/\lo s<=hi s/\hi s<=300)
def aM (n:Nat) (r:List SpD):Bool:=decide (r.length=n)&&r.all sG
def iQ (n:Nat) (b:BkD):Bool:=decide (0<=jaM b/\jaM b<=(n:Int)-1/\0<=qn b/\qn b<mN b/\mN b<=1440)
def d6 (nb a:Nat) (s:ShD):Bool:=decide (0<=yc s/\yc s<=99/\0<=Ip s/\Ip s<=9999/\1<=V4 s/\V4 s<=2/\0<=K4 s/\K4 s<=(nb:Int)-1/\0<=nU s/\nU s<=(a:Int)-1)
def wE (d:DyD):Bool:=decide ((kB d).length<=4/\1<=(wl d).length/\(wl d).length<=5/\0<=K5 d/\K5 d<=300/\0<=X5 d/\X5 d<=1440/\(kX d).length<=30)&&
 ((wl d).all (aM (wl d).length)&&((kB d).all (iQ (wl d).length)&&(kX d).all (d6 (kB d).length (kC (kE d)).length)))
def Dw (a b:ShD):Bool:=decide (yc a=yc b)&& !decide (a=b)
def AO (l:List ShD) (i:Nat):Bool:=(l.take i).any (Dw (nth l i))
def y8 (l:List ShD) (n:Nat):Bool:=(List.range n).any (AO l)
def aN (l:List ShD):Bool:=y8 l l.length
def K6 (d:DyD):Bool:=(kB d).all (fun b=>wY (kE d) (yV b))
def gL (d:DyD):Int:=if kU (kE d)=false then 30 else if K6 d=false then 31 else if wE d=false then 50 else if aN (kX d)=true then 51 else 0
def Ib (l:List ShD) (i:Nat):Bool:= !((l.take i).any (fun x=>decide (x=nth l i)))
def X6 (l:List ShD) (n m:Nat):List ShD:=((List.range n).filter (fun i=>decide (yc (nth l i)=(m:Int))&&Ib l i)).map (nth l)
def VK (l:List ShD) (n:Nat):List ShD:=(List.range n).flatMap (X6 l l.length)
def Dx (l:List ShD):List ShD:=VK l 100
def K7 (p:PeD) (a:Int):Bool:=(yJ p).any (fun t=>decide (t=a))
def vD (s n:Int):Bool:=decide (nY (s/2^n.toNat) 1=1)
def y9 (c:CrD) (j:JbD) (p:Int):Bool:= !(K7 (nth (kC c) p.toNat) (X3 j))&&vD (fd (nth (kC c) p.toNat)) (X4 j)&&vD (cl (nth (kC c) p.toNat)) (iT j)
def bk (d:DyD) (b:Int):BkD:=nth (kB d) b.toNat
def jaN (d:DyD) (a b:Int):Int:=hi (nth (nth (wl d) (jaM (bk d a)).toNat) (jaM (bk d b)).toNat)
def cu (d:DyD) (a b:Int):Bool:=decide (qn (bk d a)<qn (bk d b)\/(qn (bk d a)=qn (bk d b)/\a<b))
def bL (d:DyD) (a b:Int):Int:=qn (bk d b)-mN (bk d a)-K5 d-jaN d a b
def l5 (d:DyD) (a b:Int):Bool:=if cu d b a=true then decide (0<=bL d b a) else decide (0<=bL d a b)
def N9 (d:DyD) (l:List Int):Int:=(l.map (fun b=>mN (bk d b)-qn (bk d b))).foldl (·+·) 0
def jca (d:DyD) (l:List Int):Bool:=(List.range l.length).all (fun i=>(l.take i).all (fun b=>l5 d (nth l i) b))
def il (d:DyD) (p:Int) (l:List Int):Bool:=l.all (fun b=>y9 (kE d) (yV (bk d b)) p)&&(jca d l&&decide (N9 d l<=X5 d))
def yC (a b:ShD):Bool:=decide (Ip b<Ip a\/(Ip a=Ip b/\yc b<yc a))
def AP (l:List ShD) (s:ShD):Bool:=decide (V4 s=1)&& !(l.any (fun t=>decide (K4 t=K4 s)&&decide (nU t=nU s)&&yC t s))
def VL (a b:ShD):Bool:=yC b a
def jc9 (t:List Int) (p:Int) (n:Nat):List Int:=((List.range n).filter (fun b=>vD (nth t b) p)).map (fun(b:Nat)=>(b:Int))
def on (t:List Int) (p:Int):List Int:=jc9 t p t.length
def F4 (d:DyD) (x:List Int×List Int) (s:ShD):List Int×List Int:=
 if il d (nU s) (on x.1 (nU s)++[K4 s])=true then(x.1.set (K4 s).toNat (nth x.1 (K4 s).toNat+2^(nU s).toNat),x.2) else(x.1,x.2++[yc s])
def jcb (c:CrD) (t:Int) (d a b:Int):Bool:=(List.range (kC c).length).any (fun i=>vD t (i:Int)&&decide (d<=nth (lv (nth (kC c) i)) a.toNat)&&decide (d<=nth (lv (nth (kC c) i)) b.toNat))
def d7 (c:CrD) (j:JbD):LwD:=nth (vP c) (iT j).toNat
end U
inductive Rch (J:Nat->Nat->Bool) (n s:Nat):Nat->Prop where
 |base:Rch J n s s
 |step {a b:Nat}:Rch J n s a->b<n->J a b=true->Rch J n s b
theorem Rch.lt {J:Nat->Nat->Bool} {n s t:Nat} (a:s<n) (h:Rch J n s t):t<n:=by
 cases h with
 |base=>exact a
 |step _ h _=>exact h
theorem Rch.trans {J:Nat->Nat->Bool} {n s t u:Nat} (a:Rch J n s t) (b:Rch J n t u):Rch J n s u:=by
 induction b with
 |base=>exact a
 |step _ c d e=>exact .step e c d
theorem Rch.symm {J:Nat->Nat->Bool} {n s t:Nat} (c:∀a b,J a b=J b a) (f:s<n) (h:Rch J n s t):Rch J n t s:=by
 induction h with
 |base=>exact .base
 |step d i e g=>
  rename_i a b;have:Rch J n b a:= .step .base (d.lt f) (by rw[c];exact e);exact this.trans g
theorem Rch.closed {J:Nat->Nat->Bool} {n s t:Nat} {S:Nat->Prop} (i:s<n) (c:S s) (f:∀a b,a<n->S a->b<n->J a b=true->S b) (h:Rch J n s t):S t:=by
 induction h with
 |base=>exact c
 |step d e g j=>exact f _ _ (d.lt i) j e g
namespace U
def X7 (J:Nat->Nat->Bool) (r a:Nat) (out:List Int) (b:Nat):List Int:=if nth out a=(r:Int)/\nth out b<0/\J a b=true then out.set b ((r:Int)+1) else out
def jda (J:Nat->Nat->Bool) (r a:Nat) (out:List Int) (k:Nat):List Int:=(List.range k).foldl (X7 J r a) out
def jdb (J:Nat->Nat->Bool) (n r:Nat) (out:List Int) (k:Nat):List Int:=(List.range k).foldl (fun o a=>jda J r a o n) out
def vX (n s:Nat):List Int:=(List.replicate n (-1:Int)).set s 0
def An (J:Nat->Nat->Bool) (n s k:Nat):List Int:=(List.range k).foldl (fun o r=>jdb J n r o n) (vX n s)
def sH (J:Nat->Nat->Bool) (q:Nat) (x:List Int×List Int) (b:Nat):List Int×List Int:=if nth x.1 b<0/\J q b=true then(x.1.set b (nth x.1 q+1),x.2++[(b:Int)]) else x
def sI (J:Nat->Nat->Bool) (q:Nat) (x:List Int×List Int) (k:Nat):List Int×List Int:=(List.range k).foldl (sH J q) x
def ga (J:Nat->Nat->Bool) (n:Nat) (x:List Int×List Int):List Int×List Int:=match x.2 with
 |[]=>x
 |q::_=>((sI J q.toNat x n).1,(sI J q.toNat x n).2.drop 1)
def gy (J:Nat->Nat->Bool) (n s:Nat):Nat->List Int×List Int
 |0=>(vX n s,[(s:Int)])
 |k+1=>ga J n (gy J n s k)
def jcc (J:Nat->Nat->Bool) (n s:Nat):List Int:=(gy J n s (n+1)).1
end U
theorem Cd (n s:Nat):(vX n s).length=n:=by unfold vX;simp
theorem Ce {n s x:Nat} (a:s<n) (b:x<n):nth (vX n s) x=if s=x then 0 else-1:=by
 unfold vX;rw[L.yq (by simpa using a),L.cz b]
structure R7 (J:Nat->Nat->Bool) (n s r a b:Nat) (out:List Int):Prop where
 len:out.length=n
 val:∀x,x<n->nth out x= -1\/(0<=nth out x/\nth out x<=(r:Int)+1)
 top:(a=0/\b=0)->∀x,x<n->nth out x<=(r:Int)
 zero:0<=nth out s
 rch:∀x,x<n->0<=nth out x->Rch J n s x
 lev:∀x,x<n->0<nth out x->∃y,y<n/\nth out y=nth out x-1
 cls:∀x y,x<n->y<n->0<=nth out x->(nth out x<(r:Int)\/(nth out x=(r:Int)/\(x<a\/(x=a/\y<b))))->J x y=true->0<=nth out y
theorem TK {J:Nat->Nat->Bool} {n s r a b:Nat} {out:List Int} (_:s<n) (t:a<n) (u:b<n) (h:R7 J n s r a b out):R7 J n s r a (b+1) (X7 J r a out b):=by
 unfold X7
 split
 rename_i q;obtain⟨c1,c2,v⟩:=q;have p:b<out.length:=(by rw[h.len];exact u);have c:∀j,nth (out.set b ((r:Int)+1)) j=if b=j then(r:Int)+1 else nth out j:=fun j=>L.yq p
 have o:b≠a:=fun e=>by subst e;omega
 refine⟨by simpa using h.len,fun x g=> ?_,fun e=>by omega,?_,fun x g f=> ?_,fun x g f=> ?_,fun x y g k f d l=> ?_⟩;rw[c];split;right;omega;exact h.val x g;rw[c];split;omega;exact h.zero;rw[c] at f
 split at f
 rename_i e;subst e;exact .step (h.rch a t (by omega)) u v;exact h.rch x g f;rw[c] at f⊢
 split at f
 rename_i e;subst e;rw[je rfl];exact⟨a,t,by rw[c,jc o];omega⟩;rename_i e;rw[jc e];obtain⟨y,k,e2⟩:=h.lev x g f;refine⟨y,k,?_⟩;rw[c,jc (fun e=>by subst e;omega)];exact e2;rw[c] at f d⊢
 split
 omega;rename_i z
 split at f
 rename_i e;rw[je e] at d;omega;rename_i e;rw[jc e] at d;refine h.cls x y g k f ?_ l;rcases d with d|⟨d,i|⟨i,w⟩⟩;exact .inl d;exact .inr ⟨d,.inl i⟩;exact .inr ⟨d,.inr ⟨i,by omega⟩⟩;rename_i q;refine⟨h.len,h.val,fun e=>by omega,h.zero,h.rch,h.lev,fun x y g k f d l=> ?_⟩;rcases d with d|⟨d,i|⟨i,w⟩⟩;exact h.cls x y g k f (.inl d) l;exact h.cls x y g k f (.inr ⟨d,.inl i⟩) l;by_cases e:y=b;subst e;subst i;rcases Int.lt_or_le (nth out y) 0 with m|m;exact absurd ⟨d,m,l⟩ q;exact m;exact h.cls x y g k f (.inr ⟨d,.inr ⟨i,by omega⟩⟩) l
theorem Yw {J:Nat->Nat->Bool} {n s r a:Nat} {out:List Int} (c:s<n) (b:a<n) (h:R7 J n s r a 0 out):∀k,k<=n->R7 J n s r a k (jda J r a out k)
 |0,_=>h
 |k+1,hk=>by
  have:=TK c b (show k<n by omega) (Yw c b h k (by omega))
  unfold jda at this⊢
  rw[ze,jT];exact this
theorem ZR {J:Nat->Nat->Bool} {n s r a:Nat} {out:List Int} (_:0<n) (h:R7 J n s r a n out):R7 J n s r (a+1) 0 out:=by
 refine⟨h.len,h.val,fun e=>by omega,h.zero,h.rch,h.lev,fun x y i c d b g=>h.cls x y i c d ?_ g⟩;rcases b with b|⟨b,f|⟨f,j⟩⟩;exact .inl b;by_cases e:x=a;exact .inr ⟨b,.inr ⟨e,c⟩⟩;exact .inr ⟨b,.inl (by omega)⟩;omega
theorem Yx {J:Nat->Nat->Bool} {n s r:Nat} {out:List Int} (a:s<n) (h:R7 J n s r 0 0 out):∀k,k<=n->R7 J n s r k 0 (jdb J n r out k)
 |0,_=>h
 |k+1,hk=>by
  have:=ZR (by omega) (Yw a (show k<n by omega) (Yx a h k (by omega)) n (jj _))
  unfold jdb at this⊢
  rw[ze,jT];exact this
theorem ZS {J:Nat->Nat->Bool} {n s r:Nat} {out:List Int} (h:R7 J n s r n 0 out):R7 J n s (r+1) 0 0 out:=by
 refine⟨h.len,fun x a=> ?_,fun _ x a=> ?_,h.zero,h.rch,h.lev,fun x y a i d b g=>h.cls x y a i d ?_ g⟩;rcases h.val x a with e|⟨c,e2⟩;exact .inl e;exact .inr ⟨c,by omega⟩;rcases h.val x a with e|⟨c,e2⟩<;>omega
 rcases b with b|⟨b,f|⟨f,j⟩⟩;by_cases e:nth out x=(r:Int);exact .inr ⟨e,.inl a⟩;exact .inl (by omega);omega;omega
theorem Yy {J:Nat->Nat->Bool} {n s:Nat} (c:s<n):∀k,R7 J n s k 0 0 (An J n s k)
 |0=>by
  have hi:∀x,x<n->nth (An J n s 0) x=if s=x then 0 else-1:=fun x a=>Ce c a
  refine⟨Cd n s,fun x a=> ?_,fun _ x a=> ?_,by rw[hi s c,je rfl];omega,fun x a b=> ?_,fun x a b=> ?_,fun x y a g b f d=> ?_⟩
  rw[hi x a];split<;>simp
  rw[hi x a];split<;>simp
  rw[hi x a] at b
  split at b
  rename_i e;subst e;exact .base
  omega
  rw[hi x a] at b;split at b<;>omega
  omega
 |k+1=>by
  have:=ZS (Yx c (Yy (J:=J) c k) n (jj _))
  unfold An at this⊢
  rw[ze,jT];exact this
theorem TL {J:Nat->Nat->Bool} {n s r a b:Nat} {out:List Int} (h:R7 J n s r a b out):∀(k:Nat) x,x<n->nth out x=(k:Int)->∀j,j<=k->∃y,y<n/\nth out y=(j:Int)
 |0,x,c,e,j,d=>⟨x,c,by rw[e];omega⟩
 |k+1,x,c,e,j,d=>by
  by_cases f:j=k+1
  exact⟨x,c,by rw[e];omega⟩
  obtain⟨y,g,e2⟩:=h.lev x c (by omega)
  exact TL h k y g (by rw[e2];omega) j (by omega)
theorem jby {J:Nat->Nat->Bool} {n s x:Nat} (o:s<n) (u:x<n):nth (An J n s n) x<0↔¬Rch J n s x:=by
 have h:=Yy (J:=J) o n;have i:∀y,y<n->nth (An J n s n) y<(n:Int):=by
  intro y p;have c:=h.top ⟨rfl,rfl⟩ y p;rcases Int.lt_or_le (nth (An J n s n) y) (n:Int) with l|l;exact l;exfalso;have e:nth (An J n s n) y=(n:Int):=(by omega);have d:=TL h n y p e;have:=L.nodup_len ((List.range (n+1)).map (fun(j:Nat)=>(j:Int))) (An J n s n) (List.Pairwise.map _ (fun a b f=>by intro e2;exact f (by omega)) List.nodup_range) (fun z v=>by
   obtain⟨j,g,rfl⟩:=jS.1 v;obtain⟨w,t,q⟩:=d j (by have:=jC.1 g;omega);rw[<-q];exact L.kw (by rw[h.len];exact t))
  rw[h.len] at this;simp at this;omega
 constructor;intro A k;have:=k.closed (S:=fun y=>0<=nth (An J n s n) y) o h.zero (fun a b m c r g=>h.cls a b m r c (.inl (i a m)) g);have this:0<=nth (An J n s n) x:=this;omega;intro k;rcases Int.lt_or_le (nth (An J n s n) x) 0 with c|c;exact c;exact absurd (h.rch x u c) k
def Ji (out:List Int):Nat:=out.countP (fun z=>decide (z<0))
theorem GW:∀{out:List Int} {b:Nat} {v:Int},b<out.length->nth out b<0->0<=v->Ji (out.set b v)+1=Ji out
 |[],b,v,h,_,_=>by simp at h
 |z::r,0,v,_,a,h2=>by
  have a:z<0:=a
  unfold Ji
  rw[List.set_cons_zero,kh,kh,jc (by simpa using h2),je (by simpa using a)]
 |z::r,b+1,v,h,a,h2=>by
  have:=GW (out:=r) (b:=b) (v:=v) (by simpa using h) a h2
  unfold Ji at this⊢
  rw[List.set_cons_succ,kh,kh]
  omega
structure jcS (J:Nat->Nat->Bool) (n s:Nat) (ex:Nat->Nat->Prop) (x:List Int×List Int):Prop where
 len:x.1.length=n
 low:∀y,y<n->-1<=nth x.1 y/\nth x.1 y<=(n:Int)*2
 zero:0<=nth x.1 s
 rch:∀y,y<n->0<=nth x.1 y->Rch J n s y
 que:∀q,q∈x.2->0<=q/\q<(n:Int)/\0<=nth x.1 q.toNat
 cls:∀y z,y<n->z<n->0<=nth x.1 y->(y:Int)∉x.2\/ex y z->J y z=true->0<=nth x.1 z
def Mv (n:Nat) (x:List Int×List Int):Prop:=∀y,y<n->nth x.1 y+(Ji x.1:Int)<=(n:Int)-1
theorem FA (J:Nat->Nat->Bool) (q:Nat) (x:List Int×List Int) (k:Nat):sI J q x (k+1)=sH J q (sI J q x k) k:=by
 unfold sI;rw[ze,jT];rfl
structure InI (J:Nat->Nat->Bool) (n s q k:Nat) (x0 x:List Int×List Int):Prop where
 i:jcS J n s (fun y z=>y=q/\z<k) x
 le:Mv n x
 mu:Ji x.1+x.2.length=Ji x0.1+x0.2.length
 pre:∃l,x.2=x0.2++l
 keep:∀y,y<n->0<=nth x0.1 y->nth x.1 y=nth x0.1 y
theorem ZT {J:Nat->Nat->Bool} {n s q k:Nat} {x0 x:List Int×List Int} (M:s<n) (p:q<n) (w:0<=nth x0.1 q) (hk:k<n) (h:InI J n s q k x0 x):InI J n s q (k+1) x0 (sH J q x k):=by
 have G:nth x.1 q=nth x0.1 q:=h.keep q p w;unfold sH
 split
 rename_i t;obtain⟨c1,c2⟩:=t;have m:k<x.1.length:=(by rw[h.i.len];exact hk);have b:∀j,nth (x.1.set k (nth x.1 q+1)) j=if k=j then nth x.1 q+1 else nth x.1 j:=fun j=>L.yq m
 have E:=GW (v:=nth x.1 q+1) m c1 (by omega);have F:=h.le q p;have u:k≠q:=fun e=>by subst e;omega
 obtain⟨l,C⟩:=h.pre;refine⟨⟨by simpa using h.i.len,fun y d=> ?_,?_,fun y d c=> ?_,fun z f=> ?_,fun y z d f c a g=> ?_⟩,fun y d=> ?_,?_,⟨l++[(k:Int)],by simp only[C,jK]⟩,fun y d c=> ?_⟩;simp only;rw[b];split;have:=h.i.low q p;omega;exact h.i.low y d;simp only;rw[b];split;omega;exact h.i.zero;simp only at c⊢;rw[b] at c
 split at c
 rename_i e;subst e;exact .step (h.i.rch q p (by omega)) hk c2;exact h.i.rch y d c;simp only at f⊢;rcases js.1 f with f|f;obtain⟨H,I,K⟩:=h.i.que z f;refine⟨H,I,?_⟩;rw[b];split;omega;exact K;simp at f;subst f;refine⟨by omega,by omega,?_⟩;rw[ju,b,je rfl];omega;simp only at c a⊢;rw[b] at c⊢
 split
 omega;rename_i B;by_cases e:k=y;subst e;rcases a with a|⟨a,_⟩;exact absurd (jg _ (by simp)) a;exact absurd a u;rw[jc e] at c;refine h.i.cls y z d f c ?_ g;rcases a with a|⟨o,A⟩;exact .inl (fun D=>a (jh _ D));exact .inr ⟨o,by omega⟩;simp only;rw[b];split;omega;have:=h.le y d;omega;have:=h.mu;simp only[jI,jZ,zp];omega;have:=h.keep y d c;simp only;rw[b,jc (fun e=>by subst e;omega)];exact this;rename_i t;refine⟨⟨h.i.len,h.i.low,h.i.zero,h.i.rch,h.i.que,fun y z d f c a g=> ?_⟩,h.le,h.mu,h.pre,h.keep⟩;rcases a with a|⟨o,A⟩;exact h.i.cls y z d f c (.inl a) g;by_cases e:z=k;subst e;subst o;rcases Int.lt_or_le (nth x.1 z) 0 with r|r;exact absurd ⟨r,g⟩ t;exact r;exact h.i.cls y z d f c (.inr ⟨o,by omega⟩) g
theorem TM {J:Nat->Nat->Bool} {n s q:Nat} {x:List Int×List Int} (e:s<n) (d:q<n) (b:0<=nth x.1 q) (hi:jcS J n s (fun _ _=>False) x) (a:Mv n x):∀k,k<=n->InI J n s q k x (sI J q x k)
 |0,_=>⟨⟨hi.len,hi.low,hi.zero,hi.rch,hi.que,fun y z i j f c g=>hi.cls y z i j f (by rcases c with h|⟨_,h⟩;exact .inl h;omega) g⟩,a,rfl,⟨[],by simp[sI]⟩,fun _ _ _=>rfl⟩
 |k+1,hk=>by rw[FA];exact ZT e d b (by omega) (TM e d b hi a k (by omega))
structure jaZ (J:Nat->Nat->Bool) (n s:Nat) (x:List Int×List Int):Prop where
 i:jcS J n s (fun _ _=>False) x
 le:Mv n x
theorem WP {J:Nat->Nat->Bool} {n s:Nat} {x:List Int×List Int} (k:s<n) (h:jaZ J n s x):jaZ J n s (ga J n x)/\(x.2≠[]->Ji (ga J n x).1+(ga J n x).2.length+1=Ji x.1+x.2.length):=by
 obtain⟨st,o⟩:=x;cases o with
 |nil=>exact⟨h,fun h=>absurd rfl h⟩
 |cons q r=>
  obtain⟨p,t,m⟩:=h.i.que q (by simp);have hi:=TM k (q:=q.toNat) (by omega) m h.i h.le n (jj _);obtain⟨l,d⟩:=hi.pre;have e2:(ga J n (st,q::r))=((sI J q.toNat (st,q::r) n).1,r++l):=by
   show((sI J q.toNat (st,q::r) n).1,(sI J q.toNat (st,q::r) n).2.drop 1)=_;rw[d];rfl
  rw[e2];have b:=hi.mu;rw[d] at b;refine⟨⟨⟨hi.i.len,hi.i.low,hi.i.zero,hi.i.rch,fun z c=>hi.i.que z (by rw[d];simp only at c⊢;exact jo _ c),fun y z j c f a g=> ?_⟩,hi.le⟩,fun _=> ?_⟩;rcases a with a|a;by_cases e:y=q.toNat;exact hi.i.cls y z j c f (.inr ⟨e,c⟩) g;refine hi.i.cls y z j c f (.inl ?_) g;rw[d];intro b;rcases jk.1 b with e2|b;omega;exact a b;exact a.elim;simp only[jW,jZ] at b⊢;omega
theorem O9 {J:Nat->Nat->Bool} {n s:Nat} (f:s<n):jaZ J n s (gy J n s 0)/\Ji (gy J n s 0).1+(gy J n s 0).2.length=n:=by
 have hi:∀x,x<n->nth (vX n s) x=if s=x then 0 else-1:=fun x i=>Ce f i
 have h:Ji (vX n s)+1=n:=by
  have:=GW (out:=List.replicate n (-1:Int)) (b:=s) (v:=0) (by simpa using f) (by rw[L.cz f];decide) (by decide);unfold vX;rw[this];unfold Ji;rw[List.countP_replicate];simp
 refine⟨⟨⟨Cd n s,fun y d=> ?_,?_,fun y d c=> ?_,fun q g=> ?_,fun y z d k c a j=> ?_⟩,fun y d=> ?_⟩,?_⟩;show-1<=nth (vX n s) y/\_;rw[show nth (gy J n s 0).1 y=_ from hi y d,hi y d];split<;>omega
 show 0<=nth (vX n s) s;rw[hi s f,je rfl];omega;have c:0<=nth (vX n s) y:=c;rw[hi y d] at c
 split at c
 rename_i e;subst e;exact .base;omega;have g:q∈[(s:Int)]:=g;simp at g;subst g;refine⟨by omega,by omega,?_⟩;show 0<=nth (vX n s) (s:Int).toNat;rw[ju,hi s f,je rfl];omega;have c:0<=nth (vX n s) y:=c;rw[hi y d] at c
 split at c
 rename_i e;subst e;rcases a with a|a;exact absurd (show(s:Int)∈[(s:Int)] by simp) a;exact a.elim;omega;show nth (vX n s) y+(Ji (vX n s):Int)<=(n:Int)-1;rw[hi y d];split<;>omega
 show Ji (vX n s)+1=n;exact h
theorem Cf {J:Nat->Nat->Bool} {n s:Nat} (b:s<n):∀k,jaZ J n s (gy J n s k)/\((gy J n s k).2=[]\/Ji (gy J n s k).1+(gy J n s k).2.length+k=n)
 |0=>⟨(O9 b).1,.inr (O9 b).2⟩
 |k+1=>by
  obtain⟨d,a⟩:=Cf b k
  obtain⟨f,g⟩:=WP b d
  refine⟨f,?_⟩
  by_cases e:(gy J n s k).2=[]
  left
  show(ga J n (gy J n s k)).2=[]
  unfold ga
  split
  exact e
  rename_i c;rw[e] at c;cases c
  right
  have:=g e
  rcases a with a|a
  exact absurd a e
  show Ji (ga J n (gy J n s k)).1+(ga J n (gy J n s k)).2.length+(k+1)=n
  omega
theorem ZU {J:Nat->Nat->Bool} {n s:Nat} (a:s<n):(gy J n s (n+1)).2=[]:=by
 rcases(Cf (J:=J) a (n+1)).2 with h|h;exact h;omega
theorem WQ {J:Nat->Nat->Bool} {n s k:Nat} (h:(gy J n s k).2=[]):∀m,k<=m->gy J n s m=gy J n s k:=by
 intro m c
 induction m with
 |zero=>have:k=0:=by omega
        subst this;rfl
 |succ m b=>
  by_cases e:k=m+1;rw[e];have e2:=b (by omega);show ga J n (gy J n s m)=_;rw[e2];unfold ga
  split
  rfl;rename_i a;rw[h] at a;cases a
theorem jbz {J:Nat->Nat->Bool} {n s x:Nat} (e:s<n) (l:x<n):nth (jcc J n s) x<0↔¬Rch J n s x:=by
 have h:=(Cf (J:=J) e (n+1)).1;have j:=ZU (J:=J) e;constructor;intro m d;have:=d.closed (S:=fun y=>0<=nth (jcc J n s) y) e h.i.zero (fun a b f c g k=>h.i.cls a b f g c (.inl (by rw[j];simp)) k);have this:0<=nth (jcc J n s) x:=this;omega;intro d;rcases Int.lt_or_le (nth (jcc J n s) x) 0 with c|c;exact c;exact absurd (h.i.rch x l c) d
theorem ZV {J:Nat->Nat->Bool} {n a b:Nat} (e:∀x y,J x y=J y x) (c:a<n) (d:b<n):nth (An J n a n) b<0↔nth (jcc J n b) a<0:=by
 rw[jby c d,jbz d c];exact not_congr ⟨fun h=>h.symm e c,fun h=>h.symm e d⟩
namespace U
def yg {α:Type} (p:α->Bool) (l:List α):Int:=match l.findIdx? p with|some i=>(i:Int)|none=> -1
def kl {α:Type} (F:α×Unit->Bool×Unit) (g:α):Bool:=(F (g,())).1
end U
def gfb (t:Ty) (σ:St) (s:Nat):(Ty.st [t]).Data->(Ty.st [.bool]).Data:=gfn [t] [.bool] σ s
theorem qJ:∀(l:List Prop) {k:Prop},kG l->k->asks l k
 |[],_,_,hk=>hk
 |_::r,_,h,hk=>⟨h.1,qJ r h.2 hk⟩
theorem vK {α:Type} [Inhabited α] {l:List α} {p:α->Bool} {i:Nat} (h:i<l.length) (a:∀b:Nat,b<i->p (nth l b)=false) (c:p (nth l i)=true):yg p l=i:=by
 have:l.findIdx? p=some i:=by
  rw[zZ];refine⟨h,by rw[<-L.wD h];exact c,fun j d=> ?_⟩;have:=a j d;rw[L.wD (by omega)] at this;simp[this]
 unfold yg;rw[this]
theorem qt {α:Type} [Inhabited α] {l:List α} {p:α->Bool} {i:Nat} (h:l.length<=i) (a:∀b:Nat,b<i->p (nth l b)=false):yg p l= -1:=by
 have:l.findIdx? p=none:=by
  rw[List.findIdx?_eq_none_iff];intro x c;obtain⟨k,hk,rfl⟩:=L.mem_iff.1 c;exact a k (by omega)
 unfold yg;rw[this]
theorem fB {α:Type} (p:α->Bool) (l:List α):decide (0<=yg p l)=l.any p:=by
 rw[j6];unfold yg;simp only[jr]
 split
 rename_i i e;rw[zZ] at e;obtain⟨h,a,_⟩:=e;exact⟨fun _=>j8.2 ⟨_,List.getElem_mem h,a⟩,fun _=>by omega⟩;rename_i e;rw[List.findIdx?_eq_none_iff] at e;refine⟨fun h=>by omega,fun h=> ?_⟩;obtain⟨x,b,a⟩:=j8.1 h;have:=e x b;exact absurd (a.symm.trans this) (by simp)
theorem rG {α:Type} (F:α×Unit->Bool×Unit) (l:List α):(!l.any (kl fun(x:α×Unit)=>(!kl F x.fst,())))=l.all (kl F):=by
 induction l with
 |nil=>rfl
 |cons a r b=>
  simp only[List.any_cons,List.all_cons,Bool.not_or,b];have:(!kl (fun(x:α×Unit)=>(!kl F x.fst,())) a)=kl F a:=by
   show(!(!kl F a))=_;rw[Bool.not_not]
  rw[this]
open Go.Proofs
namespace U
def sJ (s n:Int):Bool:=decide (yr (s/2^n.toNat) 1=1)
def ja3 (b:Bool):Int:=if b=true then 1 else 0
def K8 (c:CrD) (f g:Int->Bool) (p:PeD):Bool:=((((((decide (((lv p).length:Int)=la c)&&(lv p).all f)&&kj (fd p) 0 255)&&kj (cl p) 0 255)&&decide (((yJ p).length:Int)<=10))&&(yJ p).all g)&&kj (fe p) 0 1000)
end U
def Mw:we:=⟨[.val .int,.val .int,.val .int],[.bool],false,fun _=>[],fun d=>(kj d.1 d.2.1 d.2.2.1,())⟩
def Mx:Prop:=∀(d:Int×Int×Int×Unit),(decide (d.2.1<=d.1)&&decide (d.1<=d.2.2.1),())=(kj d.1 d.2.1 d.2.2.1,())
def lA:we:=⟨[.val (.uint .u64),.val .int],[.bool],false,fun d=>[0<=d.2.1,d.2.1<=64],fun d=>(sJ d.1 d.2.1,())⟩
def Jj:Prop:=∀(d:Int×Int×Unit),0<=d.2.1->d.2.1<=64->0<=d.2.1/\d.2.1<=64/\(decide (yr (d.1/(2:Int)^d.2.1.toNat) (1:Int)=1),())=(sJ d.1 d.2.1,())
def yo:we:=⟨[.val (.uint .u64)],[.int],false,fun d=>[BT.qS d.1],fun d=>(BT.size d.1,())⟩
def GX:Ann:=fun r=>match r with
 |1=>some fun σ=>{X:=Int×Int,sl:=fun x=>[(0,.dat (.uint .u64) x.1),(2,.dat .int x.2)],ob:=fun _=>[],inv:=fun x=>BT.qS x.1/\x.2+BT.size x.1=BT.size (gd (.uint .u64) σ 0),mu:=fun x=>x.1.toNat}
 |_=>none
def GY:Prop:=∀(d:Int×Unit),BT.qS d.1->(∃(x:Int×Int),((d.1=x.1/\0=x.2/\True)/\True)/\BT.qS x.1/\x.2+BT.size x.1=BT.size d.1)/\∀(x:Int×Int),BT.qS x.1/\x.2+BT.size x.1=BT.size d.1->(decide (x.1≠0)=true->kM (x.2+1)/\0<=x.1-1/\x.1-1<=18446744073709551615/\∃(a:Int×Int),((yr x.1 (x.1-1)=a.1/\x.2+1=a.2/\True)/\True)/\(BT.qS a.1/\a.2+BT.size a.1=BT.size d.1)/\a.1.toNat<x.1.toNat)/\(decide (x.1≠0)=false->(x.2,())=(BT.size d.1,()))
def Qm:we:=⟨[.val .bool],[.int],false,fun _=>[],fun d=>(ja3 d.1,())⟩
def Qn:Prop:=∀(d:Bool×Unit),(d.1=true->((1:Int),())=(ja3 d.1,()))/\(d.1=false->((0:Int),())=(ja3 d.1,()))
def oJ:we:=⟨[.val (.slice .int),.fn [.int] [.bool]],[.int],false,fun d=>[∀g∈d.1,kG (d.2.1.pre (g,()))],fun d=>(yg (kl (α:=Int) d.2.1.F) d.1,())⟩
def oK:Ann:=fun r=>match r with
 |2=>some fun σ=>{X:=Nat,sl:=fun i=>[(8,.dat .int (i:Int))],ob:=fun _=>[],inv:=fun i=>i<=(gd (.slice .int) σ 0).length/\∀b:Nat,b<i->kl (gfb .int σ 1) (nth (gd (.slice .int) σ 0) b)=false,mu:=fun i=>(gd (.slice .int) σ 0).length-i}
 |_=>none
def oL:Prop:=∀(d:List Int×FnD [Ty.int] [Ty.bool]×Unit),(∀(g:Int),g∈d.1->kG (d.2.1.1 (g,())))->d.1.length<4611686018427387904->(∃(x:Nat),((0=(x:Int)/\True)/\True)/\x<=d.1.length/\∀(b:Nat),b<x->kl d.2.1.2 (nth d.1 b)=false)/\∀(x:Nat),(x<=d.1.length/\∀(b:Nat),b<x->kl d.2.1.2 (nth d.1 b)=false)->(decide ((x:Int)<d.1.length)=true->0<=(x:Int)/\(x:Int)<d.1.length/\asks (d.2.1.1 (nth d.1 (x:Int).toNat,())) (((d.2.1.2 (nth d.1 (x:Int).toNat,())).1=true->((x:Int),())=(yg (kl d.2.1.2) d.1,()))/\((d.2.1.2 (nth d.1 (x:Int).toNat,())).1=false->kM ((x:Int)+1)/\∃(a:Nat),(((x:Int)+1=(a:Int)/\True)/\True)/\(a<=d.1.length/\∀(b:Nat),b<a->kl d.2.1.2 (nth d.1 b)=false)/\d.1.length-a<d.1.length-x)))/\(decide ((x:Int)<d.1.length)=false->((-1:Int),())=(yg (kl d.2.1.2) d.1,()))
def iv:we:=⟨[.val (.slice .int),.fn [.int] [.bool]],[.bool],false,fun d=>[∀g∈d.1,kG (d.2.1.pre (g,()))],fun d=>(d.1.any (kl (α:=Int) d.2.1.F),())⟩
def iw:Prop:=∀(d:List Int×FnD [Ty.int] [Ty.bool]×Unit),(∀(g:Int),g∈d.1->kG (d.2.1.1 (g,())))->(∀(g:Int),g∈d.1->kG (d.2.1.1 (g,())))/\(decide (0<=yg (kl d.2.1.2) d.1),())=(d.1.any (kl d.2.1.2),())
def oM:we:=⟨[.val (.slice tLw),.fn [tLw] [.bool]],[.int],false,fun d=>[∀g∈d.1,kG (d.2.1.pre (g,()))],fun d=>(yg (kl (α:=LwD) d.2.1.F) d.1,())⟩
def oN:Ann:=fun r=>match r with
 |2=>some fun σ=>{X:=Nat,sl:=fun i=>[(8,.dat .int (i:Int))],ob:=fun _=>[],inv:=fun i=>i<=(gd (.slice tLw) σ 0).length/\∀b:Nat,b<i->kl (gfb tLw σ 1) (nth (gd (.slice tLw) σ 0) b)=false,mu:=fun i=>(gd (.slice tLw) σ 0).length-i}
 |_=>none
def oO:Prop:=∀(d:List LwD×FnD [tLw] [Ty.bool]×Unit),(∀(g:LwD),g∈d.1->kG (d.2.1.1 (g,())))->d.1.length<4611686018427387904->(∃(x:Nat),((0=(x:Int)/\True)/\True)/\x<=d.1.length/\∀(b:Nat),b<x->kl d.2.1.2 (nth d.1 b)=false)/\∀(x:Nat),(x<=d.1.length/\∀(b:Nat),b<x->kl d.2.1.2 (nth d.1 b)=false)->(decide ((x:Int)<d.1.length)=true->0<=(x:Int)/\(x:Int)<d.1.length/\asks (d.2.1.1 (nth d.1 (x:Int).toNat,())) (((d.2.1.2 (nth d.1 (x:Int).toNat,())).1=true->((x:Int),())=(yg (kl d.2.1.2) d.1,()))/\((d.2.1.2 (nth d.1 (x:Int).toNat,())).1=false->kM ((x:Int)+1)/\∃(a:Nat),(((x:Int)+1=(a:Int)/\True)/\True)/\(a<=d.1.length/\∀(b:Nat),b<a->kl d.2.1.2 (nth d.1 b)=false)/\d.1.length-a<d.1.length-x)))/\(decide ((x:Int)<d.1.length)=false->((-1:Int),())=(yg (kl d.2.1.2) d.1,()))
def iy:we:=⟨[.val (.slice tLw),.fn [tLw] [.bool]],[.bool],false,fun d=>[∀g∈d.1,kG (d.2.1.pre (g,()))],fun d=>(d.1.any (kl (α:=LwD) d.2.1.F),())⟩
def iz:Prop:=∀(d:List LwD×FnD [tLw] [Ty.bool]×Unit),(∀(g:LwD),g∈d.1->kG (d.2.1.1 (g,())))->(∀(g:LwD),g∈d.1->kG (d.2.1.1 (g,())))/\(decide (0<=yg (kl d.2.1.2) d.1),())=(d.1.any (kl d.2.1.2),())
def iA:we:=⟨[.val (.slice tPe),.fn [tPe] [.bool]],[.int],false,fun d=>[∀g∈d.1,kG (d.2.1.pre (g,()))],fun d=>(yg (kl (α:=PeD) d.2.1.F) d.1,())⟩
def iB:Ann:=fun r=>match r with
 |2=>some fun σ=>{X:=Nat,sl:=fun i=>[(8,.dat .int (i:Int))],ob:=fun _=>[],inv:=fun i=>i<=(gd (.slice tPe) σ 0).length/\∀b:Nat,b<i->kl (gfb tPe σ 1) (nth (gd (.slice tPe) σ 0) b)=false,mu:=fun i=>(gd (.slice tPe) σ 0).length-i}
 |_=>none
def iC:Prop:=∀(d:List PeD×FnD [tPe] [Ty.bool]×Unit),(∀(g:PeD),g∈d.1->kG (d.2.1.1 (g,())))->d.1.length<4611686018427387904->(∃(x:Nat),((0=(x:Int)/\True)/\True)/\x<=d.1.length/\∀(b:Nat),b<x->kl d.2.1.2 (nth d.1 b)=false)/\∀(x:Nat),(x<=d.1.length/\∀(b:Nat),b<x->kl d.2.1.2 (nth d.1 b)=false)->(decide ((x:Int)<d.1.length)=true->0<=(x:Int)/\(x:Int)<d.1.length/\asks (d.2.1.1 (nth d.1 (x:Int).toNat,())) (((d.2.1.2 (nth d.1 (x:Int).toNat,())).1=true->((x:Int),())=(yg (kl d.2.1.2) d.1,()))/\((d.2.1.2 (nth d.1 (x:Int).toNat,())).1=false->kM ((x:Int)+1)/\∃(a:Nat),(((x:Int)+1=(a:Int)/\True)/\True)/\(a<=d.1.length/\∀(b:Nat),b<a->kl d.2.1.2 (nth d.1 b)=false)/\d.1.length-a<d.1.length-x)))/\(decide ((x:Int)<d.1.length)=false->((-1:Int),())=(yg (kl d.2.1.2) d.1,()))
def cH:we:=⟨[.val (.slice tPe),.fn [tPe] [.bool]],[.bool],false,fun d=>[∀g∈d.1,kG (d.2.1.pre (g,()))],fun d=>(d.1.any (kl (α:=PeD) d.2.1.F),())⟩
def cI:Prop:=∀(d:List PeD×FnD [tPe] [Ty.bool]×Unit),(∀(g:PeD),g∈d.1->kG (d.2.1.1 (g,())))->(∀(g:PeD),g∈d.1->kG (d.2.1.1 (g,())))/\(decide (0<=yg (kl d.2.1.2) d.1),())=(d.1.any (kl d.2.1.2),())
def xc:we:=⟨[.val .int,.rfn [.int] [.bool]],[.bool],false,fun d=>[kG (d.2.1.pre (d.1,()))],fun d=>(!(kl (α:=Int) d.2.1.F d.1),())⟩
def xd:Prop:=∀(d:Int×FnD [Ty.int] [Ty.bool]×Unit),kG (d.2.1.1 (d.1,()))->asks (d.2.1.1 (d.1,())) ((!(d.2.1.2 (d.1,())).1,())=(!kl d.2.1.2 d.1,()))
def DX:we:=⟨[.val (.slice .int),.fn [.int] [.bool]],[.bool],false,fun d=>[∀g∈d.1,kG (d.2.1.pre (g,()))],fun d=>(d.1.all (kl (α:=Int) d.2.1.F),())⟩
def DY:Prop:=∀(d:List Int×FnD [Ty.int] [Ty.bool]×Unit),(∀(g:Int),g∈d.1->kG (d.2.1.1 (g,())))->(∀(g:Int),g∈d.1->kG [kG (d.2.1.1 (g,()))])/\(!d.1.any (kl fun(a:Int×Unit)=>(!kl d.2.1.2 a.1,())),())=(d.1.all (kl d.2.1.2),())
def xe:we:=⟨[.val tLw,.rfn [tLw] [.bool]],[.bool],false,fun d=>[kG (d.2.1.pre (d.1,()))],fun d=>(!(kl (α:=LwD) d.2.1.F d.1),())⟩
def xf:Prop:=∀(d:LwD×FnD [tLw] [Ty.bool]×Unit),kG (d.2.1.1 (d.1,()))->asks (d.2.1.1 (d.1,())) ((!(d.2.1.2 (d.1,())).1,())=(!kl d.2.1.2 d.1,()))
def DZ:we:=⟨[.val (.slice tLw),.fn [tLw] [.bool]],[.bool],false,fun d=>[∀g∈d.1,kG (d.2.1.pre (g,()))],fun d=>(d.1.all (kl (α:=LwD) d.2.1.F),())⟩
def D0:Prop:=∀(d:List LwD×FnD [tLw] [Ty.bool]×Unit),(∀(g:LwD),g∈d.1->kG (d.2.1.1 (g,())))->(∀(g:LwD),g∈d.1->kG [kG (d.2.1.1 (g,()))])/\(!d.1.any (kl fun(a:LwD×Unit)=>(!kl d.2.1.2 a.1,())),())=(d.1.all (kl d.2.1.2),())
def oP:we:=⟨[.val tPe,.rfn [tPe] [.bool]],[.bool],false,fun d=>[kG (d.2.1.pre (d.1,()))],fun d=>(!(kl (α:=PeD) d.2.1.F d.1),())⟩
def oQ:Prop:=∀(d:PeD×FnD [tPe] [Ty.bool]×Unit),kG (d.2.1.1 (d.1,()))->asks (d.2.1.1 (d.1,())) ((!(d.2.1.2 (d.1,())).1,())=(!kl d.2.1.2 d.1,()))
def tq:we:=⟨[.val (.slice tPe),.fn [tPe] [.bool]],[.bool],false,fun d=>[∀g∈d.1,kG (d.2.1.pre (g,()))],fun d=>(d.1.all (kl (α:=PeD) d.2.1.F),())⟩
def tw:Prop:=∀(d:List PeD×FnD [tPe] [Ty.bool]×Unit),(∀(g:PeD),g∈d.1->kG (d.2.1.1 (g,())))->(∀(g:PeD),g∈d.1->kG [kG (d.2.1.1 (g,()))])/\(!d.1.any (kl fun(a:PeD×Unit)=>(!kl d.2.1.2 a.1,())),())=(d.1.all (kl d.2.1.2),())
def Jk:we:=⟨[.val .int],[.bool],false,fun _=>[],fun d=>(kj d.1 0 5,())⟩
def Jl:Prop:=∀(d:Int×Unit),(kj d.1 (0:Int) (5:Int),())=(kj d.1 (0:Int) (5:Int),())
def Jm:we:=⟨[.val .int],[.bool],false,fun _=>[],fun d=>(kj d.1 0 99,())⟩
def Jn:Prop:=∀(d:Int×Unit),(kj d.1 (0:Int) (99:Int),())=(kj d.1 (0:Int) (99:Int),())
def Jo:we:=⟨[.val tPe,.ref tCr,.rfn [.int] [.bool],.rfn [.int] [.bool]],[.bool],false,fun d=>[∀g∈U.lv d.1,kG (d.2.2.1.pre (g,())),∀g∈yJ d.1,kG (d.2.2.2.1.pre (g,()))],fun d=>(K8 d.2.1 (kl d.2.2.1.F) (kl d.2.2.2.1.F) d.1,())⟩
def Jp:Prop:=∀(d:PeD×CrD×FnD [Ty.int] [Ty.bool]×FnD [Ty.int] [Ty.bool]×Unit),(∀(g:Int),g∈U.lv d.1->kG (d.2.2.1.1 (g,())))->(∀(g:Int),g∈yJ d.1->kG (d.2.2.2.1.1 (g,())))->d.1.1.length<4611686018427387904->(decide ((d.1.1.length:Int)=d.2.1.1)=true->∀(g:Int),g∈d.1.1->kG (d.2.2.1.1 (g,())))/\(((decide ((d.1.1.length:Int)=d.2.1.1)&&d.1.1.all (kl d.2.2.1.2)&&kj d.1.2.1 (0:Int) (255:Int)&&kj d.1.2.2.1 (0:Int) (255:Int))=true->d.1.2.2.2.1.length<4611686018427387904)->((decide ((d.1.1.length:Int)=d.2.1.1)&&d.1.1.all (kl d.2.2.1.2)&&kj d.1.2.1 (0:Int) (255:Int)&&kj d.1.2.2.1 (0:Int) (255:Int)&&decide ((d.1.2.2.2.1.length:Int)<=10))=true->∀(g:Int),g∈d.1.2.2.2.1->kG (d.2.2.2.1.1 (g,())))/\(decide ((d.1.1.length:Int)=d.2.1.1)&&d.1.1.all (kl d.2.2.1.2)&&kj d.1.2.1 (0:Int) (255:Int)&&kj d.1.2.2.1 (0:Int) (255:Int)&&decide ((d.1.2.2.2.1.length:Int)<=10)&&d.1.2.2.2.1.all (kl d.2.2.2.1.2)&&kj d.1.q4.2.1 (0:Int) (1000:Int),())=(K8 d.2.1 (kl d.2.2.1.2) (kl d.2.2.2.1.2) d.1,()))
def Jq:we:=⟨[.val tLw],[.bool],false,fun _=>[],fun d=>(d4 d.1,())⟩
def Jr:Prop:=∀(d:LwD×Unit),(kj d.1.1 (1:Int) (5:Int)&&kj d.1.2.1 (1:Int) (8:Int),())=(d4 d.1,())
def Js:we:=⟨[.val .int,.ref tCr],[.bool],false,fun d=>[kM (U.la d.2.1-1)],fun d=>(kj d.1 0 (U.la d.2.1-1),())⟩
def Jt:Prop:=∀(d:Int×CrD×Unit),kM (U.la d.2.1-1)->kM (d.2.1.1-1)/\(kj d.1 (0:Int) (d.2.1.1-1),())=(kj d.1 (0:Int) (U.la d.2.1-1),())
def Qo:we:=⟨[.val tCr,.val tJb],[.int],false,fun _=>[],fun d=>(qr d.1 d.2.1,())⟩
abbrev jg8 (d:CrD×JbD×Unit):=(!kj d.2.1.1 (0:Int) (U.la d.1-1)|| !kj d.2.1.2.1 (0:Int) (U.la d.1-1)||decide (d.2.1.1=d.2.1.2.1)|| !kj d.2.1.2.2.1 (0:Int) (99:Int)|| !kj d.2.1.2.2.2.1 (0:Int) (7:Int)|| !kj d.2.1.q4.1 (0:Int) (3:Int)|| !kj d.2.1.q4.2.1 (1:Int) (8:Int))
abbrev jfw (d:CrD×JbD×Unit):=(8<(d.1.2.1.length:Int))
abbrev jg9:=(kl fun(a:LwD×Unit)=>(d4 a.1,()))
def Qp:Prop:=∀(d:CrD×JbD×Unit),((!!kj d.1.1 (2:Int) (5:Int))=true->d.1.2.1.length<4611686018427387904)->((!(!kj d.1.1 (2:Int) (5:Int)||decide (jfw d)))=true->∀(g:PeD),g∈d.1.2.1->kG [∀(c:Int),c∈U.lv g->kG [],∀(c:Int),c∈yJ g->kG []])/\(((!(!kj d.1.1 (2:Int) (5:Int)||decide (jfw d)|| !d.1.2.1.all (kl fun(b:PeD×Unit)=>(K8 d.1 (kl fun(b:Int×Unit)=>(kj b.1 (0:Int) (5:Int),())) (kl fun(b:Int×Unit)=>(kj b.1 (0:Int) (99:Int),())) b.1,()))))=true->d.1.2.2.1.length<4611686018427387904)->((!(!kj d.1.1 (2:Int) (5:Int)||decide (jfw d)|| !d.1.2.1.all (kl fun(a:PeD×Unit)=>(K8 d.1 (kl fun(a:Int×Unit)=>(kj a.1 (0:Int) (5:Int),())) (kl fun(a:Int×Unit)=>(kj a.1 (0:Int) (99:Int),())) a.1,()))||decide ((d.1.2.2.1.length:Int)≠4)))=true->∀(g:LwD),g∈d.1.2.2.1->kG [])/\((!kj d.1.1 (2:Int) (5:Int)||decide (jfw d)|| !d.1.2.1.all (kl fun(a:PeD×Unit)=>(K8 d.1 (kl fun(a:Int×Unit)=>(kj a.1 (0:Int) (5:Int),())) (kl fun(a:Int×Unit)=>(kj a.1 (0:Int) (99:Int),())) a.1,()))||decide ((d.1.2.2.1.length:Int)≠4)|| !d.1.2.2.1.all jg9)=true->((30:Int),())=(qr d.1 d.2.1,()))/\((!kj d.1.1 (2:Int) (5:Int)||decide (jfw d)|| !d.1.2.1.all (kl fun(a:PeD×Unit)=>(K8 d.1 (kl fun(a:Int×Unit)=>(kj a.1 (0:Int) (5:Int),())) (kl fun(a:Int×Unit)=>(kj a.1 (0:Int) (99:Int),())) a.1,()))||decide ((d.1.2.2.1.length:Int)≠4)|| !d.1.2.2.1.all jg9)=false->kM (U.la d.1-1)/\((!!kj d.2.1.1 (0:Int) (U.la d.1-1))=true->kM (U.la d.1-1))/\((jg8 d)=true->((31:Int),())=(qr d.1 d.2.1,()))/\((jg8 d)=false->((0:Int),())=(qr d.1 d.2.1,()))))
theorem Qq:Mx:=by
 intro d;rfl
theorem yH:wo PR 158 Mw:=wb Qq Tryz.func158 kcN koN
theorem My:Jj:=by
 intro d a b;exact⟨a,b,rfl⟩
theorem Ju:wo PR 208 lA:=wb My Tryz.func208 kcN koN
theorem Jv:GY:=by
 rintro⟨s,⟨⟩⟩ e;refine⟨⟨(s,0),⟨⟨rfl,rfl,tZ⟩,tZ⟩,e,by simp⟩,?_⟩;rintro⟨x,n⟩ ⟨a,b⟩;have a:BT.qS x:=a;have g:=BT.size_le s;have f:=BT.size_le x;refine⟨fun h=> ?_,fun h=> ?_⟩;have h:x≠0:=ja h;obtain⟨d,i,j⟩:=BT.pred a h;have c:=a;unfold BT.qS at c;simp only at b⊢;exact⟨iZ6,by omega,by omega,(yr x (x-1),n+1),⟨⟨rfl,rfl,tZ⟩,tZ⟩,⟨d,(by omega:n+1+BT.size (yr x (x-1))=BT.size s)⟩,(by unfold BT.qS at d;omega:(yr x (x-1)).toNat<x.toNat)⟩;have h:x=0:=(by simpa using h);subst h;simp only[BT.size_zero] at b;simp only at b⊢;rw[show n=BT.size s by omega]
theorem GZ:wo PR 160 yo:=q7 GX Jv Tryz.func160 kcN koN
theorem TN:Qn:=by
 rintro⟨b,⟨⟩⟩;exact⟨fun h=>by simp only at h;subst h;rfl,fun h=>by simp only at h;subst h;rfl⟩
theorem Qr:wo PR 152 Qm:=wb TN Tryz.func152 kcN koN
theorem rH:oL:=by
 rintro⟨l,f,⟨⟩⟩ a g;refine⟨⟨0,⟨⟨rfl,tZ⟩,tZ⟩,jv _,fun b c=>by omega⟩,fun i hi=>⟨fun h=> ?_,fun h=> ?_⟩⟩;have h:i<l.length:=(by simpa using h);simp only[ju] at*;refine⟨by omega,by omega,qJ _ (a _ (L.kw h)) ⟨fun c=> ?_,fun c=>⟨iZ6,i+1,⟨⟨by simp,tZ⟩,tZ⟩,⟨by omega,fun b d=> ?_⟩,by omega⟩⟩⟩;rw[vK (p:=kl (α:=Int) f.F) h hi.2 c];by_cases e:b=i;subst e;exact c;exact hi.2 b (by omega);have h:l.length<=i:=(by simpa using h);rw[qt (p:=kl (α:=Int) f.F) h hi.2]
theorem oR:wo PR 162 oJ:=q7 oK rH Tryz.func162 kcN koN
theorem lB:iw:=by
 rintro⟨l,f,⟨⟩⟩ a;refine⟨a,?_⟩;exact jR (·,()) (fB (kl (α:=Int) f.F) l)
theorem vN:wo PR 115 iv:=wb lB Tryz.func115 (kcC oR kcN) koN
theorem rI:oO:=by
 rintro⟨l,f,⟨⟩⟩ a g;refine⟨⟨0,⟨⟨rfl,tZ⟩,tZ⟩,jv _,fun b c=>by omega⟩,fun i hi=>⟨fun h=> ?_,fun h=> ?_⟩⟩;have h:i<l.length:=(by simpa using h);simp only[ju] at*;refine⟨by omega,by omega,qJ _ (a _ (L.kw h)) ⟨fun c=> ?_,fun c=>⟨iZ6,i+1,⟨⟨by simp,tZ⟩,tZ⟩,⟨by omega,fun b d=> ?_⟩,by omega⟩⟩⟩;rw[vK (p:=kl (α:=LwD) f.F) h hi.2 c];by_cases e:b=i;subst e;exact c;exact hi.2 b (by omega);have h:l.length<=i:=(by simpa using h);rw[qt (p:=kl (α:=LwD) f.F) h hi.2]
theorem oS:wo PR 231 oM:=q7 oN rI Tryz.func231 kcN koN
theorem lC:iz:=by
 rintro⟨l,f,⟨⟩⟩ a;refine⟨a,?_⟩;exact jR (·,()) (fB (kl (α:=LwD) f.F) l)
theorem iD:wo PR 215 iy:=wb lC Tryz.func215 (kcC oS kcN) koN
theorem lD:iC:=by
 rintro⟨l,f,⟨⟩⟩ a g;refine⟨⟨0,⟨⟨rfl,tZ⟩,tZ⟩,jv _,fun b c=>by omega⟩,fun i hi=>⟨fun h=> ?_,fun h=> ?_⟩⟩;have h:i<l.length:=(by simpa using h);simp only[ju] at*;refine⟨by omega,by omega,qJ _ (a _ (L.kw h)) ⟨fun c=> ?_,fun c=>⟨iZ6,i+1,⟨⟨by simp,tZ⟩,tZ⟩,⟨by omega,fun b d=> ?_⟩,by omega⟩⟩⟩;rw[vK (p:=kl (α:=PeD) f.F) h hi.2 c];by_cases e:b=i;subst e;exact c;exact hi.2 b (by omega);have h:l.length<=i:=(by simpa using h);rw[qt (p:=kl (α:=PeD) f.F) h hi.2]
theorem iF:wo PR 230 iA:=q7 iB lD Tryz.func230 kcN koN
theorem dx:cI:=by
 rintro⟨l,f,⟨⟩⟩ a;refine⟨a,?_⟩;exact jR (·,()) (fB (kl (α:=PeD) f.F) l)
theorem cJ:wo PR 213 cH:=wb dx Tryz.func213 (kcC iF kcN) koN
theorem Cg:xd:=by
 intro d h;exact qJ _ h rfl
theorem xg:wo PR 212 xc:=wb Cg Tryz.func212 kcN koN
theorem G0:DY:=by
 intro d h;exact⟨fun g a=>⟨h g a,tZ⟩,jR (·,()) (rG d.snd.fst.2 d.fst)⟩
theorem D1:wo PR 174 DX:=wb G0 Tryz.func174 (kcC vN (kcC xg kcN)) koN
theorem Ch:xf:=by
 intro d h;exact qJ _ h rfl
theorem xh:wo PR 216 xe:=wb Ch Tryz.func216 kcN koN
theorem G3:D0:=by
 intro d h;exact⟨fun g a=>⟨h g a,tZ⟩,jR (·,()) (rG d.snd.fst.2 d.fst)⟩
theorem D2:wo PR 178 DZ:=wb G3 Tryz.func178 (kcC iD (kcC xh kcN)) koN
theorem rJ:oQ:=by
 intro d h;exact qJ _ h rfl
theorem oT:wo PR 214 oP:=wb rJ Tryz.func214 kcN koN
theorem xi:tw:=by
 intro d h;exact⟨fun g a=>⟨h g a,tZ⟩,jR (·,()) (rG d.snd.fst.2 d.fst)⟩
theorem tz:wo PR 177 tq:=wb xi Tryz.func177 (kcC cJ (kcC oT kcN)) koN
theorem Mz:Jl:=fun _=>rfl
theorem Jw:wo PR 171 Jk:=wb Mz Tryz.func171 (kcC yH kcN) koN
theorem MA:Jn:=fun _=>rfl
theorem Jx:wo PR 172 Jm:=wb MA Tryz.func172 (kcC yH kcN) koN
theorem MB:Jp:=by
 unfold Jp Prod.q4;rintro⟨p,c,f,g,⟨⟩⟩ a b _;exact⟨fun _=>a,fun _=>⟨fun _=>b,rfl⟩⟩
theorem Jy:wo PR 173 Jo:=wb MB Tryz.func173 (kcC yH (kcC D1 kcN)) koN
theorem MC:Jr:=fun _=>rfl
theorem Jz:wo PR 175 Jq:=wb MC Tryz.func175 (kcC yH kcN) koN
theorem MD:Jt:=fun _ h=>⟨h,rfl⟩
theorem JA:wo PR 176 Js:=wb MD Tryz.func176 (kcC yH kcN) koN
theorem ZW (c:CrD) (p:PeD):K8 c (fun x=>kj x 0 5) (fun x=>kj x 0 99) p=fV (U.la c) p:=by
 rw[j6];simp only[K8,fV,kj,ji,jr];constructor;rintro⟨⟨⟨⟨⟨⟨e,f⟩,a⟩,b⟩,k⟩,i⟩,d⟩;exact⟨⟨e,a.1,a.2,b.1,b.2,by omega,d.1,d.2⟩,f,i⟩;rintro⟨⟨e,a,g,b,h,k,d,j⟩,f,i⟩;exact⟨⟨⟨⟨⟨⟨e,f⟩,a,g⟩,b,h⟩,by omega⟩,i⟩,d,j⟩
theorem ZX (c:CrD):(((((!kj c.1 2 5||decide (8<((c.2.1.length:Nat):Int)))|| !c.2.1.all (fV (U.la c)))||decide (((c.2.2.1.length:Nat):Int)≠4))|| !c.2.2.1.all d4))= !kU c:=by
 unfold kU;show _= !(decide (2<=c.1/\c.1<=5/\c.2.1.length<=8/\c.2.2.1.length=4)&&(c.2.1.all (fV (U.la c))&&c.2.2.1.all d4));cases c.2.1.all (fV (U.la c))<;>cases c.2.2.1.all d4<;>simp only[kj,Bool.not_true,Bool.not_false,Bool.or_true,Bool.or_false,Bool.and_true,Bool.and_false,Bool.true_or]
 rw[j6];simp only[zy,jN,Bool.and_eq_false_iff,jr,jD];omega
theorem jbA (c:CrD) (j:JbD):((((((!kj j.1 0 (U.la c-1)|| !kj j.2.1 0 (U.la c-1))||decide (j.1=j.2.1))|| !kj j.2.2.1 0 99)|| !kj j.2.2.2.1 0 7)|| !kj j.2.2.2.2.1 0 3)|| !kj j.2.2.2.2.2.1 1 8)= !wY c j:=by
 have key:(wY c j=false)↔¬(0<=j.1/\j.1<=U.la c-1/\0<=j.2.1/\j.2.1<=U.la c-1/\j.1≠j.2.1/\0<=j.2.2.1/\j.2.2.1<=99/\0<=j.2.2.2.1/\j.2.2.2.1<=7/\0<=j.2.2.2.2.1/\j.2.2.2.2.1<=3/\1<=j.2.2.2.2.2.1/\j.2.2.2.2.2.1<=8):=by
  unfold wY;exact jD
 rw[j6,jN,key];simp only[kj,zy,jN,Bool.and_eq_false_iff,jr,jD];omega
theorem TO:Qp:=by
 unfold Qp jg9 jfw jg8 Prod.q4;rintro⟨c,j,⟨⟩⟩;have f:∀p,kl (fun(x:PeD×Unit)=>(K8 c (kl fun(x:Int×Unit)=>(kj x.fst 0 5,())) (kl fun(x:Int×Unit)=>(kj x.fst 0 99,())) x.fst,())) p=fV (U.la c) p:=fun p=>ZW c p
 have e2:(kl fun(x:LwD×Unit)=>(d4 x.fst,()))=d4:=rfl;have d:=ZX c;have e:=jbA c j;intro _;refine⟨fun _ g _=>⟨fun _ _=>tZ,fun _ _=>tZ,tZ⟩,fun _=> ?_⟩;simp only at d e⊢;rw[funext f,e2,d,e];refine⟨fun _ _ _=>tZ,fun h=> ?_,fun h=> ?_⟩;have h:kU c=false:=(by simpa using h);unfold qr;rw[je h];have h:kU c=true:=(by simpa using h);have i:2<=U.la c/\U.la c<=5:=by
  unfold kU at h;simp only[ji,jr] at h;exact⟨h.1.1,h.1.2.1⟩
 have b:kM (U.la c-1):=iZ6;refine⟨b,fun _=>b,fun a=> ?_,fun a=> ?_⟩;have a:wY c j=false:=(by simpa using a);unfold qr;rw[jc (by rw[h];simp),je a];have a:wY c j=true:=(by simpa using a);unfold qr;rw[jc (by rw[h];simp),jc (by rw[a];simp)]
theorem FB:wo PR 137 Qo:=wb TO Tryz.func137 (kcC yH (kcC tz (kcC D2 (kcC Jw (kcC Jx (kcC Jy (kcC Jz (kcC JA kcN)))))))) koN
abbrev tTk:Ty:= .st [tCr,tJb,tLw]
abbrev TkD:Type:=CrD×JbD×LwD×Unit
namespace U
def tk (o:Option TkD):TkD:=kT (Ty.dflt tTk) o
def tc (t:TkD):CrD:=t.1
def tj (t:TkD):JbD:=t.2.1
def tl (t:TkD):LwD:=t.2.2.1
def F5 (c:CrD) (j:JbD):Option TkD:=if qr c j=0 then some (c,j,d7 c j,()) else none
def bM (t:TkD):Prop:=kU (tc t)=true/\wY (tc t) (tj t)=true/\tl t=d7 (tc t) (tj t)
def RX (a b c:Bool):Int:=ja3 a+2*ja3 b+4*ja3 c
def vd (t:TkD) (p:PeD):Int:=RX (K7 p (X3 (tj t))) (!vD (fd p) (X4 (tj t))) (!vD (cl p) (iT (tj t)))
def sK (t:TkD) (p:PeD):List (Int×Int):=[(0,ja3 (!K7 p (X3 (tj t)))),(1,nY (fd p/2^(X4 (tj t)).toNat) 1),(2,nY (cl p/2^(iT (tj t)).toNat) 1)]
def av (all left:List (Int×Int)) (out:Int):Prop:=BT.qS out/\left.Nodup/\(∀e∈left,e∈all)/\∀p:Nat,BT.has out p=true↔∃e∈all,e∉left/\e.2=0/\e.1.toNat=p
def yd (t:TkD) (s:Int) (n:Nat):List (Int×PeD×Unit):=((List.range n).filter (fun(i:Nat)=>sJ s (i:Int))).map (fun(i:Nat)=>((i:Int),nth (kC (tc t)) i,()))
def uV (t:TkD) (s:Int):List (Int×PeD×Unit):=yd t s (kC (tc t)).length
def jn (t:TkD) (a b:Int) (x:Int×PeD×Unit):Bool:=decide (V3 (tl t)<=min (nth (lv x.2.1) a.toNat) (nth (lv x.2.1) b.toNat))
def l6 (t:TkD) (s a b:Int):Bool:=(uV t s).any (jn t a b)
def gg (t:TkD) (a b:Int) (q:List (Int×PeD×Unit)):Bool:=match q.getLast? with|some x=>jn t a b x|none=>false
end U
def Ci:we:=⟨[.val (.slice .int),.val .int],[.int],false,fun _=>[],fun d=>(yg (fun x=>decide (x=d.2.1)) d.1,())⟩
def Cj:Ann:=fun r=>match r with
 |2=>some fun σ=>{X:=Nat,sl:=fun i=>[(8,.dat .int (i:Int))],ob:=fun _=>[],inv:=fun i=>i<=(gd (.slice .int) σ 0).length/\∀b:Nat,b<i->decide (nth (gd (.slice .int) σ 0) b=gd .int σ 1)=false,mu:=fun i=>(gd (.slice .int) σ 0).length-i}
 |_=>none
def Cm:Prop:=∀(d:List Int×Int×Unit),d.1.length<4611686018427387904->(∃(x:Nat),((0=(x:Int)/\True)/\True)/\x<=d.1.length/\∀(b:Nat),b<x->decide (nth d.1 b=d.2.1)=false)/\∀(x:Nat),(x<=d.1.length/\∀(b:Nat),b<x->decide (nth d.1 b=d.2.1)=false)->(decide ((x:Int)<d.1.length)=true->0<=(x:Int)/\(x:Int)<d.1.length/\(decide (d.2.1=nth d.1 (x:Int).toNat)=true->((x:Int),())=(yg (fun(c:Int)=>decide (c=d.2.1)) d.1,()))/\(decide (d.2.1=nth d.1 (x:Int).toNat)=false->kM ((x:Int)+1)/\∃(a:Nat),(((x:Int)+1=(a:Int)/\True)/\True)/\(a<=d.1.length/\∀(b:Nat),b<a->decide (nth d.1 b=d.2.1)=false)/\d.1.length-a<d.1.length-x))/\(decide ((x:Int)<d.1.length)=false->((-1:Int),())=(yg (fun(c:Int)=>decide (c=d.2.1)) d.1,()))
def rK:we:=⟨[.val (.slice .int),.val .int],[.bool],false,fun _=>[],fun d=>(d.1.any (fun x=>decide (x=d.2.1)),())⟩
def rL:Prop:=∀(d:List Int×Int×Unit),(decide (0<=yg (fun(a:Int)=>decide (a=d.2.1)) d.1),())=(d.1.any fun(b:Int)=>decide (b=d.2.1),())
def TP:we:=⟨[.val tCr,.val tJb],[.ptr tTk,.int],false,fun _=>[],fun d=>(F5 d.1 d.2.1,qr d.1 d.2.1,())⟩
def TQ:Prop:=∀(d:CrD×JbD×Unit),(decide (qr d.1 d.2.1≠0)=true->(none,qr d.1 d.2.1,())=(F5 d.1 d.2.1,qr d.1 d.2.1,()))/\(decide (qr d.1 d.2.1≠0)=false->0<=d.2.1.q4.1/\d.2.1.q4.1<(d.1.2.2.1.length:Int)/\(some (d.1,d.2.1,nth d.1.2.2.1 d.2.1.q4.1.toNat,()),(0:Int),())=(F5 d.1 d.2.1,qr d.1 d.2.1,()))
def LM (d:PD [.ref (.ptr tTk),.ref (.uint .u64)]) (xs:List (Ty.st [.int,tPe]).Data):Prop:=xs=uV (U.tk d.1) d.2.1
def Qs (d:PD [.ref (.ptr tTk),.ref (.uint .u64)]):AD (YS [.int,tPe]):=fun r=>match r with
 |1=>some fun _ _=>{X:=Nat,sl:=fun i=>[(12,.dat .int (i:Int))],ob:=fun _=>[],ys:=fun i=>(yd (U.tk d.1) d.2.1 i,true),inv:=fun i=>i<=(kC (U.tc (U.tk d.1))).length,mu:=fun i=>(kC (U.tc (U.tk d.1))).length-i}
 |_=>none
abbrev jfx (d:Option (CrD×JbD×LwD×Unit)×Int×Unit):=(kT (((0:Int),[],[],()),((0:Int),(0:Int),(0:Int),(0:Int),(0:Int),(0:Int),()),((0:Int),(0:Int),false,()),()) d.1)
abbrev jef (d:Option (CrD×JbD×LwD×Unit)×Int×Unit):=(kC (U.tc (U.tk d.1)))
abbrev jfy (x:Nat)(d:Option (CrD×JbD×LwD×Unit)×Int×Unit):=((x:Int),nth (jfx d).1.2.1 (x:Int).toNat,())
abbrev jgz (x:Nat)(a:Nat):=(((x:Int)+1=(a:Int)/\True)/\True)
def bA:Prop:=∀(d:Option (CrD×JbD×LwD×Unit)×Int×Unit) (l:Nat),d.1.isSome=true->(jef d).length<=60->d.1.isSome=true/\((jfx d).1.2.1.length<4611686018427387904->(∃(x:Nat),((0=(x:Int)/\True)/\True)/\([],true)=(yd (U.tk d.1) d.2.1 x,true)/\x<=(jef d).length)/\∀(x:Nat),x<=(jef d).length->(decide ((x:Int)<(jfx d).1.2.1.length)=true->0<=(x:Int)/\(x:Int)<(jfx d).1.2.1.length/\0<=(x:Int)/\(x:Int)<=64/\(sJ d.2.1 (x:Int)=true->l=l/\(∃(rest:List (Int×PeD×Unit)),yd (U.tk d.1) d.2.1 x++[(jfy x d)]++rest=uV (U.tk d.1) d.2.1)/\(((sJ d.2.1 (x:Int)&& !true)=true->true=true->yd (U.tk d.1) d.2.1 x++[(jfy x d)]=uV (U.tk d.1) d.2.1)/\((sJ d.2.1 (x:Int)&& !true)=false->kM ((x:Int)+1)/\∃(a:Nat),(jgz x a)/\(yd (U.tk d.1) d.2.1 x++[(jfy x d)],true)=(yd (U.tk d.1) d.2.1 a,true)/\a<=(jef d).length/\(jef d).length-a<(jef d).length-x))/\((sJ d.2.1 (x:Int)&& !false)=true->false=true->yd (U.tk d.1) d.2.1 x++[(jfy x d)]=uV (U.tk d.1) d.2.1)/\((sJ d.2.1 (x:Int)&& !false)=false->kM ((x:Int)+1)/\∃(a:Nat),(jgz x a)/\(yd (U.tk d.1) d.2.1 x++[(jfy x d)],false)=(yd (U.tk d.1) d.2.1 a,true)/\a<=(jef d).length/\(jef d).length-a<(jef d).length-x))/\(sJ d.2.1 (x:Int)=false->((sJ d.2.1 (x:Int)&& !false)=true->true=true->yd (U.tk d.1) d.2.1 x=uV (U.tk d.1) d.2.1)/\((sJ d.2.1 (x:Int)&& !false)=false->kM ((x:Int)+1)/\∃(a:Nat),(jgz x a)/\(yd (U.tk d.1) d.2.1 x,true)=(yd (U.tk d.1) d.2.1 a,true)/\a<=(jef d).length/\(jef d).length-a<(jef d).length-x)))/\(decide ((x:Int)<(jfx d).1.2.1.length)=false->true=true->yd (U.tk d.1) d.2.1 x=uV (U.tk d.1) d.2.1))
theorem iG:(WG (ctx 28 [(208,lA)] []) (wt Tryz.f207) [.int,tPe] [.ref (.ptr tTk),.ref (.uint .u64)] LM (fun d=>[d.1.isSome=true,(kC (U.tc (U.tk d.1))).length<=60]) (fun d _=>Qs d) (fun d l=>hkY [.int,tPe] l [24] (fun q=>∃rest,LM d (q++rest)) (fun _=>none)))=bA:=by kernel_rfl
def wd:oF:=⟨[.val (.ptr tTk),.val (.uint .u64)],fun _=>[],207,[.ptr tTk,.uint .u64],fun d=>(d.1,d.2.1,())⟩
def dz:Prop:=∀(d:Option (CrD×JbD×LwD×Unit)×Int×Unit),d=d
theorem mT:(Tx (ctx 6 [] []) (fun _=>none) Tryz.f159 (wt Tryz.f159) wd)=dz:=by kernel_rfl
def Pa (sv:SV):Option (Prop×(List (Ty.st [.int,tPe]).Data->Prop)):=match sv with
 | .clo 207 [.ep b t,.ep c s]=>(match wO b (.ptr tTk) t,wO c (.uint .u64) s with
  |some a,some d=>some ((a.isSome=true/\(kC (U.tc (U.tk a))).length<=60),fun xs=>xs=uV (U.tk a) d)
  |_,_=>none)
 |_=>none
def TR:I8 [.int,tPe]:={ps:=[.ref (.ptr tTk),.ref .int,.ref .int,.own (.box 4 [.dat .bool]) true],slots:=[4,6,7,8],dst:=34,pre:=fun _=>[],G:=fun d q=>((d.2.2.2.1.1||gg (U.tk d.1) d.2.1 d.2.2.1 q,()),()),stop:=fun d q=>gg (U.tk d.1) d.2.1 d.2.2.1 q,seq:=Pa}
def Cn:Nat->Option ((ts:List Ty)×I8 ts):=fun r=>match r with
 |3=>some ⟨[.int,tPe],TR⟩
 |_=>none
def f8:we:=⟨[.val (.ptr tTk),.val (.uint .u64),.val .int,.val .int],[.bool],false,
 fun d=>[d.1.isSome=true,bM (U.tk d.1),0<=d.2.2.1,d.2.2.1<U.la (U.tc (U.tk d.1)),0<=d.2.2.2.1,d.2.2.2.1<U.la (U.tc (U.tk d.1))],fun d=>(l6 (U.tk d.1) d.2.1 d.2.2.1 d.2.2.2.1,())⟩
abbrev jha (d:Option (CrD×JbD×LwD×Unit)×Int×Int×Int×Unit)(x:Int×PeD×Unit):=((kT (((0:Int),[],[],()),((0:Int),(0:Int),(0:Int),(0:Int),(0:Int),(0:Int),()),((0:Int),(0:Int),false,()),()) d.1).2.2.1.1<=min (nth x.2.1.1 d.2.2.1.toNat) (nth x.2.1.1 d.2.2.2.1.toNat))
abbrev jgA (d:Option (CrD×JbD×LwD×Unit)×Int×Int×Int×Unit):=(fun(a:List (Int×PeD×Unit))=>gg (U.tk d.1) d.2.2.1 d.2.2.2.1 a)
def f9:Prop:=∀(d:Option (CrD×JbD×LwD×Unit)×Int×Int×Int×Unit),d.1.isSome=true->bM (U.tk d.1)->0<=d.2.2.1->d.2.2.1<U.la (U.tc (U.tk d.1))->0<=d.2.2.2.1->d.2.2.2.1<U.la (U.tc (U.tk d.1))->(d.1.isSome=true/\(kC (U.tc (U.tk d.1))).length<=60)/\True/\(d.1,d.2.2.1,d.2.2.2.1,(false||gg (U.tk d.1) d.2.2.1 d.2.2.2.1 [],()),())=(d.1,d.2.2.1,d.2.2.2.1,(false,()),())/\(∀(q:List (Int×PeD×Unit)) (x:Int×PeD×Unit) (rest:List (Int×PeD×Unit)),q++x::rest=uV (U.tk d.1) d.2.1->vM (jgA d) q->0<=d.2.2.1/\d.2.2.1<(x.2.1.1.length:Int)/\0<=d.2.2.2.1/\d.2.2.2.1<(x.2.1.1.length:Int)/\d.1.isSome=true/\(decide (jha d x)=true->gg (U.tk d.1) d.2.2.1 d.2.2.2.1 (q++[x])=true/\((true,()),())=((false||gg (U.tk d.1) d.2.2.1 d.2.2.2.1 (q++[x]),()),()))/\(decide (jha d x)=false->gg (U.tk d.1) d.2.2.1 d.2.2.2.1 (q++[x])=false/\((false||gg (U.tk d.1) d.2.2.1 d.2.2.2.1 q,()),())=((false||gg (U.tk d.1) d.2.2.1 d.2.2.2.1 (q++[x]),()),())))/\(∀(xs:List (Int×PeD×Unit)),xs=uV (U.tk d.1) d.2.1->vM (jgA d) xs->(false,())=(l6 (U.tk d.1) d.2.1 d.2.2.1 d.2.2.2.1,()))/\∀(q:List (Int×PeD×Unit)) (x:Int×PeD×Unit) (rest:List (Int×PeD×Unit)),q++x::rest=uV (U.tk d.1) d.2.1->vM (jgA d) q->gg (U.tk d.1) d.2.2.1 d.2.2.2.1 (q++[x])=true->(false||gg (U.tk d.1) d.2.2.1 d.2.2.2.1 (q++[x]),())=(l6 (U.tk d.1) d.2.1 d.2.2.1 d.2.2.2.1,())
theorem oU:(O7 (Lr 33 [] [] [(159,wd)] []) f8 (fun _ _=>none) (hkC (Lr 33 [] [] [(159,wd)] []) (fun _=>none) Cn [] []) Tryz.f210 (wt Tryz.f210))=f9:=by kernel_rfl
theorem D3:Cm:=by
 rintro⟨l,x,⟨⟩⟩ d;refine⟨⟨0,⟨⟨rfl,tZ⟩,tZ⟩,jv _,fun b a=>by omega⟩,fun i hi=>⟨fun h=> ?_,fun h=> ?_⟩⟩;have h:i<l.length:=(by simpa using h);simp only[ju] at*;refine⟨by omega,by omega,fun a=> ?_,fun a=>⟨iZ6,i+1,⟨⟨by simp,tZ⟩,tZ⟩,⟨by omega,fun b c=> ?_⟩,by omega⟩⟩;rw[vK (p:=fun y=>decide (y=x)) h hi.2 (by have:=ja a;rw[<-this];exact jJ rfl)];by_cases e:b=i;subst e;exact zl (fun e=>jd a e.symm);exact hi.2 b (by omega);have h:l.length<=i:=(by simpa using h);rw[qt (p:=fun y=>decide (y=x)) h hi.2]
theorem Co:wo PR 111 Ci:=q7 Cj D3 Tryz.func111 kcN koN
theorem tA:rL:=by
 rintro⟨l,x,⟨⟩⟩;exact jR (·,()) (fB (fun y=>decide (y=x)) l)
theorem cm:wo PR 76 rK:=wb tA Tryz.func76 (kcC Co kcN) koN
theorem oV {c:CrD} {j:JbD} (h:qr c j=0):kU c=true/\wY c j=true:=by
 unfold qr at h
 split at h
 omega
 split at h
 omega;rename_i a b;exact⟨by simpa using a,by simpa using b⟩
theorem w7 {c:CrD} (h:kU c=true):2<=U.la c/\U.la c<=5/\(kC c).length<=8/\(vP c).length=4/\(∀p∈kC c,fV (U.la c) p=true)/\∀l∈vP c,d4 l=true:=by
 unfold kU at h;simp only[ji,jr,jV] at h;exact⟨h.1.1,h.1.2.1,h.1.2.2.1,h.1.2.2.2,h.2.1,h.2.2⟩
theorem lE {c:CrD} {j:JbD} (h:wY c j=true):(0<=Sa j/\Sa j<U.la c)/\(0<=Ls j/\Ls j<U.la c)/\Sa j≠Ls j/\(0<=X4 j/\X4 j<=7)/\(0<=iT j/\iT j<=3)/\(1<=ja2 j/\ja2 j<=8):=by
 unfold wY at h;have h:=ja h;obtain⟨d,m,e,n,f,_,_,g,i,k,l,a,b⟩:=h;exact⟨⟨d,by omega⟩,⟨e,by omega⟩,f,⟨g,i⟩,⟨k,l⟩,a,b⟩
theorem TS {c:CrD} {j:JbD} (h:qr c j=0):F5 c j=some (c,j,d7 c j,())/\bM (c,j,d7 c j,()):=by
 obtain⟨a,b⟩:=oV h;exact⟨by unfold F5;rw[je h],a,b,rfl⟩
theorem WR:TQ:=by
 unfold TQ Prod.q4;rintro⟨c,j,⟨⟩⟩;refine⟨fun h=> ?_,fun h=> ?_⟩;have h:qr c j≠0:=ja h;simp only;unfold F5;rw[jc h];have h:qr c j=0:=(by simpa using h);obtain⟨b,d⟩:=oV h;obtain⟨_,_,_,a,_⟩:=w7 b;obtain⟨_,_,_,_,hk,_⟩:=lE d;have hk:0<=j.2.2.2.2.1/\j.2.2.2.2.1<=3:=hk;have a:c.2.2.1.length=4:=a;refine⟨hk.1,by simp only;omega,?_⟩;simp only;rw[(TS h).1,h];rfl
theorem JB:wo PR 105 TP:=wb WR Tryz.func105 (kcC FB kcN) koN
theorem tB (t:TkD) (s:Int) (n:Nat):yd t s (n+1)=yd t s n++(if sJ s (n:Int)=true then[((n:Int),nth (kC (U.tc t)) n,())] else[]):=by
 unfold yd;rw[L.cA,zv]
 split<;>simp
theorem TT (t:TkD) (s:Int) {n m:Nat} (h:n<=m):∃rest,yd t s n++rest=yd t s m:=by
 induction m with
 |zero=>
  have:n=0:=(by omega);subst this;exact⟨[],by simp⟩
 |succ m b=>
  by_cases e:n=m+1;subst e;exact⟨[],by simp⟩;obtain⟨r,a⟩:=b (by omega);rw[tB,<-a];exact⟨r++_,by rw[jK]⟩
theorem rM:bA:=by
 unfold bA jgz jfy jef jfx;rintro⟨(_|t),s,⟨⟩⟩ l i e;cases i;have e:(kC (U.tc t)).length<=60:=e;refine⟨rfl,fun _=>⟨⟨0,⟨⟨rfl,tZ⟩,tZ⟩,rfl,jv _⟩,fun x g=> ?_⟩⟩;have g:x<=(kC (U.tc t)).length:=g;have c:U.tk (some t)=t:=rfl;refine⟨fun h=> ?_,fun h=> ?_⟩;have h:x<(kC (U.tc t)).length:=by
  have:=ja h;have this:(x:Int)<(kC (U.tc t)).length:=this;omega
 have j:(x:Int)<(kC (U.tc t)).length:=(by omega);refine⟨by omega,j,by omega,by omega,fun b=> ?_,fun b=> ?_⟩;have d:yd t s (x+1)=yd t s x++[((x:Int),nth (kC (U.tc t)) x,())]:=(by rw[tB,je b]);obtain⟨r,f⟩:=TT t s (show x+1<=(kC (U.tc t)).length by omega);refine⟨rfl,⟨r,by rw[d] at f;exact f⟩,⟨fun a=>absurd a (by rw[Bool.not_true,Bool.and_false];simp),fun _=>⟨iZ6,x+1,⟨⟨by omega,tZ⟩,tZ⟩,?_,(show x+1<=(kC (U.tc t)).length by omega),(show(kC (U.tc t)).length-(x+1)<(kC (U.tc t)).length-x by omega)⟩⟩,
  fun _ a=>(by cases a),fun a=> ?_⟩
 rw[c,d];rfl;rw[Bool.not_false,Bool.and_true] at a;exact absurd b (by simp only at a⊢;rw[a];simp);have d:yd t s (x+1)=yd t s x:=by
  rw[tB,jc (by simp only at b⊢;rw[b];simp),j9]
 refine⟨fun a=> ?_,fun _=>⟨iZ6,x+1,⟨⟨by omega,tZ⟩,tZ⟩,?_,(show x+1<=(kC (U.tc t)).length by omega),(show(kC (U.tc t)).length-(x+1)<(kC (U.tc t)).length-x by omega)⟩⟩;rw[Bool.not_false,Bool.and_true] at a;exact absurd a (by simp only at b⊢;rw[b];simp);rw[c,d];have h:(kC (U.tc t)).length<=x:=by
  have:=jd h;have this:¬(x:Int)<(kC (U.tc t)).length:=this;omega
 intro _;rw[show x=(kC (U.tc t)).length by omega];rfl
theorem ME {H:Imm} {lb:Array Value} {d:PD [.ref (.ptr tTk),.ref (.uint .u64)]} (g:pvs PR H [.ref (.ptr tTk),.ref (.uint .u64)] lb.toList d) (a:d.1.isSome=true) (b:(kC (U.tc (U.tk d.1))).length<=60):WD PR H [.int,tPe] (LM d) (.func (.func 207) #[] lb):=
 Yv (C:=ctx 28 [(208,lA)] []) (nN ⟨fun _=>Ju,tZ⟩ trivial) mixed Tryz.func207 (by kernel_rfl) (by kernel_rfl) (by kernel_rfl) (by kernel_rfl) (by decide) (iG.mpr rM) (fun d l B0 R h c e f=>jbu c f) g ⟨a,b,tZ⟩
theorem xj:dz:=by intro d;rfl
theorem dA:Jc PR 159 wd:=jbx (mT.mpr xj) Tryz.func159 (by kernel_rfl) (by kernel_rfl) (by kernel_rfl) (by kernel_rfl) trivial trivial
theorem ZY:∀(f:Nat) (p:Nat×oH),kQ ([]:List (Nat×Nat×oH)) f=some p->ROK PR f p.2:=fun _ _ h=>by cases h
theorem JC {sv:SV} {pr:Prop} {L:List (Ty.st [.int,tPe]).Data->Prop} {v:Value} {ρ:Env} (a:Pa sv=some (pr,L)) (b:pr) (g:SV.den PR ρ sv v):WD PR ρ.H [.int,tPe] L v:=by
 unfold Pa at a
 split at a
 case h_2=>cases a
 rename_i m t n s
 split at a
 case h_2=>cases a
 rename_i q p l f;simp only[jw,Prod.mk.injEq] at a;obtain⟨rfl,rfl⟩:=a;obtain⟨e,rfl⟩:=kz l;subst e;obtain⟨e2,rfl⟩:=kz f;subst e2;simp only[SV.den,SV.denL] at g;obtain⟨lb,rfl,x,r,k,h,y,o,c,i,j⟩:=g;exact ME (d:=(t,s,())) (by rw[k,c,j];exact⟨h,i,rfl⟩) b.1 b.2
theorem rN (t:TkD) (a b:Int) (q:List (Int×PeD×Unit)) (x:Int×PeD×Unit):gg t a b (q++[x])=U.jn t a b x:=by
 unfold gg;rw[List.getLast?_append];simp
theorem MF {t:TkD} {a b:Int} {q:List (Int×PeD×Unit)} (h:vM (fun q=>gg t a b q) q):q.any (U.jn t a b)=false:=by
 rw[zh];intro x c;obtain⟨u,v,rfl⟩:=List.append_of_mem c;have:=h u x v rfl;simp only[rN] at this;rw[this];simp
theorem Qt {t:TkD} {s:Int} {x:Int×PeD×Unit} (h:x∈uV t s):x.2.1∈kC (U.tc t):=by
 unfold uV yd at h;obtain⟨i,hi,rfl⟩:=jS.1 h;have:=jC.1 (jL.1 hi).1;exact L.kw this
theorem ZZ {n:Int} {p:PeD} (h:fV n p=true):((U.lv p).length:Int)=n:=by
 unfold fV at h;simp only[ji,jr] at h;exact h.1.1
theorem Cq:f9:=by
 unfold f9 jgA jha;rintro⟨(_|t),s,a,b,⟨⟩⟩ r l v f w g;cases r;obtain⟨c1,c2,A⟩:=l;have c1:kU (U.tc t)=true:=c1;obtain⟨B,C,D,E,p,F⟩:=w7 c1;have k:(kC (U.tc t)).length<=60:=(by omega);have c:U.tk (some t)=t:=rfl;refine⟨⟨rfl,k⟩,tZ,rfl,fun q x rest i e=> ?_,fun xs j e=> ?_,fun q x rest i e d=> ?_⟩;have z:x∈uV t s:=(by rw[c] at i;rw[<-i];simp);have o:=ZZ (p _ (Qt z));have o:((x.2.1.1.length:Nat):Int)=U.la (U.tc t):=o;have f:a<U.la (U.tc t):=f;have g:b<U.la (U.tc t):=g;have m:gg t a b q=false:=by
  cases n:q.getLast? with
  |none=>unfold gg;rw[n]
  |some y=>
   obtain⟨u,rfl⟩:=List.getLast?_eq_some_iff.1 n;have:=e u y [] rfl;exact this
 refine⟨v,by simp only;omega,w,by simp only;omega,rfl,fun h=> ?_,fun h=> ?_⟩;have h:U.jn t a b x=true:=h;have:gg t a b (q++[x])=true:=(by rw[rN];exact h);rw[c];simp only;exact⟨this,by rw[this];rfl⟩;have h:U.jn t a b x=false:=h;have:gg t a b (q++[x])=false:=(by rw[rN];exact h);rw[c];simp only;exact⟨this,by rw[this,m]⟩;rw[c] at j e;subst j;have:=MF e;simp only;rw[c];unfold l6;rw[this];rw[c] at i d⊢;simp only at d⊢;rw[d];unfold l6;rw[<-i];rw[rN] at d;simp[d]
theorem JD:(Lr 33 [] [] [(159,wd)] []).ok PR:=Mu trivial trivial ⟨dA,tZ⟩ trivial
theorem xl:wo PR 210 f8:=
 TD (body:=wt Tryz.f210) (C:=Lr 33 [] [] [(159,wd)] []) (hk:=hkC (Lr 33 [] [] [(159,wd)] []) (fun _=>none) Cn [] []) JD mixed Tryz.func210 (by kernel_rfl) (by kernel_rfl) (by kernel_rfl) (by decide)
  (fun B=>Fx JD mixed (fun k ts rs sv pr L v ρ hk c a b=>by
   unfold Cn at hk
   split at hk
   case h_2=>cases hk
   simp only[jw] at hk
   cases hk
   exact JC c a b) ZY B) (oU.mpr Cq)
namespace U
def gu (x:Int) (N n:Nat):List Int:=List.replicate n x++List.replicate (N-n) 0
def Lt (t:TkD) (c:Int) (a b:Nat):Bool:=l6 t c (a:Int) (b:Int)
def fW (t:TkD) (a:Int):List Int:=jcc (Lt t a) (la (tc t)).toNat (Ls (tj t)).toNat
def wu (t:TkD) (a:Int) (k:Nat):List Int×List Int:=gy (Lt t a) (la (tc t)).toNat (Ls (tj t)).toNat k
def yD (t:TkD) (a:Int) (x:List Int×List Int) (i:Nat):List Int×List Int:=sI (Lt t a) (nth x.2 0).toNat x i
def ja4 (t:TkD) (a:Int) (x:List Int×List Int) (lo:Nat):Prop:=jaZ (Lt t a) (la (tc t)).toNat (Ls (tj t)).toNat x/\x.2≠[]/\x.2.length<=10/\lo<=10
end U
def glo (σ:St) (s:Nat):Nat:=match σ.get s with
 | .osl _ _ lo _=>lo
 |_=>0
def G4:we:=⟨[.val (.uint .u64),.val (.uint .u64)],[.uint .u64,.uint .u64],false,fun d=>[0<=d.1,d.1<=1000,0<=d.2.1,d.2.1<=1000],fun d=>((0:Int),d.1*d.2.1,())⟩
abbrev jeK (d:Int×Int×Unit):=(d.1/(2:Int)^Int.toNat 32*yr d.2.1 (4294967295:Int)+yr d.1 (4294967295:Int)*yr d.2.1 (4294967295:Int)/(2:Int)^Int.toNat 32)
abbrev jeg (d:Int×Int×Unit):=(d.2.1/(2:Int)^Int.toNat 32)
abbrev jgB (d:Int×Int×Unit):=(yr (jeK d) (4294967295:Int)+yr d.1 (4294967295:Int)*(jeg d))
def G5:Prop:=∀(d:Int×Int×Unit),0<=d.1->d.1<=1000->0<=d.2.1->d.2.1<=1000->(0:Int)<=32/\(32:Int)<=64/\(0:Int)<=32/\(32:Int)<=64/\0<=yr d.1 (4294967295:Int)*yr d.2.1 (4294967295:Int)/\yr d.1 (4294967295:Int)*yr d.2.1 (4294967295:Int)<=18446744073709551615/\0<=d.1/(2:Int)^Int.toNat 32*yr d.2.1 (4294967295:Int)/\d.1/(2:Int)^Int.toNat 32*yr d.2.1 (4294967295:Int)<=18446744073709551615/\(0:Int)<=32/\(32:Int)<=64/\0<=d.1/(2:Int)^Int.toNat 32*yr d.2.1 (4294967295:Int)+yr d.1 (4294967295:Int)*yr d.2.1 (4294967295:Int)/(2:Int)^Int.toNat 32/\d.1/(2:Int)^Int.toNat 32*yr d.2.1 (4294967295:Int)+yr d.1 (4294967295:Int)*yr d.2.1 (4294967295:Int)/(2:Int)^Int.toNat 32<=18446744073709551615/\(0:Int)<=32/\(32:Int)<=64/\0<=yr d.1 (4294967295:Int)*(jeg d)/\yr d.1 (4294967295:Int)*(jeg d)<=18446744073709551615/\0<=yr (jeK d) (4294967295:Int)+yr d.1 (4294967295:Int)*(jeg d)/\yr (jeK d) (4294967295:Int)+yr d.1 (4294967295:Int)*(jeg d)<=18446744073709551615/\0<=d.1/(2:Int)^Int.toNat 32*(jeg d)/\d.1/(2:Int)^Int.toNat 32*(jeg d)<=18446744073709551615/\0<=d.1/(2:Int)^Int.toNat 32*(jeg d)+(jeK d)/(2:Int)^Int.toNat 32/\d.1/(2:Int)^Int.toNat 32*(jeg d)+(jeK d)/(2:Int)^Int.toNat 32<=18446744073709551615/\(0:Int)<=32/\(32:Int)<=64/\0<=d.1/(2:Int)^Int.toNat 32*(jeg d)+(jeK d)/(2:Int)^Int.toNat 32+(jgB d)/(2:Int)^Int.toNat 32/\d.1/(2:Int)^Int.toNat 32*(jeg d)+(jeK d)/(2:Int)^Int.toNat 32+(jgB d)/(2:Int)^Int.toNat 32<=18446744073709551615/\0<=d.1*d.2.1/\d.1*d.2.1<=18446744073709551615/\(d.1/(2:Int)^Int.toNat 32*(jeg d)+(jeK d)/(2:Int)^Int.toNat 32+(jgB d)/(2:Int)^Int.toNat 32,d.1*d.2.1,())=((0:Int),d.1*d.2.1,())
def MG:we:=⟨[.val (.uint .u64),.val (.uint .u64)],[.uint .u64,.uint .u64],false,fun d=>[0<=d.1,d.1<=1000,0<=d.2.1,d.2.1<=1000],fun d=>((0:Int),d.1*d.2.1,())⟩
def MH:Prop:=∀(d:Int×Int×Unit),0<=d.1->d.1<=1000->0<=d.2.1->d.2.1<=1000->(false=true->False)/\(qF->0<=d.1/\d.1<=1000/\0<=d.2.1/\d.2.1<=1000/\((0:Int),d.1*d.2.1,())=((0:Int),d.1*d.2.1,()))
def xm:qd:=⟨[.val (.slice .int),.val .int],[.cl (.row 3 .int .no)],fun d=>[d.1.length=1,0<=d.2.1,d.2.1<=1000],fun d=>((List.replicate d.2.1.toNat (nth d.1 0),()),())⟩
def xn:Ann:=fun r=>match r with
 |8=>some fun σ=>{X:=Nat,sl:=fun n=>[(8,.dat .int (n:Int))],ob:=fun n=>[(7,some (.row 3 .int false .no (gu (nth (gd (.slice .int) σ 0) 0) (gd .int σ 1).toNat n)))],inv:=fun n=>n<=(gd .int σ 1).toNat/\(1<=n\/(gd .int σ 1).toNat=0),mu:=fun n=>(gd .int σ 1).toNat-n}
 |_=>none
abbrev jel (d:List Int×Int×Unit):=(d.1.length:Int)
abbrev jfz (d:List Int×Int×Unit):=(List.replicate ((jel d)*d.2.1).toNat (0:Int))
abbrev jfA (d:List Int×Int×Unit)(x:Nat):=(gu (nth d.1 0) d.2.1.toNat x)
abbrev je1 (d:List Int×Int×Unit)(x:Nat):=(↑(jfA d x).length:Int)
abbrev jgC (x:Nat)(d:List Int×Int×Unit):=(List.take ((x:Int).toNat-Int.toNat 0) (List.drop (Int.toNat 0) (jfA d x)))
abbrev jf6 (d:List Int×Int×Unit)(x:Nat):=((je1 d x).toNat-(x:Int).toNat)
abbrev jhb (d:List Int×Int×Unit):=(decide ((0:Int)<0)||decide (9223372036854775807<(jel d)*d.2.1))
def xo:Prop:=∀(d:List Int×Int×Unit),d.1.length=1->0<=d.2.1->d.2.1<=1000->(decide (d.2.1<0)=true->False)/\(decide (d.2.1<0)=false->d.1.length<4611686018427387904->0<=(jel d)/\(jel d)<=18446744073709551615/\0<=d.2.1/\d.2.1<=18446744073709551615/\0<=(jel d)/\(jel d)<=1000/\0<=d.2.1/\d.2.1<=1000/\((jhb d)=true->False)/\((jhb d)=false->kM ((jel d)*d.2.1)/\0<=(jel d)*d.2.1/\(jel d)*d.2.1=(jel d)*d.2.1/\((jel d)*d.2.1).toNat*8<=140737488355328/\0+(jfz d).length<=(jfz d).length/\(∃(x:Nat),(((↑(List.take (jfz d).length d.1).length:Int)=(x:Int)/\True)/\R5 (jfz d) 0 (jfz d).length d.1=gu (nth d.1 0) d.2.1.toNat x/\True)/\x<=d.2.1.toNat/\(1<=x\/d.2.1.toNat=0))/\∀(x:Nat),x<=d.2.1.toNat/\(1<=x\/d.2.1.toNat=0)->(jfA d x).length<4611686018427387904->(decide ((x:Int)<(je1 d x))=true->0<=(x:Int)/\(x:Int)<=(je1 d x)/\(je1 d x)<=(je1 d x)/\(0:Int)<=0/\0<=(x:Int)/\(x:Int)<=(je1 d x)/\(x:Int).toNat+(jf6 d x)<=(jfA d x).length/\kM ((x:Int)+(List.take (jf6 d x) (jgC x d)).length)/\∃(a:Nat),(((x:Int)+(List.take (jf6 d x) (jgC x d)).length=(a:Int)/\True)/\R5 (jfA d x) (x:Int).toNat (jf6 d x) (jgC x d)=gu (nth d.1 0) d.2.1.toNat a/\True)/\(a<=d.2.1.toNat/\(1<=a\/d.2.1.toNat=0))/\d.2.1.toNat-a<d.2.1.toNat-x)/\(decide ((x:Int)<(je1 d x))=false->(gu (nth d.1 0) d.2.1.toNat x,())=(List.replicate d.2.1.toNat (nth d.1 0),())/\()=())))
def yp:we:=⟨[.val (.ptr tTk),.val (.uint .u64)],[.slice .int],false,fun d=>[d.1.isSome=true,bM (U.tk d.1)],fun d=>(fW (U.tk d.1) d.2.1,())⟩
def G6:Ann:=fun r=>match r with
 |4=>some fun σ=>{X:=Nat×List Int,sl:=fun x=>[(6,.osl 6 .int x.2.length (wu (U.tk (gd (.ptr tTk) σ 0)) (gd (.uint .u64) σ 1) x.1).2.length)],ob:=fun x=>[(5,some (.row 3 .int false .no (wu (U.tk (gd (.ptr tTk) σ 0)) (gd (.uint .u64) σ 1) x.1).1)),(6,some (.row 3 .int false .no (x.2++(wu (U.tk (gd (.ptr tTk) σ 0)) (gd (.uint .u64) σ 1) x.1).2)))],inv:=fun x=>x.2.length<=x.1/\x.1<=(U.la (U.tc (U.tk (gd (.ptr tTk) σ 0)))).toNat,mu:=fun x=>(U.la (U.tc (U.tk (gd (.ptr tTk) σ 0)))).toNat+1-x.1}
 |7=>some fun σ=>{X:=Nat×List Int,sl:=fun x=>[(28,.any),(35,.dat .int (x.1:Int)),(6,.osl 6 .int x.2.length (yD (U.tk (gd (.ptr tTk) σ 0)) (gd (.uint .u64) σ 1) (gr .int σ 5,(gr .int σ 6).drop (glo σ 6)) x.1).2.length)],ob:=fun x=>[(5,some (.row 3 .int false .no (yD (U.tk (gd (.ptr tTk) σ 0)) (gd (.uint .u64) σ 1) (gr .int σ 5,(gr .int σ 6).drop (glo σ 6)) x.1).1)),(6,some (.row 3 .int false .no (x.2++(yD (U.tk (gd (.ptr tTk) σ 0)) (gd (.uint .u64) σ 1) (gr .int σ 5,(gr .int σ 6).drop (glo σ 6)) x.1).2)))],inv:=fun x=>x.1<=(gr .int σ 5).length/\x.2.length<=glo σ 6/\ja4 (U.tk (gd (.ptr tTk) σ 0)) (gd (.uint .u64) σ 1) (gr .int σ 5,(gr .int σ 6).drop (glo σ 6)) (glo σ 6),mu:=fun x=>(gr .int σ 5).length-x.1}
 |2000011=>some fun _=>{X:=Unit,sl:=fun _=>[],ob:=fun _=>[],inv:=fun _=>True,mu:=fun _=>0}
 |_=>none
abbrev jeD (d:Option (CrD×JbD×LwD×Unit)×Int×Unit):=(kT (((0:Int),[],[],()),((0:Int),(0:Int),(0:Int),(0:Int),(0:Int),(0:Int),()),((0:Int),(0:Int),false,()),()) d.1)
abbrev jdX (d:Option (CrD×JbD×LwD×Unit)×Int×Unit)(x:Nat×List Int):=(wu (U.tk d.1) d.2.1 x.1)
abbrev jfb (d:Option (CrD×JbD×LwD×Unit)×Int×Unit)(x:Nat×List Int):=((jdX d x).1,List.drop x.2.length (x.2++(jdX d x).2))
abbrev jdQ (d:Option (CrD×JbD×LwD×Unit)×Int×Unit)(x:Nat×List Int)(a:Nat×List Int):=(yD (U.tk d.1) d.2.1 (jfb d x) a.1)
abbrev jes (d:Option (CrD×JbD×LwD×Unit)×Int×Unit)(x:Nat×List Int)(a:Nat×List Int):=(nth (jdQ d x a).1 (a.1:Int).toNat<0)
abbrev jeL (a:Nat×List Int):=(a.2.length+Int.toNat 0)
abbrev jfc (d:Option (CrD×JbD×LwD×Unit)×Int×Unit)(x:Nat×List Int)(a:Nat×List Int):=(yD (U.tk d.1) d.2.1 (jfb d x) a.1)
def G7:Prop:=∀(d:Option (CrD×JbD×LwD×Unit)×Int×Unit),d.1.isSome=true->bM (U.tk d.1)->d.1.isSome=true/\[(-1:Int)].length=1/\(0:Int)<=(jeD d).1.1/\(jeD d).1.1<=1000/\d.1.isSome=true/\(0:Int)<=(jeD d).2.1.2.1/\(jeD d).2.1.2.1<(↑(List.replicate (jeD d).1.1.toNat (nth [(-1:Int)] 0)).length:Int)/\d.1.isSome=true/\(∃(x:Nat×List Int),(((x.2.length=0/\(jdX d x).2.length=[(jeD d).2.1.2.1].length)/\True)/\(List.replicate (jeD d).1.1.toNat (nth [(-1:Int)] 0)).set (jeD d).2.1.2.1.toNat 0=(jdX d x).1/\[(jeD d).2.1.2.1]=x.2++(jdX d x).2/\True)/\x.2.length<=x.1/\x.1<=(U.la (U.tc (U.tk d.1))).toNat)/\∀(x:Nat×List Int),x.2.length<=x.1/\x.1<=(U.la (U.tc (U.tk d.1))).toNat->(jdX d x).2.length<4611686018427387904->(decide ((0:Int)<(jdX d x).2.length)=true->(jdX d x).1.length<4611686018427387904->(∃(a:Nat×List Int),((0=(a.1:Int)/\(x.2.length=a.2.length/\(jdX d x).2.length=(jdQ d x a).2.length)/\True)/\(jdX d x).1=(jdQ d x a).1/\x.2++(jdX d x).2=a.2++(jdQ d x a).2/\True)/\a.1<=(jdX d x).1.length/\a.2.length<=x.2.length/\ja4 (U.tk d.1) d.2.1 (jfb d x) x.2.length)/\∀(a:Nat×List Int),a.1<=(jdX d x).1.length/\a.2.length<=x.2.length/\ja4 (U.tk d.1) d.2.1 (jfb d x) x.2.length->(decide ((a.1:Int)<(jdX d x).1.length)=true->0<=(a.1:Int)/\(a.1:Int)<(jdQ d x a).1.length/\(decide (jes d x a)=true->(0:Int)<=0)/\(decide (jes d x a)=true->(0:Int)<(jdQ d x a).2.length)/\(decide (jes d x a)=true->d.1.isSome=true)/\(decide (jes d x a)=true->bM (U.tk d.1))/\(decide (jes d x a)=true->0<=nth (a.2++(jdQ d x a).2) (jeL a))/\(decide (jes d x a)=true->nth (a.2++(jdQ d x a).2) (jeL a)<U.la (U.tc (U.tk d.1)))/\(decide (jes d x a)=true->0<=(a.1:Int))/\(decide (jes d x a)=true->(a.1:Int)<U.la (U.tc (U.tk d.1)))/\((decide (jes d x a)&&l6 (U.tk d.1) d.2.1 (nth (a.2++(jdQ d x a).2) (jeL a)) (a.1:Int))=true->(0:Int)<=0/\(0:Int)<(jdQ d x a).2.length/\0<=nth (a.2++(jdQ d x a).2) (jeL a)/\nth (a.2++(jdQ d x a).2) (jeL a)<(↑(jdQ d x a).1.length:Int)/\kM (nth (jdQ d x a).1 (nth (a.2++(jdQ d x a).2) (jeL a)).toNat+1)/\0<=(a.1:Int)/\(a.1:Int)<(jdQ d x a).1.length/\a.2.length+(jdQ d x a).2.length=(a.2++(jdQ d x a).2).length/\0<(jdQ d x a).2.length/\a.2.length+(jdQ d x a).2.length+[(a.1:Int)].length<4611686018427387904/\((jdQ d x a).2.length+[(a.1:Int)].length)*8<=140737488355328/\∀(pre:List Int),pre.length<=a.2.length->kM ((a.1:Int)+1)/\∃(b:Nat×List Int),(((a.1:Int)+1=(b.1:Int)/\(pre.length=b.2.length/\(jdQ d x a).2.length+[(a.1:Int)].length=(jfc d x b).2.length)/\True)/\pre++List.drop a.2.length (a.2++(jdQ d x a).2)++[(a.1:Int)]=b.2++(jfc d x b).2/\(jdQ d x a).1.set (a.1:Int).toNat (nth (jdQ d x a).1 (nth (a.2++(jdQ d x a).2) (jeL a)).toNat+1)=(jfc d x b).1/\True)/\(b.1<=(jdX d x).1.length/\b.2.length<=x.2.length/\ja4 (U.tk d.1) d.2.1 (jfb d x) x.2.length)/\(jdX d x).1.length-b.1<(jdX d x).1.length-a.1)/\((decide (jes d x a)&&l6 (U.tk d.1) d.2.1 (nth (a.2++(jdQ d x a).2) (jeL a)) (a.1:Int))=false->kM ((a.1:Int)+1)/\∃(b:Nat×List Int),(((a.2.length=b.2.length/\(jdQ d x a).2.length=(jfc d x b).2.length)/\(a.1:Int)+1=(b.1:Int)/\True)/\a.2++(jdQ d x a).2=b.2++(jfc d x b).2/\(jdQ d x a).1=(jfc d x b).1/\True)/\(b.1<=(jdX d x).1.length/\b.2.length<=x.2.length/\ja4 (U.tk d.1) d.2.1 (jfb d x) x.2.length)/\(jdX d x).1.length-b.1<(jdX d x).1.length-a.1))/\(decide ((a.1:Int)<(jdX d x).1.length)=false->(0:Int)<=1/\(1:Int)<=(jdQ d x a).2.length/\(↑(jdQ d x a).2.length:Int)<=(jdQ d x a).2.length/\∃(b:Nat×List Int),(((a.2.length+Int.toNat 1=b.2.length/\(↑(jdQ d x a).2.length:Int).toNat-Int.toNat 1=(wu (U.tk d.1) d.2.1 b.1).2.length)/\True)/\(jdQ d x a).1=(wu (U.tk d.1) d.2.1 b.1).1/\a.2++(jdQ d x a).2=b.2++(wu (U.tk d.1) d.2.1 b.1).2/\True)/\(b.2.length<=b.1/\b.1<=(U.la (U.tc (U.tk d.1))).toNat)/\(U.la (U.tc (U.tk d.1))).toNat+1-b.1<(U.la (U.tc (U.tk d.1))).toNat+1-x.1))/\(decide ((0:Int)<(jdX d x).2.length)=false->((jdX d x).1,())=(fW (U.tk d.1) d.2.1,()))
theorem G8 {x:Int} (a:0<=x) (b:x<=4294967295):yr x 4294967295=x:=by
 obtain⟨n,rfl⟩:∃n:Nat,x=(n:Int):=⟨x.toNat,by omega⟩;rw[show(4294967295:Int)=((4294967295:Nat):Int) from rfl,BT.uand_nat (by omega) (by omega),show(4294967295:Nat)=2^32-1 from rfl,Nat.and_two_pow_sub_one_eq_mod,Nat.mod_eq_of_lt (by omega)]
theorem JE:G5:=by
 unfold G5 jgB jeg jeK;rintro⟨x,y,⟨⟩⟩ b c a d;simp only at b c a d;have f:=G8 b (by omega);have g:=G8 a (by omega);have e:=G8 (x:=0) (by omega) (by omega);have h:x/2^Int.toNat 32=0:=Int.ediv_eq_zero_of_lt b (by show x<2^32;omega);have i:y/2^Int.toNat 32=0:=Int.ediv_eq_zero_of_lt a (by show y<2^32;omega);have k:0<=x*y:=Int.mul_nonneg b a;have l:x*y<=1000*1000:=Int.mul_le_mul c d a (by omega);have c1:x*y/2^Int.toNat 32=0:=Int.ediv_eq_zero_of_lt k (by show x*y<2^32;omega);have j:(0:Int)/2^Int.toNat 32=0:=Int.zero_ediv _;simp only[f,g,h,i,Int.zero_mul,Int.mul_zero,Int.add_zero,c1,e,j]
 and_intros<;>first|omega|rfl|trivial
theorem G9:wo PR 237 G4:=wb JE Tryz.func237 kcN koN
theorem Qu:MH:=by
 rintro⟨x,y,⟨⟩⟩ a b c d;exact⟨fun h=>(by cases h),fun _=>⟨a,b,c,d,rfl⟩⟩
theorem MI:wo PR 229 MG:=wb Qu Tryz.func229 (kcC G9 kcN) koN
theorem Ha {x:Int} {N n:Nat} (h:n<=N):(gu x N n).length=N:=by
 unfold gu;simp;omega
theorem JF {x:Int} {N n:Nat} (_:n<=N):(gu x N n).take n=List.replicate n x:=by
 unfold gu;rw[List.take_append_of_le_length (by simp),zA (by simp)]
theorem TU {x:Int} {N n:Nat} (h:n<=N):R5 (gu x N n) n (N-n) (List.replicate n x)=gu x N (n+min (N-n) n):=by
 unfold R5;rw[JF h,List.take_replicate,j7];unfold gu;rw[List.drop_append,j7,List.drop_of_length_le (by simp),jY,List.drop_replicate,<-List.replicate_append_replicate];congr 2;omega
theorem Cr:xo:=by
 unfold xo jhb jf6 jgC je1 jfA jfz jel;rintro⟨l,n,⟨⟩⟩ b g e;simp only at b g e;obtain⟨N,rfl⟩:∃N:Nat,n=(N:Int):=⟨n.toNat,by omega⟩;obtain⟨y,rfl⟩:∃y,l=[y]:=by
  cases l with
  |nil=>simp at b
  |cons y r=>cases r with
   |nil=>exact⟨y,rfl⟩
   |cons z r=>simp at b
 have c:(([y].length:Nat):Int)*(N:Int)=(N:Int):=(by simp);have f:nth [y] 0=y:=rfl
 dsimp only
 refine⟨fun h=> ?_,fun _ _=>⟨by simp,by simp,by omega,by omega,by simp,by simp,by omega,e,fun h=> ?_,fun _=> ?_⟩⟩;have:=ja h;omega;rw[c] at h;have h:(9223372036854775807:Int)<(N:Int):=(by simpa using h);omega;rw[c,f];simp only[ju,j7];refine⟨iZ6,by omega,tZ,by omega,by omega,⟨min 1 N,⟨⟨?_,tZ⟩,?_,tZ⟩,by omega,by omega⟩,fun x a i=>⟨fun h=> ?_,fun h=> ?_⟩⟩;rw[jX];simp only[jZ,zp];omega;rcases zO N with d|d;subst d;rfl;obtain⟨M,rfl⟩:∃M,N=M+1:=⟨N-1,by omega⟩;have:min 1 (M+1)=1:=(by omega);rw[this];simp[R5,gu,List.replicate_succ];have h:=ja h;rw[Ha a.1] at h;simp only[Ha a.1,Int.toNat_zero,List.drop_zero,Nat.sub_zero,JF a.1,List.take_replicate,j7];refine⟨by omega,by omega,by omega,by omega,by omega,by omega,by omega,iZ6,x+min (N-x) x,⟨⟨by omega,tZ⟩,TU a.1,tZ⟩,⟨by omega,by omega⟩,by omega⟩;have h:=jd h;rw[Ha a.1] at h;have h:x=N:=(by have:=a.1;omega);subst h;refine⟨?_,tZ⟩;unfold gu;rw[Nat.sub_self];simp
theorem xp:yS PR 209 xm:=uO xn Cr Tryz.func209 (kcC MI kcN) koN
theorem Z0 {a b:List Int}:nth (a++b) (a.length+Int.toNat 0)=nth b 0:=by
 unfold nth;simp only[za,Int.toNat_zero,zI];rw[jx (jj _),Nat.sub_self]
theorem JG {t:TkD} {s:Int} (a:bM t):2<=U.la (U.tc t)/\U.la (U.tc t)<=5/\0<=Ls (U.tj t)/\Ls (U.tj t)<U.la (U.tc t):=by
 obtain⟨c1,c2,_⟩:=a;obtain⟨b,c,_⟩:=w7 c1;obtain⟨_,⟨d,e⟩,_⟩:=lE c2;exact⟨b,c,d,e⟩
theorem JH:G7:=by
 unfold G7 jfc jeL jes jdQ jfb jdX jeD;rintro⟨(_|t),s,⟨⟩⟩ h0 m;cases h0;have m:bM t:=m;obtain⟨l1,l2,j1,j2⟩:=JG (s:=s) m;have w:U.tk (some t)=t:=rfl;obtain⟨n,A⟩:∃n,n=(U.la (U.tc t)).toNat:=⟨_,rfl⟩;obtain⟨v,hv⟩:∃v,v=(Ls (U.tj t)).toNat:=⟨_,rfl⟩;have Z:v<n:=(by omega);have X:∀k,jaZ (Lt t s) n v (wu t s k)/\((wu t s k).2=[]\/Ji (wu t s k).1+(wu t s k).2.length+k=n):=by
  intro k;rw[A,hv] at*;exact Cf Z k
 refine⟨rfl,rfl,(by omega:0<=U.la (U.tc t)),(by omega:U.la (U.tc t)<=1000),rfl,j1,?_,rfl,⟨(0,[]),⟨⟨⟨rfl,rfl⟩,tZ⟩,rfl,?_,tZ⟩,jj _,jv _⟩,fun x hx S=>⟨fun j T=> ?_,fun h=> ?_⟩⟩;show Ls (U.tj t)<(((List.replicate (U.la (U.tc t)).toNat (nth [(-1:Int)] 0)).length:Nat):Int);rw[j7];omega;show[Ls (U.tj t)]=[]++[(((Ls (U.tj t)).toNat:Nat):Int)];rw[jY,Int.toNat_of_nonneg j1];obtain⟨k,pre⟩:=x;obtain⟨W,H⟩:=hx;simp only[w,List.drop_left] at W H j T S⊢;rw[<-A] at H⊢;obtain⟨B,o⟩:=X k;have j:0<(wu t s k).2.length:=(by have:=ja j;omega);have d:(wu t s k).2≠[]:=fun e=>by rw[e] at j;simp at j
 have F:=B.i.len;rcases o with o|o;exact absurd o d;have p:wu t s (k+1)=ga (Lt t s) n (wu t s k):=(by rw[A];rfl);generalize V:wu t s k=x0 at*;obtain⟨g,r0,a⟩:∃q r,x0.2=q::r:=by
  cases I:x0.2 with
  |nil=>exact absurd I d
  |cons q r=>exact⟨q,r,rfl⟩
 obtain⟨L,g2,g3⟩:=B.i.que g (by rw[a];simp);have y:nth x0.2 0=g:=(by rw[a];rfl);have hla:((n:Nat):Int)=U.la (U.tc t):=(by omega);have f:ja4 t s (x0.1,x0.2) pre.length:=by
  unfold ja4;rw[<-A,<-hv];exact⟨B,d,by simp only;omega,by omega⟩
 refine⟨⟨(0,pre),⟨⟨rfl,⟨rfl,rfl⟩,tZ⟩,rfl,rfl,tZ⟩,jv _,jj _,f⟩,?_⟩;rintro⟨i,p5⟩ ⟨hi,Q,_⟩;simp only at hi Q;have C:InI (Lt t s) n v g.toNat i x0 (yD t s (x0.1,x0.2) i):=by
  have:=TM (J:=Lt t s) Z (q:=g.toNat) (by omega) g3 B.i B.le i (by omega);unfold yD;simp only[y];exact this
 have c:yD t s (x0.1,x0.2) (i+1)=sH (Lt t s) g.toNat (yD t s (x0.1,x0.2) i) i:=by
  unfold yD;simp only[y];exact FA _ _ _ _
 have D:i=n->wu t s (k+1)=((yD t s (x0.1,x0.2) i).1,(yD t s (x0.1,x0.2) i).2.drop 1):=by
  intro e;subst e;rw[p];have:ga (Lt t s) i x0=((sI (Lt t s) g.toNat x0 i).1,(sI (Lt t s) g.toNat x0 i).2.drop 1):=by
   clear p c C f F d B X V;obtain⟨st,qu⟩:=x0;simp only at a;subst a;rfl
  rw[this];unfold yD;simp only[y]
 generalize hFI:yD t s (x0.1,x0.2) i=u at*;obtain⟨l,P⟩:=C.pre;have hQ:nth u.2 0=g:=(by rw[P,a];rfl);have G:0<u.2.length:=(by rw[P,a];simp);have hmu:=C.mu;have hFl:=C.i.len;have E:∀i:Nat,Lt t s g.toNat i=l6 t s g (i:Int):=by
  intro i;unfold Lt;rw[Int.toNat_of_nonneg L]
 simp only[Z0,hQ];simp only[ju];refine⟨fun h=> ?_,fun h=> ?_⟩;have h:i<n:=(by have:=ja h;omega);refine⟨by omega,by omega,fun _=>by omega,fun _=>by omega,fun _=>rfl,fun _=>m,fun _=>L,fun _=>by omega,fun _=>by omega,fun _=>by omega,fun z=> ?_,fun z=> ?_⟩;rw[ji] at z;have h3:=ja z.1;have Y:=C.i.low g.toNat (by omega);have b:yD t s (x0.1,x0.2) (i+1)=(u.1.set i (nth u.1 g.toNat+1),u.2++[(i:Int)]):=by
  rw[c];unfold sH;rw[je ⟨h3,by rw[E];exact z.2⟩]
 refine⟨by omega,by omega,L,by omega,iZ6,by omega,by omega,by simp,G,by simp only[jZ,zp];omega,by simp only[jZ,zp];omega,fun K R=>⟨iZ6,(i+1,K),⟨⟨by simp,⟨rfl,?_⟩,tZ⟩,?_,?_,tZ⟩,⟨by simp only;omega,by simp only;omega,f⟩,by simp only;omega⟩⟩;rw[b];simp;rw[b,jK];rw[b];have b:yD t s (x0.1,x0.2) (i+1)=u:=by
  rw[c];unfold sH;rw[jc (fun N=>by
   rw[E] at N;rw[N.2,jJ N.1] at z;cases z)]
 refine⟨iZ6,(i+1,p5),⟨⟨⟨rfl,?_⟩,by simp,tZ⟩,?_,?_,tZ⟩,⟨by simp only;omega,by simp only;omega,f⟩,by simp only;omega⟩;rw[b];rw[b];rw[b];have h:i=n:=(by have:=jd h;omega);have O:=D h;have M:u.2=g::(r0++l):=(by rw[P,a];rfl);refine⟨by omega,by omega,by omega,(k+1,p5++[g]),⟨⟨⟨?_,?_⟩,tZ⟩,?_,?_,tZ⟩,⟨by simp only[jI,jZ,zp];omega,by simp only;omega⟩,by simp only;omega⟩;simp only[jI,jZ,zp];rfl;rw[O];simp only[z6];rfl;rw[O];rw[O,M];simp;simp only[w] at h⊢;have h:(wu t s x.1).2=[]:=by
  have:=jd h;exact zj (by omega)
 have hk:x.1<=n:=(by have:=hx.2;rw[w,<-A] at this;exact this);have h1:gy (Lt t s) (U.la (U.tc t)).toNat (Ls (U.tj t)).toNat ((U.la (U.tc t)).toNat+1)=wu t s x.1:=WQ (k:=x.1) h _ (by rw[<-A];omega);show((wu t s x.1).1,())=((gy (Lt t s) (U.la (U.tc t)).toNat (Ls (U.tj t)).toNat ((U.la (U.tc t)).toNat+1)).1,());rw[h1]
theorem Hb:wo PR 161 yp:=q7 G6 JH Tryz.func161 (kcC xl kcN) (koC xp koN)
namespace U
def bY (t:TkD) (o:Int) (q:List (Int×PeD×Unit)):Int:=q.foldl (fun o x=>uor o (vd t x.2.1)) o
def d8 (q:List (Int×PeD×Unit)):Bool:=q.any (fun x=>jb9 x.2.1)
def EH (b:Bool) (o k:Int):Int:=if b=true then uor o k else o
def qI (t:TkD) (s:Int):Int:=EH (decide (nth (fW t s) (Sa (tj t)).toNat<0)) (EH (jc8 (tl t)&& !d8 (uV t s)) (EH (decide (BT.size s≠max (ja2 (tj t)) (ja1 (tl t)))) (bY t 0 (uV t s)) 8) 16) 32
def Ic (c:CrD) (n:Int):Bool:=kj n 0 (2^(kC c).length-1)
def aw (c:CrD) (j:JbD) (n:Int):Int:=if qr c j≠0 then qr c j else if Ic c n=true then 0 else 1
def ja5 (c:CrD) (j:JbD) (n:Int):Int:=if aw c j n=0 then qI (c,j,d7 c j,()) n else 0
def bN (c:CrD) (j:JbD) (n:Nat):List Int:=((List.range n).filter (fun i=>decide (vd (c,j,d7 c j,()) (nth (kC c) i)=0))).map (fun(i:Nat)=>(i:Int))
def cv (c:CrD) (j:JbD):List Int:=if qr c j=0 then bN c j (kC c).length else[]
end U
def q8:we:=⟨[.val (.ptr tTk),.val tPe],[.uint .u64],false,fun d=>[d.1.isSome=true,bM (U.tk d.1)],fun d=>(vd (U.tk d.1) d.2.1,())⟩
def TV:I8 [.int,tPe]:={ps:=[.ref (.ptr tTk),.own (.box 159 [.dat (.uint .u64)]) true,.own (.box 4 [.dat .bool]) true],slots:=[2,4,5],dst:=65,pre:=fun d=>[d.1.isSome=true,bM (U.tk d.1)],G:=fun d q=>((bY (U.tk d.1) d.2.1.1 q,()),(d.2.2.1.1||d8 q,()),()),seq:=Pa}
def Cs:Nat->Option ((ts:List Ty)×I8 ts):=fun r=>match r with
 |4=>some ⟨[.int,tPe],TV⟩
 |_=>none
def ic:we:=⟨[.val (.ptr tTk),.val (.uint .u64)],[.uint .u64],false,fun d=>[d.1.isSome=true,bM (U.tk d.1),BT.qS d.2.1],fun d=>(qI (U.tk d.1) d.2.1,())⟩
abbrev jd1 (d:Option (CrD×JbD×LwD×Unit)×Int×Unit):=(kT (((0:Int),[],[],()),((0:Int),(0:Int),(0:Int),(0:Int),(0:Int),(0:Int),()),((0:Int),(0:Int),false,()),()) d.1)
abbrev jeM (d:Option (CrD×JbD×LwD×Unit)×Int×Unit):=(nth (fW (U.tk d.1) d.2.1) (jd1 d).2.1.1.toNat<0)
abbrev jeE (d:Option (CrD×JbD×LwD×Unit)×Int×Unit):=(qI (U.tk d.1) d.2.1,())
abbrev jgD:=(fun(a:List (Int×PeD×Unit))=>false)
abbrev jf7 (d:Option (CrD×JbD×LwD×Unit)×Int×Unit):=(↑(fW (U.tk d.1) d.2.1).length:Int)
def ig:Prop:=∀(d:Option (CrD×JbD×LwD×Unit)×Int×Unit),d.1.isSome=true->bM (U.tk d.1)->BT.qS d.2.1->(d.1.isSome=true/\(kC (U.tc (U.tk d.1))).length<=60)/\(d.1.isSome=true/\bM (U.tk d.1)/\True)/\(d.1,(bY (U.tk d.1) (0:Int) [],()),(false||d8 [],()),())=(d.1,((0:Int),()),(false,()),())/\(∀(q:List (Int×PeD×Unit)) (x:Int×PeD×Unit) (rest:List (Int×PeD×Unit)),q++x::rest=uV (U.tk d.1) d.2.1->vM jgD q->d.1.isSome=true/\bM (U.tk d.1)/\qF/\((uor (bY (U.tk d.1) (0:Int) q) (vd (U.tk d.1) x.2.1),()),(false||d8 q||x.2.1.q4.1,()),())=((bY (U.tk d.1) (0:Int) (q++[x]),()),(false||d8 (q++[x]),()),()))/\(∀(xs:List (Int×PeD×Unit)),xs=uV (U.tk d.1) d.2.1->vM jgD xs->BT.qS d.2.1/\d.1.isSome=true/\d.1.isSome=true/\(decide (BT.size d.2.1≠max (jd1 d).2.1.q4.2.1 (jd1 d).2.2.1.2.1)=true->d.1.isSome=true/\(((jd1 d).2.2.1.2.2.1&& !(false||d8 xs))=true->d.1.isSome=true/\bM (U.tk d.1)/\d.1.isSome=true/\(0:Int)<=(jd1 d).2.1.1/\(jd1 d).2.1.1<(jf7 d)/\(decide (jeM d)=true->(uor (uor (uor (bY (U.tk d.1) (0:Int) xs) (8:Int)) (16:Int)) (32:Int),())=(jeE d))/\(decide (jeM d)=false->(uor (uor (bY (U.tk d.1) (0:Int) xs) (8:Int)) (16:Int),())=(jeE d)))/\(((jd1 d).2.2.1.2.2.1&& !(false||d8 xs))=false->d.1.isSome=true/\bM (U.tk d.1)/\d.1.isSome=true/\(0:Int)<=(jd1 d).2.1.1/\(jd1 d).2.1.1<(jf7 d)/\(decide (jeM d)=true->(uor (uor (bY (U.tk d.1) (0:Int) xs) (8:Int)) (32:Int),())=(jeE d))/\(decide (jeM d)=false->(uor (bY (U.tk d.1) (0:Int) xs) (8:Int),())=(jeE d))))/\(decide (BT.size d.2.1≠max (jd1 d).2.1.q4.2.1 (jd1 d).2.2.1.2.1)=false->d.1.isSome=true/\(((jd1 d).2.2.1.2.2.1&& !(false||d8 xs))=true->d.1.isSome=true/\bM (U.tk d.1)/\d.1.isSome=true/\(0:Int)<=(jd1 d).2.1.1/\(jd1 d).2.1.1<(jf7 d)/\(decide (jeM d)=true->(uor (uor (bY (U.tk d.1) (0:Int) xs) (16:Int)) (32:Int),())=(jeE d))/\(decide (jeM d)=false->(uor (bY (U.tk d.1) (0:Int) xs) (16:Int),())=(jeE d)))/\(((jd1 d).2.2.1.2.2.1&& !(false||d8 xs))=false->d.1.isSome=true/\bM (U.tk d.1)/\d.1.isSome=true/\(0:Int)<=(jd1 d).2.1.1/\(jd1 d).2.1.1<(jf7 d)/\(decide (jeM d)=true->(uor (bY (U.tk d.1) (0:Int) xs) (32:Int),())=(jeE d))/\(decide (jeM d)=false->(bY (U.tk d.1) (0:Int) xs,())=(jeE d)))))/\∀(q:List (Int×PeD×Unit)) (x:Int×PeD×Unit) (rest:List (Int×PeD×Unit)),q++x::rest=uV (U.tk d.1) d.2.1->vM jgD q->false=true->(bY (U.tk d.1) (0:Int) (q++[x]),())=(jeE d)
theorem oW:(O7 (Lr 64 [(106,q8),(160,yo),(161,yp)] [] [(159,wd)] []) ic (fun _ _=>none) (hkC (Lr 64 [(106,q8),(160,yo),(161,yp)] [] [(159,wd)] []) (fun _=>none) Cs [] []) Tryz.f113 (wt Tryz.f113))=ig:=by kernel_rfl
def TW:we:=⟨[.val tCr,.val tJb,.val .int],[.ptr tTk,.int],false,fun _=>[],fun d=>(F5 d.1 d.2.1,aw d.1 d.2.1 d.2.2.1,())⟩
abbrev jfe (d:CrD×JbD×Int×Unit):=(qr d.1 d.2.1=0)
abbrev jhc (d:CrD×JbD×Int×Unit):=(decide (jfe d)&& !kj d.2.2.1 (0:Int) ((1:Int)*2^(d.1.2.1.length:Int).toNat-1))
def TX:Prop:=∀(d:CrD×JbD×Int×Unit),(decide (jfe d)=true->d.1.2.1.length<4611686018427387904)->(decide (jfe d)=true->0<=(d.1.2.1.length:Int))/\(decide (jfe d)=true->(d.1.2.1.length:Int)<=64)/\(decide (jfe d)=true->kM ((1:Int)*2^(d.1.2.1.length:Int).toNat))/\(decide (jfe d)=true->kM ((1:Int)*2^(d.1.2.1.length:Int).toNat-1))/\((jhc d)=true->(F5 d.1 d.2.1,(1:Int),())=(F5 d.1 d.2.1,aw d.1 d.2.1 d.2.2.1,()))/\((jhc d)=false->(F5 d.1 d.2.1,qr d.1 d.2.1,())=(F5 d.1 d.2.1,aw d.1 d.2.1 d.2.2.1,()))
def MJ:we:=⟨[.val tCr,.val tJb,.val .int],[.int,.int],false,fun _=>[],fun d=>(ja5 d.1 d.2.1 d.2.2.1,aw d.1 d.2.1 d.2.2.1,())⟩
def MK:Prop:=∀(d:CrD×JbD×Int×Unit),(decide (aw d.1 d.2.1 d.2.2.1≠0)=true->((0:Int),aw d.1 d.2.1 d.2.2.1,())=(ja5 d.1 d.2.1 d.2.2.1,aw d.1 d.2.1 d.2.2.1,()))/\(decide (aw d.1 d.2.1 d.2.2.1≠0)=false->0<=d.2.2.1/\d.2.2.1<=18446744073709551615/\(F5 d.1 d.2.1).isSome=true/\bM (U.tk (F5 d.1 d.2.1))/\BT.qS d.2.2.1/\kM (qI (U.tk (F5 d.1 d.2.1)) d.2.2.1)/\(qI (U.tk (F5 d.1 d.2.1)) d.2.2.1,(0:Int),())=(ja5 d.1 d.2.1 d.2.2.1,aw d.1 d.2.1 d.2.2.1,()))
def WS:we:=⟨[.val tCr,.val tJb],[.slice .int,.int],false,fun _=>[],fun d=>(cv d.1 d.2.1,qr d.1 d.2.1,())⟩
def WT:Ann:=fun r=>match r with
 |6=>some fun σ=>{X:=Nat,sl:=fun i=>[(23,.dat .int (i:Int)),(8,.own 8 .int)],ob:=fun i=>[(8,some (.row 3 .int false .yes (bN (gd tCr σ 0) (gd tJb σ 1) i)))],inv:=fun i=>i<=(kC (gd tCr σ 0)).length,mu:=fun i=>(kC (gd tCr σ 0)).length-i}
 |_=>none
def WU:Prop:=∀(d:CrD×JbD×Unit),(decide (qr d.1 d.2.1≠0)=true->([],qr d.1 d.2.1,())=(cv d.1 d.2.1,qr d.1 d.2.1,()))/\(decide (qr d.1 d.2.1≠0)=false->d.1.2.1.length<4611686018427387904->(∃(x:Nat),((0=(x:Int)/\True/\True)/\bN d.1 d.2.1 x=[]/\True)/\x<=(kC d.1).length)/\∀(x:Nat),x<=(kC d.1).length->(decide ((x:Int)<d.1.2.1.length)=true->0<=(x:Int)/\(x:Int)<d.1.2.1.length/\(F5 d.1 d.2.1).isSome=true/\bM (U.tk (F5 d.1 d.2.1))/\(decide (vd (U.tk (F5 d.1 d.2.1)) (nth d.1.2.1 (x:Int).toNat)=0)=true->((bN d.1 d.2.1 x).length+[(x:Int)].length)*8<=140737488355328/\kM ((x:Int)+1)/\∃(a:Nat),(((x:Int)+1=(a:Int)/\True/\True)/\bN d.1 d.2.1 x++[(x:Int)]=bN d.1 d.2.1 a/\True)/\a<=(kC d.1).length/\(kC d.1).length-a<(kC d.1).length-x)/\(decide (vd (U.tk (F5 d.1 d.2.1)) (nth d.1.2.1 (x:Int).toNat)=0)=false->kM ((x:Int)+1)/\∃(a:Nat),((True/\(x:Int)+1=(a:Int)/\True)/\bN d.1 d.2.1 x=bN d.1 d.2.1 a/\True)/\a<=(kC d.1).length/\(kC d.1).length-a<(kC d.1).length-x))/\(decide ((x:Int)<d.1.2.1.length)=false->(bN d.1 d.2.1 x,(0:Int),())=(cv d.1 d.2.1,qr d.1 d.2.1,())))
theorem TY (a b c:Bool):0<=RX a b c/\RX a b c<=7:=by
 unfold RX ja3;cases a<;>cases b<;>cases c<;>simp
theorem Ct (t:TkD) (p:PeD):0<=vd t p/\vd t p<=7:=TY _ _ _
theorem JI {s:Int} (h:0<=s/\s<=1000):BT.qS s:=by unfold BT.qS;omega
theorem TZ {a b:Int} (c:0<=a/\a<64) (d:0<=b/\b<64):0<=uor a b/\uor a b<64:=by
 obtain⟨n,rfl⟩:∃n:Nat,a=(n:Int):=⟨a.toNat,by omega⟩;obtain⟨m,rfl⟩:∃m:Nat,b=(m:Int):=⟨b.toNat,by omega⟩;rw[BT.uor_nat (by omega) (by omega)];have:n|||m<2^6:=Nat.or_lt_two_pow (by omega) (by omega);omega
theorem ML (t:TkD):∀(q:List (Int×PeD×Unit)) (o:Int),(0<=o/\o<64)->0<=bY t o q/\bY t o q<64
 |[],o,h=>h
 |x::q,o,h=>by
  have:=Ct t x.2.1
  exact ML t q _ (TZ h ⟨by omega,by omega⟩)
theorem Cu {b:Bool} {o k:Int} (h:0<=o/\o<64) (hk:0<=k/\k<64):0<=EH b o k/\EH b o k<64:=by
 unfold EH
 split
 exact TZ h hk;exact h
theorem Qv (t:TkD) (s:Int):0<=qI t s/\qI t s<64:=by
 unfold qI;exact Cu (Cu (Cu (ML t _ _ (by omega)) (by omega)) (by omega)) (by omega)
theorem T3 (t:TkD) (o:Int) (q:List (Int×PeD×Unit)) (x:Int×PeD×Unit):bY t o (q++[x])=uor (bY t o q) (vd t x.2.1):=by
 unfold bY;rw[jT];rfl
theorem WV {t:TkD} {s:Int} (a:bM t):((fW t s).length:Int)=U.la (U.tc t):=by
 obtain⟨f,g,c,d⟩:=JG (s:=s) a;have b:(Ls (U.tj t)).toNat<(U.la (U.tc t)).toNat:=(by omega);have:=(Cf (J:=Lt t s) b ((U.la (U.tc t)).toNat+1)).1.i.len;have e:(fW t s).length=(U.la (U.tc t)).toNat:=this;omega
theorem Cv:ig:=by
 unfold ig jf7 jgD jeE jeM jd1 Prod.q4;rintro⟨(_|t),s,⟨⟩⟩ n a c;cases n;have a:bM t:=a;have c:BT.qS s:=c;obtain⟨c1,c2,_⟩:=id a;obtain⟨_,_,p,_⟩:=w7 c1;obtain⟨⟨m,r⟩,_⟩:=lE c2;have o:=WV (s:=s) a;have f:U.tk (some t)=t:=rfl;have b:0<=Sa (U.tj t)/\Sa (U.tj t)<(((fW t s).length:Nat):Int):=⟨m,by omega⟩;refine⟨⟨rfl,(by omega:(kC (U.tc t)).length<=60)⟩,⟨rfl,a,tZ⟩,rfl,fun q x rest u _=>⟨rfl,a,rfl,?_⟩,fun xs g _=>⟨c,rfl,rfl,?_⟩,fun q x rest _ _ h=>by cases h⟩;simp only[f,T3];unfold d8;simp only[List.any_append,List.any_cons,List.any_nil,Bool.or_false,Bool.false_or];rfl;simp only[f] at g⊢;subst g;have key:∀(j k l:Bool),decide (BT.size s≠max (ja2 (U.tj t)) (ja1 (U.tl t)))=j->(jc8 (U.tl t)&& !d8 (uV t s))=k->decide (nth (fW t s) (Sa (U.tj t)).toNat<0)=l->
  EH l (EH k (EH j (bY t 0 (uV t s)) 8) 16) 32=qI t s:=by
  intro j k l i e d;unfold qI;rw[i,e,d]
 refine⟨fun i=>⟨rfl,fun e=>⟨rfl,a,rfl,b.1,b.2,fun d=> ?_,fun d=> ?_⟩,fun e=>⟨rfl,a,rfl,b.1,b.2,fun d=> ?_,fun d=> ?_⟩⟩,fun i=>⟨rfl,fun e=>⟨rfl,a,rfl,b.1,b.2,fun d=> ?_,fun d=> ?_⟩,fun e=>⟨rfl,a,rfl,b.1,b.2,fun d=> ?_,fun d=> ?_⟩⟩⟩<;>
  (rw[Bool.false_or] at e;have:=key _ _ _ i e d;rw[<-this];rfl)
theorem Hc {c:CrD} (h:kU c=true):(0:Int)<2^(kC c).length/\(2:Int)^(kC c).length<=256:=by
 obtain⟨_,_,a,_⟩:=w7 h;rw[BT.two_nat];have b:2^(kC c).length<=2^8:=Nat.pow_le_pow_right (by decide) a;have d:0<2^(kC c).length:=Nat.pow_pos (by decide);omega
theorem WW:TX:=by
 unfold TX jhc jfe;rintro⟨c,j,n,⟨⟩⟩ _;have e:∀l:Nat,(1:Int)*2^((l:Int)).toNat=2^l:=fun l=>by rw[Int.one_mul,ju]
 simp only[e];refine⟨fun _=>by omega,fun h=> ?_,fun h=> ?_,fun h=> ?_,fun h=> ?_,fun h=> ?_⟩;have:=(w7 (oV (ja h)).1).2.2.1;have this:c.2.1.length<=8:=this;omega;have:=Hc (oV (ja h)).1;have this:(0:Int)<2^c.2.1.length/\(2:Int)^c.2.1.length<=256:=this;exact iZ6;have:=Hc (oV (ja h)).1;have this:(0:Int)<2^c.2.1.length/\(2:Int)^c.2.1.length<=256:=this;exact iZ6;rw[ji] at h;have a:=ja h.1;have b:Ic c n=false:=by
  have d:kj n 0 (2^c.2.1.length-1)=false:=(by simpa using h.2);exact d
 unfold aw;rw[jc (by omega),jc (by rw[b];simp)];unfold aw;by_cases a:qr c j=0;rw[jJ a,Bool.true_and] at h;have b:Ic c n=true:=by
  have d:kj n 0 (2^c.2.1.length-1)=true:=(by simpa using h);exact d
 rw[jc (by omega),je b,a];rw[je a]
theorem T4:wo PR 112 TW:=wb WW Tryz.func112 (kcC JB (kcC yH kcN)) koN
theorem Qw {c:CrD} {j:JbD} {n:Int} (h:aw c j n=0):qr c j=0/\0<=n/\n<2^(kC c).length:=by
 unfold aw at h
 split at h
 rename_i b;omega;rename_i b
 split at h
 rename_i a;unfold Ic kj at a;simp only[ji,jr] at a;exact⟨by omega,a.1,by omega⟩;omega
theorem Qx:MK:=by
 rintro⟨c,j,n,⟨⟩⟩;refine⟨fun h=> ?_,fun h=> ?_⟩;have h:aw c j n≠0:=ja h;simp only;unfold ja5;rw[jc h];have h:aw c j n=0:=(by simpa using h);obtain⟨d,e,f⟩:=Qw h;obtain⟨b,e2⟩:=TS d;have i:=Hc (oV d).1;have a:U.tk (F5 c j)=(c,j,d7 c j,()):=(by rw[b];rfl);have g:=Qv (c,j,d7 c j,()) n;simp only[a];refine⟨e,by omega,by rw[b];rfl,e2,JI ⟨e,by omega⟩,iZ6,?_⟩;unfold ja5;rw[je h,h]
theorem FD (c:CrD) (j:JbD) (n:Nat):bN c j (n+1)=bN c j n++(if vd (c,j,d7 c j,()) (nth (kC c) n)=0 then[(n:Int)] else[]):=by
 unfold bN;rw[L.cA,zv];by_cases h:vd (c,j,d7 c j,()) (nth (kC c) n)=0;rw[je (jJ h),je h];rfl;rw[jc (by simpa using h),jc h];rfl
theorem T6 (c:CrD) (j:JbD) (n:Nat):(bN c j n).length<=n:=by
 unfold bN;rw[zr];exact jE (z8 _ _) (by simp)
theorem Z1:WU:=by
 rintro⟨c,j,⟨⟩⟩;refine⟨fun h=> ?_,fun h _=>⟨⟨0,⟨⟨rfl,tZ,tZ⟩,rfl,tZ⟩,jv _⟩,fun x f=>⟨fun a=> ?_,fun a=> ?_⟩⟩⟩;have h:qr c j≠0:=ja h;simp only;unfold cv;rw[jc h];have h:qr c j=0:=(by simpa using h);obtain⟨e,e2⟩:=TS h;have d:U.tk (F5 c j)=(c,j,d7 c j,()):=(by rw[e];rfl);have a:x<(kC c).length:=by
  have a:=ja a;have a:(x:Int)<(kC c).length:=a;omega
 have g:(x:Int)<(kC c).length:=(by omega);have i:=(w7 (oV h).1).2.2.1;have k:=T6 c j x;simp only[d,ju];refine⟨by omega,g,by rw[e];rfl,e2,fun b=>⟨by simp only[jZ,zp];omega,iZ6,x+1,⟨⟨by simp,tZ,tZ⟩,?_,tZ⟩,a,by omega⟩,fun b=>⟨iZ6,x+1,⟨⟨tZ,by simp,tZ⟩,?_,tZ⟩,a,by omega⟩⟩;have b:vd (c,j,d7 c j,()) (nth (kC c) x)=0:=ja b;rw[FD,je b];have b:¬vd (c,j,d7 c j,()) (nth (kC c) x)=0:=jd b;rw[FD,jc b,j9];have h:qr c j=0:=(by simpa using h);have a:(kC c).length<=x:=by
  have a:=jd a;have a:¬(x:Int)<(kC c).length:=a;omega
 have f:x<=(kC c).length:=f;simp only;unfold cv;rw[je h,h,show x=(kC c).length by omega]
def Cw:Ann:=fun r=>match r with
 |2=>some fun σ=>{X:=List (Int×Int)×Int,sl:=fun x=>[(4,.dat (.uint .u64) x.2)],ob:=fun x=>[(37,some (.iter .int .int x.1 none))],inv:=fun x=>av (sK (U.tk (gd (.ptr tTk) σ 0)) (gd tPe σ 1)) x.1 x.2,mu:=fun x=>x.1.length}
 |_=>none
abbrev je2 (d:Option (CrD×JbD×LwD×Unit)×PeD×Unit):=(kT (((0:Int),[],[],()),((0:Int),(0:Int),(0:Int),(0:Int),(0:Int),(0:Int),()),((0:Int),(0:Int),false,()),()) d.1)
def Cx:Prop:=∀(d:Option (CrD×JbD×LwD×Unit)×PeD×Unit),d.1.isSome=true->bM (U.tk d.1)->d.1.isSome=true/\d.1.isSome=true/\(0:Int)<=(je2 d).2.1.2.2.2.1/\(je2 d).2.1.2.2.2.1<=64/\d.1.isSome=true/\(0:Int)<=(je2 d).2.1.q4.1/\(je2 d).2.1.q4.1<=64/\[(0:Int),(1:Int),(2:Int)].Nodup/\∀(l:List (Int×Int)),l.Perm [((0:Int),ja3 !d.2.1.2.2.2.1.any fun(e:Int)=>decide (e=(je2 d).2.1.2.2.1)),((1:Int),nY (d.2.1.2.1/(2:Int)^(je2 d).2.1.2.2.2.1.toNat) (1:Int)),((2:Int),nY (d.2.1.2.2.1/(2:Int)^(je2 d).2.1.q4.1.toNat) (1:Int))]->(((∃(x:List (Int×Int)×Int),((0=x.2/\True)/\l=x.1/\True)/\av (sK (U.tk d.1) d.2.1) x.1 x.2)/\∀(x:List (Int×Int)×Int),av (sK (U.tk d.1) d.2.1) x.1 x.2->(x.1=[]->(false=true->False)/\(qF->(x.2,())=(vd (U.tk d.1) d.2.1,())))/\∀(pre:List (Int×Int)) (a:Int×Int) (b:List (Int×Int)),x.1=pre++a::b->(true=true->(decide (a.2=0)=true->0<=a.1/\a.1<=64/\(0:Int)<=1*2^a.1.toNat/\(1:Int)*2^a.1.toNat<=18446744073709551615/\∃(c:List (Int×Int)×Int),((uor x.2 ((1:Int)*2^a.1.toNat)=c.2/\True)/\pre++b=c.1/\True)/\av (sK (U.tk d.1) d.2.1) c.1 c.2/\c.1.length<x.1.length)/\(decide (a.2=0)=false->∃(c:List (Int×Int)×Int),((x.2=c.2/\True)/\pre++b=c.1/\True)/\av (sK (U.tk d.1) d.2.1) c.1 c.2/\c.1.length<x.1.length))/\(true=false->(x.2,())=(vd (U.tk d.1) d.2.1,())))/\True)/\True
theorem WX (z:Int):nY z 1=0\/nY z 1=1:=by
 unfold nY;rw[BitVec.toNat_and];have a:(BitVec.ofInt 64 1).toNat=1:=rfl;rw[a,Nat.and_one_is_mod];rcases Nat.mod_two_eq_zero_or_one (BitVec.ofInt 64 z).toNat with h|h;rw[h];exact .inl rfl;rw[h];exact .inr rfl
theorem Pb (s n:Int):(nY (s/2^n.toNat) 1=0)↔(!vD s n)=true:=by
 unfold vD;rcases WX (s/2^n.toNat) with h|h<;>rw[h]<;>simp
theorem WY (a b c:Bool) (p:Nat):BT.has (RX a b c) p=true↔(a=true/\p=0)\/(b=true/\p=1)\/(c=true/\p=2):=by
 match p with
 |0=>cases a<;>cases b<;>cases c<;>decide
 |1=>cases a<;>cases b<;>cases c<;>decide
 |2=>cases a<;>cases b<;>cases c<;>decide
 |p+3=>
  have h:=TY a b c;have:BT.has (RX a b c) (p+3)=false:=by
   cases d:BT.has (RX a b c) (p+3) with
   |false=>rfl
   |true=>have:=BT.has_lt (k:=3) h.1 (by omega) d;omega
  rw[this];simp
theorem WZ (t:TkD) (p:PeD) (k:Nat):(∃e∈sK t p,e.2=0/\e.1.toNat=k)↔BT.has (vd t p) k=true:=by
 unfold vd;rw[WY];have c:ja3 (!K7 p (X3 (U.tj t)))=0↔K7 p (X3 (U.tj t))=true:=by
  unfold ja3;cases K7 p (X3 (U.tj t))<;>simp
 have e2:=Pb (U.fd p) (X4 (U.tj t));have d:=Pb (U.cl p) (iT (U.tj t));unfold sK;simp only[jk,List.not_mem_nil,or_false];rw[<-c,<-e2,<-d];constructor;rintro⟨e,(rfl|rfl|rfl),a,b⟩;exact .inl ⟨a,b.symm⟩;exact .inr (.inl ⟨a,b.symm⟩);exact .inr (.inr ⟨a,b.symm⟩);rintro(⟨a,b⟩|⟨a,b⟩|⟨a,b⟩);exact⟨_,.inl rfl,a,b.symm⟩;exact⟨_,.inr (.inl rfl),a,b.symm⟩;exact⟨_,.inr (.inr rfl),a,b.symm⟩
theorem W0 {t:TkD} {p:PeD} {e:Int×Int} (h:e∈sK t p):0<=e.1/\e.1<=2:=by
 unfold sK at h;simp only[jk,List.not_mem_nil,or_false] at h;rcases h with rfl|rfl|rfl<;>simp
theorem Qy (t:TkD) (p:PeD):(sK t p).Nodup:=by
 unfold sK;simp
theorem MM {t:TkD} {p:PeD} {l:List (Int×Int)} (h:l.Perm (sK t p)):av (sK t p) l 0:=by
 refine⟨BT.DG,h.symm.nodup (Qy t p),fun e c=>h.mem_iff.1 c,fun k=> ?_⟩;rw[BT.sQ];constructor;intro h;cases h;rintro⟨e,a,b,_⟩;exact absurd (h.mem_iff.2 a) b
theorem Qz {t:TkD} {p:PeD} {s:Int} (h:av (sK t p) [] s):s=vd t p:=by
 obtain⟨a,_,_,c⟩:=h;refine BT.ext a (JI (by have:=Ct t p;omega)) (fun k=> ?_);rw[j6,c,<-WZ];constructor;rintro⟨e,a,_,b⟩;exact⟨e,a,b⟩;rintro⟨e,a,b⟩;exact⟨e,a,by simp,b⟩
theorem FF {all pre a:List (Int×Int)} {e:Int×Int} {s j:Int} (h:av all (pre++e::a) s) (p:BT.qS j) (hk:∀k,BT.has j k=true↔BT.has s k=true\/(e.2=0/\e.1.toNat=k)):av all (pre++a) j:=by
 obtain⟨q,m,l,n⟩:=h;have i:(e::(pre++a)).Nodup:=List.perm_middle.nodup m;have b:∀x,x∈pre++e::a↔x=e\/x∈pre++a:=fun x=>by rw[List.perm_middle.mem_iff,jk]
 rw[zq] at i;refine⟨p,i.2,fun x c=>l x ((b x).2 (.inr c)),fun k=> ?_⟩;rw[hk,n];constructor;rintro(⟨x,d,f,g⟩|⟨d,f⟩);exact⟨x,d,fun c=>f ((b x).2 (.inr c)),g⟩;exact⟨e,l e ((b e).2 (.inl rfl)),i.1,d,f⟩;rintro⟨x,d,f,g⟩;by_cases c:x=e;subst c;exact .inr g;exact .inl ⟨x,d,fun o=>by rcases(b x).1 o with h|h;exact c h;exact f h,g⟩
theorem D4:Cx:=by
 unfold Cx je2 Prod.q4;rintro⟨(_|t),p,⟨⟩⟩ s d;cases s;have d:bM t:=d;have r:U.tk (some t)=t:=rfl;obtain⟨c1,c2,_⟩:=id d;obtain⟨_,_,_,⟨m,o⟩,⟨n,q⟩,_⟩:=lE c2;have m:0<=t.2.1.2.2.2.1:=m;have o:t.2.1.2.2.2.1<=7:=o;have n:0<=t.2.1.2.2.2.2.1:=n;have q:t.2.1.2.2.2.2.1<=3:=q;refine⟨rfl,rfl,m,by simp only[kT];omega,rfl,n,by simp only[kT];omega,by decide,fun l w=>⟨⟨⟨⟨(l,0),⟨⟨rfl,tZ⟩,rfl,tZ⟩,MM w⟩,fun x b=>⟨fun h=>⟨fun h=>(by cases h),fun _=> ?_⟩,fun pre e a h=>⟨fun _=> ?_,fun h=>(by cases h)⟩⟩⟩,tZ⟩,tZ⟩⟩;rw[h] at b;rw[Qz b];rw[h] at b;have u:e∈sK t p:=b.2.2.1 e (by simp);have hk:=W0 u;obtain⟨k,g,v⟩:∃k:Nat,e.1=(k:Int)/\k<=2:=⟨e.1.toNat,by omega,by omega⟩;have y:(1:Int)*2^k=2^k:=Int.one_mul _;have c:(pre++a).length<x.1.length:=(by rw[h];simp);have i:BT.qS ((2:Int)^k):=BT.mQ (by omega);refine⟨fun f=> ?_,fun f=> ?_⟩;have f:e.2=0:=ja f;rw[g,ju,y];refine⟨by omega,by omega,by unfold BT.qS at i;omega,by unfold BT.qS at i;omega,(pre++a,uor x.2 (2^k)),⟨⟨rfl,tZ⟩,rfl,tZ⟩,FF b (BT.uor_set b.1 i) (fun j=> ?_),c⟩;rw[BT.has_uor b.1 i,BT.AQ,zy,jr,g,ju];simp[f];have f:¬e.2=0:=jd f;exact⟨(pre++a,x.2),⟨⟨rfl,tZ⟩,rfl,tZ⟩,FF b b.1 (fun j=>by simp[f]),c⟩
theorem lF:wo PR 106 q8:=q7 Cw D4 Tryz.func106 (kcC cm (kcC Qr kcN)) koN
theorem JJ:(Lr 64 [(106,q8),(160,yo),(161,yp)] [] [(159,wd)] []).ok PR:=Mu ⟨fun _=>lF,fun _=>GZ,fun _=>Hb,tZ⟩ trivial ⟨dA,tZ⟩ trivial
theorem xq:wo PR 113 ic:=
 TD (body:=wt Tryz.f113) (C:=Lr 64 [(106,q8),(160,yo),(161,yp)] [] [(159,wd)] []) (hk:=hkC (Lr 64 [(106,q8),(160,yo),(161,yp)] [] [(159,wd)] []) (fun _=>none) Cs [] []) JJ mixed Tryz.func113 (by kernel_rfl) (by kernel_rfl) (by kernel_rfl) (by decide)
  (fun B=>Fx JJ mixed (fun k ts rs sv pr L v ρ hk c a b=>by
   unfold Cs at hk
   split at hk
   case h_2=>cases hk
   simp only[jw] at hk
   cases hk
   exact JC c a b) ZY B) (oW.mpr Cv)
theorem MN:wo PR 77 MJ:=wb Qx Tryz.func77 (kcC T4 (kcC xq kcN)) koN
theorem W2:wo PR 74 WS:=q7 WT Z1 Tryz.func74 (kcC JB (kcC lF kcN)) koN
namespace U
def bQ (a b:Int):Int:=if a<b then-1 else if b<a then 1 else 0
def vY (l:List Int):Int:=match l.find? (fun n=>decide (n≠0)) with|some n=>n|none=>0
end U
structure fC {α:Type} (c:α->α->Int):Prop where
 anti:∀a b,c b a= -(c a b)
 trans:∀a b d,c a b<=0->c b d<=0->c a d<=0
section
variable {α:Type} {c c1 c2:α->α->Int}
theorem fC.refl (h:fC c) (a:α):c a a=0:=by have:=h.anti a a;omega
theorem fC.lt_le (h:fC c) {a b d:α} (g:c a b<0) (f:c b d<=0):c a d<0:=by
 have i:=h.trans a b d (by omega) f;have j:=h.anti a d;have k:=h.anti a b;by_cases e:c a d=0;have:=h.trans b d a f (by omega);omega;omega
theorem fC.le_lt (h:fC c) {a b d:α} (f:c a b<=0) (g:c b d<0):c a d<0:=by
 have i:=h.trans a b d f (by omega);have j:=h.anti a d;have k:=h.anti b d;by_cases e:c a d=0;have:=h.trans d a b (by omega) f;omega;omega
theorem fC.eq_eq (h:fC c) {a b d:α} (e:c a b=0) (f:c b d=0):c a d=0:=by
 have g:=h.trans a b d (by omega) (by omega);have i:=h.anti a d;have j:=h.anti a b;have k:=h.anti b d;have:=h.trans d b a (by omega) (by omega);omega
def R8 (c1 c2:α->α->Int) (a b:α):Int:=if c1 a b≠0 then c1 a b else c2 a b
theorem oX (c:fC c1) (g:fC c2):fC (R8 c1 c2) where
 anti a b:=by
  have i:=c.anti a b;have h:=g.anti a b;unfold R8;by_cases e:c1 a b=0;rw[jc (by omega),jc (by omega)];exact h;rw[je (by omega),je e];exact i
 trans a b d:=by
  unfold R8;by_cases e:c1 a b=0;rw[jc (by omega)];by_cases f:c1 b d=0;rw[jc (by omega),jc (by have:=c.eq_eq e f;omega)];exact g.trans a b d;rw[je f];intro _ k;have:=c.le_lt (a:=a) (b:=b) (d:=d) (by omega) (by omega);rw[je (by omega)];omega;rw[je e];intro k;by_cases f:c1 b d=0;rw[jc (by omega)];intro _;have:=c.lt_le (a:=a) (b:=b) (d:=d) (by omega) (by omega);rw[je (by omega)];omega;rw[je f];intro h;have:=c.lt_le (a:=a) (b:=b) (d:=d) (by omega) (by omega);rw[je (by omega)];omega
theorem nO {β:Type} (h:fC c) (f:β->α):fC (fun a b=>c (f a) (f b)):=⟨fun a b=>h.anti (f a) (f b),fun a b d=>h.trans (f a) (f b) (f d)⟩
end
theorem lG:fC bQ:=by
 constructor;intro a b;unfold bQ;split<;>split<;>(try split)<;>(try split)<;>omega
 intro a b d;unfold bQ;split<;>split<;>(try split)<;>(try split)<;>(try split)<;>(try split)<;>omega
theorem T7 {a b:Int}:bQ a b<0↔a<b:=by
 unfold bQ
 split
 simp;omega
 split<;>simp<;>omega
theorem gS {a b:Int}:bQ a b=0↔a=b:=by
 unfold bQ
 split
 simp;omega
 split
 simp;omega;simp;omega
theorem ww (x:Int) (l:List Int):vY (x::l)=if x≠0 then x else vY l:=by
 unfold vY;by_cases e:x=0;simp[List.find?,e];simp[List.find?,e]
theorem qD (x:Int):vY [x]=x:=by
 rw[ww]
 split
 rfl;rename_i h;have:x=0:=(by omega);rw[this];rfl
theorem AF {t:Ty} {c:t.Data->t.Data->Int} (d:fC c) {l:List t.Data} (h:∀x y,x∈l->y∈l->c x y=0->x=y):qP (ko t fun x=>(c x.1 x.2.1,())) l where
 irrefl x _:=by
  unfold ko;have:=d.refl x;simp only[this];rfl
 trans x y z _ _ _ b a:=by
  unfold ko at*;have b:=ja b;have a:=ja a;exact jJ (d.lt_le b (by have a:c y z<0:=a;show c y z<=0;omega))
 total x y hx hy b a:=by
  unfold ko at*;have b:¬c x y<0:=jd b;have a:¬c y x<0:=jd a;have:=d.anti x y;exact h x y hx hy (by omega)
end Go.X
namespace Go.X
open U
namespace M
theorem mput_cons {kt:Ty} {β:Type} (k:kt.Data) (v:β) (e:kt.Data×β) (r:List (kt.Data×β)):eK kt k v (e::r)=if @decide (k=e.1) (kt.decEq k e.1)=true then(k,v)::r else e::eK kt k v r:=rfl
theorem mfind_cons {kt:Ty} {β:Type} (k:kt.Data) (e:kt.Data×β) (r:List (kt.Data×β)):kL kt k (e::r)=if @decide (k=e.1) (kt.decEq k e.1)=true then some e.2 else kL kt k r:=rfl
theorem mfind_none {kt:Ty} {β:Type} {k:kt.Data}:∀{l:List (kt.Data×β)},k∉l.map (·.1)->kL kt k l=none
 |[],_=>rfl
 |e::r,h=>by
  simp only[zt,jk,not_or] at h
  rw[mfind_cons,jc (fun a=>h.1 (@ja _ (kt.decEq k e.1) a))]
  exact mfind_none h.2
theorem dec_self {kt:Ty} (k:kt.Data): @decide (k=k) (kt.decEq k k)=true:= @jJ _ (kt.decEq k k) rfl
theorem mput_fst {kt:Ty} {β:Type} (k:kt.Data) (v:β):∀m:List (kt.Data×β),(eK kt k v m).map (·.1)=m.map (·.1)\/(k∉m.map (·.1)/\(eK kt k v m).map (·.1)=m.map (·.1)++[k])
 |[]=> .inr ⟨by simp,rfl⟩
 |e::r=>by
  rw[mput_cons]
  by_cases h: @decide (k=e.1) (kt.decEq k e.1)=true
  rw[je h]
  have h:k=e.1:= @ja _ (kt.decEq k e.1) h
  left
  simp[h]
  rw[jc h]
  have h:¬k=e.1:=fun a=>h (@jJ _ (kt.decEq k e.1) a)
  rcases mput_fst k v r with d|⟨b,c⟩
  left;simp only[zt,d]
  right
  refine⟨?_,by simp only[zt,c,jW]⟩
  rw[zt,jk]
  rintro(a|a)
  exact h a
  exact b a
theorem pC {kt:Ty} {β:Type} (k:kt.Data) (v:β):∀l:List (kt.Data×β),kL kt k (eK kt k v l)=some v
 |[]=>by
  rw[show eK kt k v []=[(k,v)] from rfl,mfind_cons,je (dec_self k)]
 |e::r=>by
  rw[mput_cons]
  by_cases h: @decide (k=e.1) (kt.decEq k e.1)=true
  rw[je h,mfind_cons,je (dec_self k)]
  rw[jc h,mfind_cons,jc h]
  exact pC k v r
theorem cT {kt:Ty} {β:Type} {k k':kt.Data} (a:k'≠k) (v:β):∀l:List (kt.Data×β),kL kt k' (eK kt k v l)=kL kt k' l
 |[]=>by
  rw[show eK kt k v []=[(k,v)] from rfl,mfind_cons,jc (fun e=>a (@ja _ (kt.decEq k' k) e))]
 |e::r=>by
  rw[mput_cons]
  by_cases h: @decide (k=e.1) (kt.decEq k e.1)=true
  rw[je h]
  have h:k=e.1:= @ja _ (kt.decEq k e.1) h
  have c:¬@decide (k'=e.1) (kt.decEq k' e.1)=true:=fun b=>a ((@ja _ (kt.decEq k' e.1) b).trans h.symm)
  rw[mfind_cons,mfind_cons,jc c,jc (fun e=>a (@ja _ (kt.decEq k' k) e))]
  rw[jc h,mfind_cons,mfind_cons,cT a v r]
theorem eH {kt:Ty} {β:Type} {k:kt.Data} {v:β}:∀{l:List (kt.Data×β)},(l.map (·.1)).Nodup->(kL kt k l=some v↔(k,v)∈l)
 |[],_=>by simp[kL]
 |e::r,h=>by
  simp only[zt,zq] at h
  rw[mfind_cons]
  by_cases hk: @decide (k=e.1) (kt.decEq k e.1)=true
  rw[je hk]
  have hk:k=e.1:= @ja _ (kt.decEq k e.1) hk
  subst hk
  rw[jk]
  constructor
  intro a;simp at a;exact .inl (by rw[<-a])
  rintro(a|a)
  rw[<-a]
  exact absurd (jS.2 ⟨_,a,rfl⟩) h.1
  rw[jc hk]
  have hk:¬k=e.1:=fun b=>hk (@jJ _ (kt.decEq k e.1) b)
  rw[eH h.2,jk]
  constructor
  exact .inr
  rintro(a|a)
  exact absurd (by rw[<-a]) hk
  exact a
end M
end Go.X
namespace Go.Proofs
open Go.Shelf
theorem xlay {t:Type} {a:Option t} {b c:t} (h:a=some b) (e:b=c:=by kernel_rfl):a=some c:=h.trans (congrArg some e)
def Tryz.sortSh_ren:Go.Shelf.Ren:=⟨fun|6=>107|15=>93|14=>153|28=>130|29=>131|20=>187|21=>188|22=>189|23=>190|24=>191|25=>192|26=>193|27=>194|46=>220|47=>167|48=>168|49=>221|50=>222|57=>232|n=>n,fun|22=>28|24=>75|25=>163|3=>3|39=>105|0=>0|53=>180|55=>182|4=>4|46=>174|45=>173|50=>63|5=>5|9=>9|66=>207|70=>211|76=>234|77=>235|n=>n,fun|n=>n⟩
theorem Tryz.sortSh:Go.Proofs.SlLaysF0.n6 Tryz.prog Tryz.sortSh_ren:={
 mixed:=by kernel_rfl
 f6:=⟨Tryz.f107.name,by decide,xlay Tryz.func107⟩
 f14:=⟨Tryz.f153.name,by decide,xlay Tryz.func153⟩
 f15:=xlay Tryz.func93
 f20:=⟨Tryz.f187.name,by decide,xlay Tryz.func187⟩
 f21:=⟨Tryz.f188.name,by decide,xlay Tryz.func188⟩
 f22:=⟨Tryz.f189.name,by decide,xlay Tryz.func189⟩
 f23:=⟨Tryz.f190.name,by decide,xlay Tryz.func190⟩
 f24:=⟨Tryz.f191.name,by decide,xlay Tryz.func191⟩
 f25:=⟨Tryz.f192.name,by decide,xlay Tryz.func192⟩
 f26:=⟨Tryz.f193.name,by decide,xlay Tryz.func193⟩
 f27:=⟨Tryz.f194.name,by decide,xlay Tryz.func194⟩
 f28:=xlay Tryz.func130
 f29:=xlay Tryz.func131
 f46:=⟨Tryz.f220.name,by decide,xlay Tryz.func220⟩
 f47:=xlay Tryz.func167
 f48:=xlay Tryz.func168
 f49:=⟨Tryz.f221.name,by decide,xlay Tryz.func221⟩
 f50:=⟨Tryz.f222.name,by decide,xlay Tryz.func222⟩
 f57:=⟨Tryz.f232.name,by decide,xlay Tryz.func232⟩
 t0:=Tryz.underlying0
 a0:=Tryz.isAgg0
 z0:=Tryz.sizeOf0
 v0:=Tryz.zeroValue0
 t3:=Tryz.underlying3
 a3:=Tryz.isAgg3
 z3:=Tryz.sizeOf3
 v3:=Tryz.zeroValue3
 t4:=Tryz.underlying4
 a4:=Tryz.isAgg4
 z4:=Tryz.sizeOf4
 v4:=Tryz.zeroValue4
 t5:=Tryz.underlying5
 a5:=Tryz.isAgg5
 z5:=Tryz.sizeOf5
 v5:=Tryz.zeroValue5
 t9:=Tryz.underlying9
 a9:=Tryz.isAgg9
 z9:=Tryz.sizeOf9
 v9:=Tryz.zeroValue9
 t22:=Tryz.underlying28
 a22:=Tryz.isAgg28
 z22:=Tryz.sizeOf28
 v22:=Tryz.zeroValue28
 t25:=Tryz.underlying163
 a25:=Tryz.isAgg163
 z25:=Tryz.sizeOf163
 v25:=Tryz.zeroValue163
 t39:=Tryz.underlying105
 a39:=Tryz.isAgg105
 z39:=Tryz.sizeOf105
 v39:=Tryz.zeroValue105
 t45:=Tryz.underlying173
 a45:=Tryz.isAgg173
 z45:=Tryz.sizeOf173
 v45:=Tryz.zeroValue173
 t46:=Tryz.underlying174
 a46:=Tryz.isAgg174
 z46:=Tryz.sizeOf174
 v46:=Tryz.zeroValue174
 t50:=Tryz.underlying63
 a50:=Tryz.isAgg63
 z50:=Tryz.sizeOf63
 v50:=Tryz.zeroValue63
 t53:=Tryz.underlying180
 a53:=Tryz.isAgg180
 z53:=Tryz.sizeOf180
 v53:=Tryz.zeroValue180
 t55:=Tryz.underlying182
 a55:=Tryz.isAgg182
 z55:=Tryz.sizeOf182
 v55:=Tryz.zeroValue182
 t66:=Tryz.underlying207
 a66:=Tryz.isAgg207
 z66:=Tryz.sizeOf207
 v66:=Tryz.zeroValue207
 t70:=Tryz.underlying211
 a70:=Tryz.isAgg211
 z70:=Tryz.sizeOf211
 v70:=Tryz.zeroValue211
 t76:=Tryz.underlying234
 a76:=Tryz.isAgg234
 z76:=Tryz.sizeOf234
 v76:=Tryz.zeroValue234
 t77:=Tryz.underlying235
 a77:=Tryz.isAgg235
 z77:=Tryz.sizeOf235
 v77:=Tryz.zeroValue235}
def Tryz.sortI_ren:Go.Shelf.Ren:=⟨fun|189=>110|125=>93|257=>157|128=>130|129=>131|294=>198|295=>199|296=>200|297=>201|298=>202|299=>203|216=>204|300=>205|301=>206|328=>226|329=>167|330=>168|331=>227|332=>228|215=>94|343=>235|n=>n,fun|28=>31|3=>3|46=>105|0=>0|51=>180|53=>182|4=>4|183=>174|182=>173|131=>63|5=>5|9=>9|218=>207|222=>211|228=>234|229=>235|n=>n,fun|n=>n⟩
theorem Tryz.sortI:Go.Proofs.Lays.n189 Tryz.prog Tryz.sortI_ren:={
 mixed:=by kernel_rfl
 f125:=xlay Tryz.func93
 f128:=xlay Tryz.func130
 f129:=xlay Tryz.func131
 f189:=xlay Tryz.func110
 f215:=xlay Tryz.func94
 f216:=xlay Tryz.func204
 f257:=xlay Tryz.func157
 f294:=xlay Tryz.func198
 f295:=xlay Tryz.func199
 f296:=xlay Tryz.func200
 f297:=xlay Tryz.func201
 f298:=xlay Tryz.func202
 f299:=xlay Tryz.func203
 f300:=xlay Tryz.func205
 f301:=xlay Tryz.func206
 f328:=xlay Tryz.func226
 f329:=xlay Tryz.func167
 f330:=xlay Tryz.func168
 f331:=xlay Tryz.func227
 f332:=xlay Tryz.func228
 f343:=xlay Tryz.func235
 t0:=Tryz.underlying0
 a0:=Tryz.isAgg0
 z0:=Tryz.sizeOf0
 v0:=Tryz.zeroValue0
 t3:=Tryz.underlying3
 a3:=Tryz.isAgg3
 z3:=Tryz.sizeOf3
 v3:=Tryz.zeroValue3
 t4:=Tryz.underlying4
 a4:=Tryz.isAgg4
 z4:=Tryz.sizeOf4
 v4:=Tryz.zeroValue4
 t5:=Tryz.underlying5
 a5:=Tryz.isAgg5
 z5:=Tryz.sizeOf5
 v5:=Tryz.zeroValue5
 t9:=Tryz.underlying9
 a9:=Tryz.isAgg9
 z9:=Tryz.sizeOf9
 v9:=Tryz.zeroValue9
 t28:=Tryz.underlying31
 a28:=Tryz.isAgg31
 z28:=Tryz.sizeOf31
 v28:=Tryz.zeroValue31
 t46:=Tryz.underlying105
 a46:=Tryz.isAgg105
 z46:=Tryz.sizeOf105
 v46:=Tryz.zeroValue105
 t51:=Tryz.underlying180
 a51:=Tryz.isAgg180
 z51:=Tryz.sizeOf180
 v51:=Tryz.zeroValue180
 t53:=Tryz.underlying182
 a53:=Tryz.isAgg182
 z53:=Tryz.sizeOf182
 v53:=Tryz.zeroValue182
 t131:=Tryz.underlying63
 a131:=Tryz.isAgg63
 z131:=Tryz.sizeOf63
 v131:=Tryz.zeroValue63
 t182:=Tryz.underlying173
 a182:=Tryz.isAgg173
 z182:=Tryz.sizeOf173
 v182:=Tryz.zeroValue173
 t183:=Tryz.underlying174
 a183:=Tryz.isAgg174
 z183:=Tryz.sizeOf174
 v183:=Tryz.zeroValue174
 t218:=Tryz.underlying207
 a218:=Tryz.isAgg207
 z218:=Tryz.sizeOf207
 v218:=Tryz.zeroValue207
 t222:=Tryz.underlying211
 a222:=Tryz.isAgg211
 z222:=Tryz.sizeOf211
 v222:=Tryz.zeroValue211
 t228:=Tryz.underlying234
 a228:=Tryz.isAgg234
 z228:=Tryz.sizeOf234
 v228:=Tryz.zeroValue234
 t229:=Tryz.underlying235
 a229:=Tryz.isAgg235
 z229:=Tryz.sizeOf235
 v229:=Tryz.zeroValue235}
end Go.Proofs
namespace Go.X
open U
open Go.Proofs
abbrev rwS:Sh:= .cl (.row 75 tSh .unk)
namespace U
def uW (s:SpD):Bool:=(decide (0<=lo s)&&decide (lo s<=hi s))&&decide (hi s<=300)
def Dy (n:Nat) (b:BkD):Bool:=((kj (jaM b) 0 ((n:Int)-1)&&decide (0<=qn b))&&decide (qn b<mN b))&&decide (mN b<=1440)
def K9 (nb a:Nat) (s:ShD):Bool:=(((kj (yc s) 0 99&&kj (Ip s) 0 9999)&&kj (V4 s) 1 2)&&kj (K4 s) 0 ((nb:Int)-1))&&kj (nU s) 0 ((a:Int)-1)
def cw (a b:ShD):Int:=vY [bQ (yc a) (yc b),bQ (Ip a) (Ip b),bQ (V4 a) (V4 b),bQ (K4 a) (K4 b),bQ (nU a) (nU b)]
def kK (a b:ShD):Int:=vY [bQ (Ip a) (Ip b),bQ (yc a) (yc b)]
def ye (a b:ShD):Bool:=decide (a=b)
def wy (l:List ShD):List ShD:=aF ye (km (ko tSh fun x=>(cw x.1 x.2.1,())) l)
def mO (m:List (Int×Int)) (s:ShD):List (Int×Int):=eK .int (yc s) (kW 0 (kL .int (yc s) m)+1) m
def vH (m:List (Int×Int)) (l:List ShD) (n:Nat):List (Int×Int):=(l.take n).foldl mO m
def Pz (m:List (Int×Int)) (s:ShD):Bool:=decide (1<kW 0 (kL .int (yc s) (mO m s)))
def sL (m:List (Int×Int)) (l:List ShD) (i:Nat):Bool:=Pz (vH m l i) (nth l i)
def l7 (m:List (Int×Int)) (l:List ShD):Int:=yg (sL m l) (List.range l.length)
def VM (m:List (Int×Int)) (l:List ShD):Nat:=match(List.range l.length).findIdx? (sL m l) with|some i=>i+1|none=>l.length
def pv (m:List (Int×Int)) (l:List ShD):List (Int×Int):=vH m l (VM m l)
def jcd (m:List (Int×Int)):Prop:=m=[]
def VN (m:List (Int×Int)):Prop:=∀k,0<=kW 0 (kL .int k m)/\kW 0 (kL .int k m)<=200000
def Sb (l:List ShD):Bool:=decide (0<=l7 [] l)
def uo (d:DyD):Int:=if kU (kE d)=false then 30 else if K6 d=false then 31 else 0
def wm (d:DyD):Int:=if uo d≠0 then uo d else if wE d=false then 50 else if Sb (wy (kX d))=true then 51 else 0
end U
def MO:we:=⟨[.val .int,.val .int,.val .int],[.bool],false,fun _=>[],fun d=>(kj d.1 d.2.1 d.2.2.1,())⟩
def MP:Prop:=∀(d:Int×Int×Int×Unit),(decide (d.2.1<=d.1)&&decide (d.1<=d.2.2.1),())=(kj d.1 d.2.1 d.2.2.1,())
def mU:we:=⟨[.val (.slice tSp),.fn [tSp] [.bool]],[.int],false,fun d=>[∀g∈d.1,kG (d.2.1.pre (g,()))],fun d=>(yg (kl (α:=SpD) d.2.1.F) d.1,())⟩
def mV:Ann:=fun r=>match r with
 |2=>some fun σ=>{X:=Nat,sl:=fun i=>[(8,.dat .int (i:Int))],ob:=fun _=>[],inv:=fun i=>i<=(gd (.slice tSp) σ 0).length/\∀b:Nat,b<i->kl (gfb tSp σ 1) (nth (gd (.slice tSp) σ 0) b)=false,mu:=fun i=>(gd (.slice tSp) σ 0).length-i}
 |_=>none
def mW:Prop:=∀(d:List (Int×Int×Unit)×FnD [tSp] [Ty.bool]×Unit),(∀(g:Int×Int×Unit),g∈d.1->kG (d.2.1.1 (g,())))->d.1.length<4611686018427387904->(∃(x:Nat),((0=(x:Int)/\True)/\True)/\x<=d.1.length/\∀(b:Nat),b<x->kl d.2.1.2 (nth d.1 b)=false)/\∀(x:Nat),(x<=d.1.length/\∀(b:Nat),b<x->kl d.2.1.2 (nth d.1 b)=false)->(decide ((x:Int)<d.1.length)=true->0<=(x:Int)/\(x:Int)<d.1.length/\asks (d.2.1.1 (nth d.1 (x:Int).toNat,())) (((d.2.1.2 (nth d.1 (x:Int).toNat,())).1=true->((x:Int),())=(yg (kl d.2.1.2) d.1,()))/\((d.2.1.2 (nth d.1 (x:Int).toNat,())).1=false->kM ((x:Int)+1)/\∃(a:Nat),(((x:Int)+1=(a:Int)/\True)/\True)/\(a<=d.1.length/\∀(b:Nat),b<a->kl d.2.1.2 (nth d.1 b)=false)/\d.1.length-a<d.1.length-x)))/\(decide ((x:Int)<d.1.length)=false->((-1:Int),())=(yg (kl d.2.1.2) d.1,()))
def fD:we:=⟨[.val (.slice tSp),.fn [tSp] [.bool]],[.bool],false,fun d=>[∀g∈d.1,kG (d.2.1.pre (g,()))],fun d=>(d.1.any (kl (α:=SpD) d.2.1.F),())⟩
def fE:Prop:=∀(d:List (Int×Int×Unit)×FnD [tSp] [Ty.bool]×Unit),(∀(g:Int×Int×Unit),g∈d.1->kG (d.2.1.1 (g,())))->(∀(g:Int×Int×Unit),g∈d.1->kG (d.2.1.1 (g,())))/\(decide (0<=yg (kl d.2.1.2) d.1),())=(d.1.any (kl d.2.1.2),())
def lH:we:=⟨[.val (.slice (.slice tSp)),.fn [(.slice tSp)] [.bool]],[.int],false,fun d=>[∀g∈d.1,kG (d.2.1.pre (g,()))],fun d=>(yg (kl (α:=(List SpD)) d.2.1.F) d.1,())⟩
def lI:Ann:=fun r=>match r with
 |2=>some fun σ=>{X:=Nat,sl:=fun i=>[(8,.dat .int (i:Int))],ob:=fun _=>[],inv:=fun i=>i<=(gd (.slice (.slice tSp)) σ 0).length/\∀b:Nat,b<i->kl (gfb (.slice tSp) σ 1) (nth (gd (.slice (.slice tSp)) σ 0) b)=false,mu:=fun i=>(gd (.slice (.slice tSp)) σ 0).length-i}
 |_=>none
def lJ:Prop:=∀(d:List (List (Int×Int×Unit))×FnD [tSp.slice] [Ty.bool]×Unit),(∀(g:List (Int×Int×Unit)),g∈d.1->kG (d.2.1.1 (g,())))->d.1.length<4611686018427387904->(∃(x:Nat),((0=(x:Int)/\True)/\True)/\x<=d.1.length/\∀(b:Nat),b<x->kl d.2.1.2 (nth d.1 b)=false)/\∀(x:Nat),(x<=d.1.length/\∀(b:Nat),b<x->kl d.2.1.2 (nth d.1 b)=false)->(decide ((x:Int)<d.1.length)=true->0<=(x:Int)/\(x:Int)<d.1.length/\asks (d.2.1.1 (nth d.1 (x:Int).toNat,())) (((d.2.1.2 (nth d.1 (x:Int).toNat,())).1=true->((x:Int),())=(yg (kl d.2.1.2) d.1,()))/\((d.2.1.2 (nth d.1 (x:Int).toNat,())).1=false->kM ((x:Int)+1)/\∃(a:Nat),(((x:Int)+1=(a:Int)/\True)/\True)/\(a<=d.1.length/\∀(b:Nat),b<a->kl d.2.1.2 (nth d.1 b)=false)/\d.1.length-a<d.1.length-x)))/\(decide ((x:Int)<d.1.length)=false->((-1:Int),())=(yg (kl d.2.1.2) d.1,()))
def dB:we:=⟨[.val (.slice (.slice tSp)),.fn [(.slice tSp)] [.bool]],[.bool],false,fun d=>[∀g∈d.1,kG (d.2.1.pre (g,()))],fun d=>(d.1.any (kl (α:=(List SpD)) d.2.1.F),())⟩
def dC:Prop:=∀(d:List (List (Int×Int×Unit))×FnD [tSp.slice] [Ty.bool]×Unit),(∀(g:List (Int×Int×Unit)),g∈d.1->kG (d.2.1.1 (g,())))->(∀(g:List (Int×Int×Unit)),g∈d.1->kG (d.2.1.1 (g,())))/\(decide (0<=yg (kl d.2.1.2) d.1),())=(d.1.any (kl d.2.1.2),())
def fF:we:=⟨[.val (.slice tBk),.fn [tBk] [.bool]],[.int],false,fun d=>[∀g∈d.1,kG (d.2.1.pre (g,()))],fun d=>(yg (kl (α:=BkD) d.2.1.F) d.1,())⟩
def fG:Ann:=fun r=>match r with
 |2=>some fun σ=>{X:=Nat,sl:=fun i=>[(8,.dat .int (i:Int))],ob:=fun _=>[],inv:=fun i=>i<=(gd (.slice tBk) σ 0).length/\∀b:Nat,b<i->kl (gfb tBk σ 1) (nth (gd (.slice tBk) σ 0) b)=false,mu:=fun i=>(gd (.slice tBk) σ 0).length-i}
 |_=>none
def fH:Prop:=∀(d:List BkD×FnD [tBk] [Ty.bool]×Unit),(∀(g:BkD),g∈d.1->kG (d.2.1.1 (g,())))->d.1.length<4611686018427387904->(∃(x:Nat),((0=(x:Int)/\True)/\True)/\x<=d.1.length/\∀(b:Nat),b<x->kl d.2.1.2 (nth d.1 b)=false)/\∀(x:Nat),(x<=d.1.length/\∀(b:Nat),b<x->kl d.2.1.2 (nth d.1 b)=false)->(decide ((x:Int)<d.1.length)=true->0<=(x:Int)/\(x:Int)<d.1.length/\asks (d.2.1.1 (nth d.1 (x:Int).toNat,())) (((d.2.1.2 (nth d.1 (x:Int).toNat,())).1=true->((x:Int),())=(yg (kl d.2.1.2) d.1,()))/\((d.2.1.2 (nth d.1 (x:Int).toNat,())).1=false->kM ((x:Int)+1)/\∃(a:Nat),(((x:Int)+1=(a:Int)/\True)/\True)/\(a<=d.1.length/\∀(b:Nat),b<a->kl d.2.1.2 (nth d.1 b)=false)/\d.1.length-a<d.1.length-x)))/\(decide ((x:Int)<d.1.length)=false->((-1:Int),())=(yg (kl d.2.1.2) d.1,()))
def bU:we:=⟨[.val (.slice tBk),.fn [tBk] [.bool]],[.bool],false,fun d=>[∀g∈d.1,kG (d.2.1.pre (g,()))],fun d=>(d.1.any (kl (α:=BkD) d.2.1.F),())⟩
def bV:Prop:=∀(d:List BkD×FnD [tBk] [Ty.bool]×Unit),(∀(g:BkD),g∈d.1->kG (d.2.1.1 (g,())))->(∀(g:BkD),g∈d.1->kG (d.2.1.1 (g,())))/\(decide (0<=yg (kl d.2.1.2) d.1),())=(d.1.any (kl d.2.1.2),())
def lK:we:=⟨[.val (.slice tSh),.fn [tSh] [.bool]],[.int],false,fun d=>[∀g∈d.1,kG (d.2.1.pre (g,()))],fun d=>(yg (kl (α:=ShD) d.2.1.F) d.1,())⟩
def lL:Ann:=fun r=>match r with
 |2=>some fun σ=>{X:=Nat,sl:=fun i=>[(8,.dat .int (i:Int))],ob:=fun _=>[],inv:=fun i=>i<=(gd (.slice tSh) σ 0).length/\∀b:Nat,b<i->kl (gfb tSh σ 1) (nth (gd (.slice tSh) σ 0) b)=false,mu:=fun i=>(gd (.slice tSh) σ 0).length-i}
 |_=>none
def lM:Prop:=∀(d:List ShD×FnD [tSh] [Ty.bool]×Unit),(∀(g:ShD),g∈d.1->kG (d.2.1.1 (g,())))->d.1.length<4611686018427387904->(∃(x:Nat),((0=(x:Int)/\True)/\True)/\x<=d.1.length/\∀(b:Nat),b<x->kl d.2.1.2 (nth d.1 b)=false)/\∀(x:Nat),(x<=d.1.length/\∀(b:Nat),b<x->kl d.2.1.2 (nth d.1 b)=false)->(decide ((x:Int)<d.1.length)=true->0<=(x:Int)/\(x:Int)<d.1.length/\asks (d.2.1.1 (nth d.1 (x:Int).toNat,())) (((d.2.1.2 (nth d.1 (x:Int).toNat,())).1=true->((x:Int),())=(yg (kl d.2.1.2) d.1,()))/\((d.2.1.2 (nth d.1 (x:Int).toNat,())).1=false->kM ((x:Int)+1)/\∃(a:Nat),(((x:Int)+1=(a:Int)/\True)/\True)/\(a<=d.1.length/\∀(b:Nat),b<a->kl d.2.1.2 (nth d.1 b)=false)/\d.1.length-a<d.1.length-x)))/\(decide ((x:Int)<d.1.length)=false->((-1:Int),())=(yg (kl d.2.1.2) d.1,()))
def dD:we:=⟨[.val (.slice tSh),.fn [tSh] [.bool]],[.bool],false,fun d=>[∀g∈d.1,kG (d.2.1.pre (g,()))],fun d=>(d.1.any (kl (α:=ShD) d.2.1.F),())⟩
def dE:Prop:=∀(d:List ShD×FnD [tSh] [Ty.bool]×Unit),(∀(g:ShD),g∈d.1->kG (d.2.1.1 (g,())))->(∀(g:ShD),g∈d.1->kG (d.2.1.1 (g,())))/\(decide (0<=yg (kl d.2.1.2) d.1),())=(d.1.any (kl d.2.1.2),())
def tC:we:=⟨[.val tSp,.rfn [tSp] [.bool]],[.bool],false,fun d=>[kG (d.2.1.pre (d.1,()))],fun d=>(!(kl (α:=SpD) d.2.1.F d.1),())⟩
def tD:Prop:=∀(d:(Int×Int×Unit)×FnD [tSp] [Ty.bool]×Unit),kG (d.2.1.1 (d.1,()))->asks (d.2.1.1 (d.1,())) ((!(d.2.1.2 (d.1,())).1,())=(!kl d.2.1.2 d.1,()))
def Cy:we:=⟨[.val (.slice tSp),.fn [tSp] [.bool]],[.bool],false,fun d=>[∀g∈d.1,kG (d.2.1.pre (g,()))],fun d=>(d.1.all (kl (α:=SpD) d.2.1.F),())⟩
def Cz:Prop:=∀(d:List (Int×Int×Unit)×FnD [tSp] [Ty.bool]×Unit),(∀(g:Int×Int×Unit),g∈d.1->kG (d.2.1.1 (g,())))->(∀(g:Int×Int×Unit),g∈d.1->kG [kG (d.2.1.1 (g,()))])/\(!d.1.any (kl fun(a:(Int×Int×Unit)×Unit)=>(!kl d.2.1.2 a.1,())),())=(d.1.all (kl d.2.1.2),())
def rO:we:=⟨[.val (.slice tSp),.rfn [(.slice tSp)] [.bool]],[.bool],false,fun d=>[kG (d.2.1.pre (d.1,()))],fun d=>(!(kl (α:=(List SpD)) d.2.1.F d.1),())⟩
def rP:Prop:=∀(d:List (Int×Int×Unit)×FnD [tSp.slice] [Ty.bool]×Unit),kG (d.2.1.1 (d.1,()))->asks (d.2.1.1 (d.1,())) ((!(d.2.1.2 (d.1,())).1,())=(!kl d.2.1.2 d.1,()))
def xr:we:=⟨[.val (.slice (.slice tSp)),.fn [(.slice tSp)] [.bool]],[.bool],false,fun d=>[∀g∈d.1,kG (d.2.1.pre (g,()))],fun d=>(d.1.all (kl (α:=(List SpD)) d.2.1.F),())⟩
def xt:Prop:=∀(d:List (List (Int×Int×Unit))×FnD [tSp.slice] [Ty.bool]×Unit),(∀(g:List (Int×Int×Unit)),g∈d.1->kG (d.2.1.1 (g,())))->(∀(g:List (Int×Int×Unit)),g∈d.1->kG [kG (d.2.1.1 (g,()))])/\(!d.1.any (kl fun(a:List (Int×Int×Unit)×Unit)=>(!kl d.2.1.2 a.1,())),())=(d.1.all (kl d.2.1.2),())
def mX:we:=⟨[.val tBk,.rfn [tBk] [.bool]],[.bool],false,fun d=>[kG (d.2.1.pre (d.1,()))],fun d=>(!(kl (α:=BkD) d.2.1.F d.1),())⟩
def mY:Prop:=∀(d:BkD×FnD [tBk] [Ty.bool]×Unit),kG (d.2.1.1 (d.1,()))->asks (d.2.1.1 (d.1,())) ((!(d.2.1.2 (d.1,())).1,())=(!kl d.2.1.2 d.1,()))
def rQ:we:=⟨[.val (.slice tBk),.fn [tBk] [.bool]],[.bool],false,fun d=>[∀g∈d.1,kG (d.2.1.pre (g,()))],fun d=>(d.1.all (kl (α:=BkD) d.2.1.F),())⟩
def rR:Prop:=∀(d:List BkD×FnD [tBk] [Ty.bool]×Unit),(∀(g:BkD),g∈d.1->kG (d.2.1.1 (g,())))->(∀(g:BkD),g∈d.1->kG [kG (d.2.1.1 (g,()))])/\(!d.1.any (kl fun(a:BkD×Unit)=>(!kl d.2.1.2 a.1,())),())=(d.1.all (kl d.2.1.2),())
def rS:we:=⟨[.val tSh,.rfn [tSh] [.bool]],[.bool],false,fun d=>[kG (d.2.1.pre (d.1,()))],fun d=>(!(kl (α:=ShD) d.2.1.F d.1),())⟩
def rT:Prop:=∀(d:ShD×FnD [tSh] [Ty.bool]×Unit),kG (d.2.1.1 (d.1,()))->asks (d.2.1.1 (d.1,())) ((!(d.2.1.2 (d.1,())).1,())=(!kl d.2.1.2 d.1,()))
def xu:we:=⟨[.val (.slice tSh),.fn [tSh] [.bool]],[.bool],false,fun d=>[∀g∈d.1,kG (d.2.1.pre (g,()))],fun d=>(d.1.all (kl (α:=ShD) d.2.1.F),())⟩
def xv:Prop:=∀(d:List ShD×FnD [tSh] [Ty.bool]×Unit),(∀(g:ShD),g∈d.1->kG (d.2.1.1 (g,())))->(∀(g:ShD),g∈d.1->kG [kG (d.2.1.1 (g,()))])/\(!d.1.any (kl fun(a:ShD×Unit)=>(!kl d.2.1.2 a.1,())),())=(d.1.all (kl d.2.1.2),())
def JK:we:=⟨[.val tSp],[.bool],false,fun _=>[],fun d=>(uW d.1,())⟩
def JL:Prop:=∀(d:(Int×Int×Unit)×Unit),(decide (0<=d.1.1)&&decide (d.1.1<=d.1.2.1)&&decide (d.1.2.1<=300),())=(uW d.1,())
def JM:we:=⟨[.val (.slice tSp),.ref tDy,.rfn [tSp] [.bool]],[.bool],false,fun d=>[∀g∈d.1,kG (d.2.2.1.pre (g,()))],fun d=>(decide ((d.1.length:Int)=(wl d.2.1).length)&&d.1.all (kl (α:=SpD) d.2.2.1.F),())⟩
def JN:Prop:=∀(d:List (Int×Int×Unit)×DyD×FnD [tSp] [Ty.bool]×Unit),(∀(g:Int×Int×Unit),g∈d.1->kG (d.2.2.1.1 (g,())))->d.1.length<4611686018427387904->d.2.1.2.1.length<4611686018427387904->(decide ((d.1.length:Int)=d.2.1.2.1.length)=true->∀(g:Int×Int×Unit),g∈d.1->kG (d.2.2.1.1 (g,())))/\(decide ((d.1.length:Int)=d.2.1.2.1.length)&&d.1.all (kl d.2.2.1.2),())=(decide ((d.1.length:Int)=(wl d.2.1).length)&&d.1.all (kl d.2.2.1.2),())
def JO:we:=⟨[.val tBk,.ref tDy],[.bool],false,fun _=>[],fun d=>(Dy (wl d.2.1).length d.1,())⟩
def JP:Prop:=∀(d:BkD×DyD×Unit),d.2.1.2.1.length<4611686018427387904->kM ((d.2.1.2.1.length:Int)-1)/\(kj d.1.2.1 (0:Int) ((d.2.1.2.1.length:Int)-1)&&decide (0<=d.1.2.2.1)&&decide (d.1.2.2.1<d.1.2.2.2.1)&&decide (d.1.2.2.2.1<=1440),())=(Dy (wl d.2.1).length d.1,())
def JQ:we:=⟨[.val tSh,.ref tDy],[.bool],false,fun _=>[],fun d=>(K9 (kB d.2.1).length (kC (kE d.2.1)).length d.1,())⟩
abbrev jhd (d:ShD×DyD×Unit):=(kj d.1.1 (0:Int) (99:Int)&&kj d.1.2.1 (0:Int) (9999:Int)&&kj d.1.2.2.1 (1:Int) (2:Int)&&kj d.1.2.2.2.1 (0:Int) ((d.2.1.2.2.1.length:Int)-1))
abbrev jhe (d:ShD×DyD×Unit):=(kj d.1.1 (0:Int) (99:Int)&&kj d.1.2.1 (0:Int) (9999:Int)&&kj d.1.2.2.1 (1:Int) (2:Int))
def JR:Prop:=∀(d:ShD×DyD×Unit),((jhe d)=true->d.2.1.2.2.1.length<4611686018427387904)->((jhe d)=true->kM ((d.2.1.2.2.1.length:Int)-1))/\(((jhd d)=true->d.2.1.1.2.1.length<4611686018427387904)->((jhd d)=true->kM ((d.2.1.1.2.1.length:Int)-1))/\(kj d.1.1 (0:Int) (99:Int)&&kj d.1.2.1 (0:Int) (9999:Int)&&kj d.1.2.2.1 (1:Int) (2:Int)&&kj d.1.2.2.2.1 (0:Int) ((d.2.1.2.2.1.length:Int)-1)&&kj d.1.q4.1 (0:Int) ((d.2.1.1.2.1.length:Int)-1),())=(K9 (kB d.2.1).length (kC (kE d.2.1)).length d.1,()))
def QA:we:=⟨[.val tDy],[.bool],false,fun _=>[],fun d=>(wE d.1,())⟩
abbrev jgE (d:DyD×Unit):=(kl fun(a:BkD×Unit)=>(Dy (wl d.1).length a.1,()))
abbrev jff (d:DyD×Unit):=((d.1.2.2.1.length:Int)<=4)
abbrev jf8 (d:DyD×Unit):=(↑(wl d.1).length:Int)
abbrev jfB (d:DyD×Unit):=(d.1.2.1.length:Int)
def QB:Prop:=∀(d:DyD×Unit),d.1.2.2.1.length<4611686018427387904->(decide (jff d)=true->d.1.2.1.length<4611686018427387904)->((decide (jff d)&&kj (jfB d) (1:Int) (5:Int))=true->∀(g:List (Int×Int×Unit)),g∈d.1.2.1->kG [∀(b:Int×Int×Unit),b∈g->kG []])/\((decide (jff d)&&kj (jfB d) (1:Int) (5:Int)&&d.1.2.1.all (kl fun(a:List (Int×Int×Unit)×Unit)=>(decide ((a.1.length:Int)=(jf8 d))&&a.1.all (kl fun(c:(Int×Int×Unit)×Unit)=>(uW c.1,())),())))=true->∀(e:BkD),e∈d.1.2.2.1->kG [])/\(((decide (jff d)&&kj (jfB d) (1:Int) (5:Int)&&d.1.2.1.all (kl fun(a:List (Int×Int×Unit)×Unit)=>(decide ((a.1.length:Int)=(jf8 d))&&a.1.all (kl fun(f:(Int×Int×Unit)×Unit)=>(uW f.1,())),()))&&d.1.2.2.1.all (jgE d)&&kj d.1.2.2.2.1 (0:Int) (300:Int)&&kj d.1.q4.1 (0:Int) (1440:Int))=true->d.1.q4.2.1.length<4611686018427387904)->((decide (jff d)&&kj (jfB d) (1:Int) (5:Int)&&d.1.2.1.all (kl fun(a:List (Int×Int×Unit)×Unit)=>(decide ((a.1.length:Int)=(jf8 d))&&a.1.all (kl fun(h:(Int×Int×Unit)×Unit)=>(uW h.1,())),()))&&d.1.2.2.1.all (jgE d)&&kj d.1.2.2.2.1 (0:Int) (300:Int)&&kj d.1.q4.1 (0:Int) (1440:Int)&&decide ((d.1.q4.2.1.length:Int)<=30))=true->∀(i:ShD),i∈d.1.q4.2.1->kG [])/\(decide (jff d)&&kj (jfB d) (1:Int) (5:Int)&&d.1.2.1.all (kl fun(a:List (Int×Int×Unit)×Unit)=>(decide ((a.1.length:Int)=(jf8 d))&&a.1.all (kl fun(u5:(Int×Int×Unit)×Unit)=>(uW u5.1,())),()))&&d.1.2.2.1.all (jgE d)&&kj d.1.2.2.2.1 (0:Int) (300:Int)&&kj d.1.q4.1 (0:Int) (1440:Int)&&decide ((d.1.q4.2.1.length:Int)<=30)&&d.1.q4.2.1.all (kl fun(j:ShD×Unit)=>(K9 (kB d.1).length (kC (kE d.1)).length j.1,())),())=(wE d.1,()))
def xw:we:=⟨[.val .int],[.bool],false,fun _=>[],fun _=>(false,())⟩
def xy:Prop:=∀(d:Int×Unit),(decide (d.1≠d.1),())=(false,())
def rU:we:=⟨[.val .int,.val .int],[.int],false,fun _=>[],fun d=>(bQ d.1 d.2.1,())⟩
abbrev jfg (d:Int×Int×Unit):=(bQ d.1 d.2.1,())
def rV:Prop:=∀(d:Int×Int×Unit),(false=true->(false=true->((0:Int),())=(jfg d))/\(qF->((-1:Int),())=(jfg d)))/\(qF->(false=true->((1:Int),())=(jfg d))/\(qF->(decide (d.1<d.2.1)=true->((-1:Int),())=(jfg d))/\(decide (d.1<d.2.1)=false->(decide (d.2.1<d.1)=true->((1:Int),())=(jfg d))/\(decide (d.2.1<d.1)=false->((0:Int),())=(jfg d)))))
def Hd:we:=⟨[.val (.slice .int)],[.int],false,fun _=>[],fun d=>(vY d.1,())⟩
def He:Ann:=fun r=>match r with
 |3=>some fun σ=>{X:=Nat,sl:=fun i=>[(8,.dat .int (i:Int))],ob:=fun _=>[],inv:=fun i=>i<=(gd (.slice .int) σ 0).length/\∀b:Nat,b<i->nth (gd (.slice .int) σ 0) b=0,mu:=fun i=>(gd (.slice .int) σ 0).length-i}
 |_=>none
def Hf:Prop:=∀(d:List Int×Unit),d.1.length<4611686018427387904->(∃(x:Nat),((0=(x:Int)/\True)/\True)/\x<=d.1.length/\∀(b:Nat),b<x->nth d.1 b=0)/\∀(x:Nat),(x<=d.1.length/\∀(b:Nat),b<x->nth d.1 b=0)->(decide ((x:Int)<d.1.length)=true->0<=(x:Int)/\(x:Int)<d.1.length/\(decide (nth d.1 (x:Int).toNat≠0)=true->(nth d.1 (x:Int).toNat,())=(vY d.1,()))/\(decide (nth d.1 (x:Int).toNat≠0)=false->kM ((x:Int)+1)/\∃(a:Nat),(((x:Int)+1=(a:Int)/\True)/\True)/\(a<=d.1.length/\∀(b:Nat),b<a->nth d.1 b=0)/\d.1.length-a<d.1.length-x))/\(decide ((x:Int)<d.1.length)=false->((0:Int),())=(vY d.1,()))
def CA:we:=⟨[.val tSh,.val tSh],[.int],false,fun _=>[],fun d=>(cw d.1 d.2.1,())⟩
def CB:Prop:=∀(d:ShD×ShD×Unit),(vY [bQ d.1.1 d.2.1.1,bQ d.1.2.1 d.2.1.2.1,bQ d.1.2.2.1 d.2.1.2.2.1,bQ d.1.2.2.2.1 d.2.1.2.2.2.1,bQ d.1.q4.1 d.2.1.q4.1],())=(cw d.1 d.2.1,())
def MQ:we:=⟨[.val tSh,.val tSh],[.int],false,fun _=>[],fun d=>(kK d.1 d.2.1,())⟩
def MR:Prop:=∀(d:ShD×ShD×Unit),(vY [bQ d.1.2.1 d.2.1.2.1,bQ d.1.1 d.2.1.1],())=(kK d.1 d.2.1,())
def tE:qd:=⟨[.val (.slice tSh)],[rwS],fun d=>[d.1.length<=100000],fun d=>((d.1,()),())⟩
def tF:Prop:=∀(d:List ShD×Unit),d.1.length<=100000->∀(β:Bool),(β=true->d.1=[])->(β=true->([],())=d/\()=())/\(β=false->(0+d.1.length)*40<=140737488355328/\([]++d.1,())=d/\()=())
def oY:qd:=⟨[.own rwS false],[rwS],fun d=>[d.1.length<=100000],fun d=>((aF ye d.1,()),())⟩
def oZ:Ann:=fun r=>match r with
 |4=>some fun σ=>{X:=Nat,sl:=fun i=>[(3,.dat .int (i:Int))],ob:=fun _=>[],inv:=fun i=>jaL ye (gr tSh σ 1000000) i,mu:=fun i=>(gr tSh σ 1000000).length-i}
 |9=>some fun σ=>{X:=Nat×List ShD,sl:=fun x=>[(5,.dat .int (x.1:Int)),(3,.dat .int (nT ye (gr tSh σ 1000000) ((gd .int σ 3).toNat+x.1)))],ob:=fun x=>[(1000000,some (.row 75 tSh false .unk x.2))],inv:=fun x=>N8 ye (gr tSh σ 1000000) (gd .int σ 3).toNat x.1 x.2,mu:=fun x=>(gr tSh σ 1000000).length-x.1}
 |_=>none
abbrev jd5 (x:Nat)(a:Nat×List ShD):=((x:Int).toNat+a.1)
abbrev jhf (d:List ShD×Unit)(x:Nat)(a:Nat×List ShD):=(List.take (nT ye d.1 (jd5 x a)).toNat a.2++List.replicate ((a.2.length:Int).toNat-(nT ye d.1 (jd5 x a)).toNat) ((0:Int),(0:Int),(0:Int),(0:Int),(0:Int),()))
abbrev jhg (a:Nat×List ShD)(x:Nat):=(!decide (nth a.2 ((x:Int).toNat+(a.1:Int).toNat)=nth a.2 ((x:Int).toNat+((a.1:Int)-1).toNat)))
abbrev jem (d:List ShD×Unit):=(d.1.length:Int)
abbrev jfC (d:List ShD×Unit)(x:Nat):=(↑((jem d).toNat-(x:Int).toNat):Int)
def o4:Prop:=∀(d:List ShD×Unit),d.1.length<=100000->d.1.length<4611686018427387904->(decide ((jem d)<2)=true->d=(aF ye d.1,())/\()=())/\(decide ((jem d)<2)=false->(∃(x:Nat),((1=(x:Int)/\True)/\True)/\jaL ye d.1 x)/\∀(x:Nat),jaL ye d.1 x->d.1.length<4611686018427387904->(decide ((x:Int)<(jem d))=true->0<=(x:Int)/\(x:Int)<(jem d)/\kM ((x:Int)-1)/\0<=(x:Int)-1/\(x:Int)-1<(jem d)/\(decide (nth d.1 (x:Int).toNat=nth d.1 ((x:Int)-1).toNat)=true->0<=(x:Int)/\(x:Int)<=(jem d)/\(jem d)<=(jem d)/\(∃(a:Nat×List ShD),((1=(a.1:Int)/\(x:Int)=nT ye d.1 (jd5 x a)/\True)/\d.1=a.2/\True)/\N8 ye d.1 (x:Int).toNat a.1 a.2)/\∀(a:Nat×List ShD),N8 ye d.1 (x:Int).toNat a.1 a.2->(jem d).toNat-(x:Int).toNat<4611686018427387904->(decide ((a.1:Int)<(jfC d x))=true->0<=(a.1:Int)/\(a.1:Int)<(jfC d x)/\kM ((a.1:Int)-1)/\0<=(a.1:Int)-1/\(a.1:Int)-1<(jfC d x)/\((jhg a x)=true->0<=(a.1:Int)/\(a.1:Int)<(jfC d x)/\0<=nT ye d.1 (jd5 x a)/\nT ye d.1 (jd5 x a)<(a.2.length:Int)/\kM (nT ye d.1 (jd5 x a)+1)/\kM ((a.1:Int)+1)/\∃(b:Nat×List ShD),(((a.1:Int)+1=(b.1:Int)/\nT ye d.1 (jd5 x a)+1=nT ye d.1 ((x:Int).toNat+b.1)/\True)/\a.2.set (nT ye d.1 (jd5 x a)).toNat (nth a.2 ((x:Int).toNat+(a.1:Int).toNat))=b.2/\True)/\N8 ye d.1 (x:Int).toNat b.1 b.2/\d.1.length-b.1<d.1.length-a.1)/\((jhg a x)=false->kM ((a.1:Int)+1)/\∃(b:Nat×List ShD),((nT ye d.1 (jd5 x a)=nT ye d.1 ((x:Int).toNat+b.1)/\(a.1:Int)+1=(b.1:Int)/\True)/\a.2=b.2/\True)/\N8 ye d.1 (x:Int).toNat b.1 b.2/\d.1.length-b.1<d.1.length-a.1))/\(decide ((a.1:Int)<(jfC d x))=false->0<=nT ye d.1 (jd5 x a)/\nT ye d.1 (jd5 x a)<=(a.2.length:Int)/\(a.2.length:Int)<=a.2.length/\(nT ye d.1 (jd5 x a)).toNat+((a.2.length:Int).toNat-(nT ye d.1 (jd5 x a)).toNat)=a.2.length/\(0:Int)<=0/\0<=nT ye d.1 (jd5 x a)/\nT ye d.1 (jd5 x a)<=(↑(jhf d x a).length:Int)/\(List.take ((nT ye d.1 (jd5 x a)).toNat-Int.toNat 0) (jhf d x a),())=(aF ye d.1,())/\()=()))/\(decide (nth d.1 (x:Int).toNat=nth d.1 ((x:Int)-1).toNat)=false->kM ((x:Int)+1)/\∃(c:Nat),(((x:Int)+1=(c:Int)/\True)/\True)/\jaL ye d.1 c/\d.1.length-c<d.1.length-x))/\(decide ((x:Int)<(jem d))=false->d=(aF ye d.1,())/\()=()))
abbrev mZ:qd:=TC tSh 75
def Hg:qd:=⟨[.val (.slice tSh)],[rwS],fun d=>[d.1.length<=100000],fun d=>((wy d.1,()),())⟩
abbrev jgF:=(ko (Ty.int.pair (Ty.int.pair (Ty.int.pair (Ty.int.pair (Ty.int.pair Ty.unit))))) fun(a:ShD×ShD×Unit)=>(cw a.1 a.2.1,()))
def Hh:Prop:=∀(d:List ShD×Unit),d.1.length<=100000->d.1.length<=100000/\(∀(x:ShD),x∈d.1->∀(y:ShD),y∈d.1->kG [])/\qP jgF d.1/\(km jgF d.1).length<=100000/\(aF ye (km jgF d.1),())=(wy d.1,())/\()=()
def JS:qd:=⟨[.val tSh,.own (.box 195 [.map .int .int]) true],[.cl (.dat .bool)],fun d=>[VN d.2.1.1],fun d=>((Pz d.2.1.1 d.1,()),((mO d.2.1.1 d.1,()),()))⟩
abbrev jgG (d:ShD×(List (Int×Int)×Unit)×Unit):=(kW (0:Int) (kL Ty.int d.1.1 d.2.1.1)+1)
def JT:Prop:=∀(d:ShD×(List (Int×Int)×Unit)×Unit),VN d.2.1.1->kM (jgG d)/\(decide (1<kW (0:Int) (kL Ty.int d.1.1 (eK Ty.int d.1.1 (jgG d) d.2.1.1))),())=(Pz d.2.1.1 d.1,())/\((eK Ty.int d.1.1 (jgG d) d.2.1.1,()),())=((mO d.2.1.1 d.1,()),())
abbrev clV:Sh:= .fbox 148 195 [.map .int .int]
def dF:qd:=⟨[.val (.slice tSh),.own clV true],[.cl (.dat .int)],fun d=>[d.1.length<=100000,jcd d.2.1.1],fun d=>((l7 d.2.1.1 d.1,()),((pv d.2.1.1 d.1,()),()))⟩
def dG:Ann:=fun r=>match r with
 |2=>some fun σ=>{X:=Nat,sl:=fun i=>[(8,.dat .int (i:Int))],ob:=fun i=>[(400020,some (.map false .int .int (vH [] (gd (.slice tSh) σ 0) i)))],inv:=fun i=>i<=(gd (.slice tSh) σ 0).length/\∀b:Nat,b<i->sL [] (gd (.slice tSh) σ 0) b=false,mu:=fun i=>(gd (.slice tSh) σ 0).length-i}
 |_=>none
def dH:Prop:=∀(d:List ShD×(List (Int×Int)×Unit)×Unit),d.1.length<=100000->jcd d.2.1.1->d.1.length<4611686018427387904->(∃(x:Nat),((0=(x:Int)/\True)/\d.2.1.1=vH [] d.1 x/\True)/\x<=d.1.length/\∀(b:Nat),b<x->sL [] d.1 b=false)/\∀(x:Nat),(x<=d.1.length/\∀(b:Nat),b<x->sL [] d.1 b=false)->(decide ((x:Int)<d.1.length)=true->0<=(x:Int)/\(x:Int)<d.1.length/\VN (vH [] d.1 x)/\(Pz (vH [] d.1 x) (nth d.1 (x:Int).toNat)=true->((x:Int),())=(l7 d.2.1.1 d.1,())/\((mO (vH [] d.1 x) (nth d.1 (x:Int).toNat),()),())=((pv d.2.1.1 d.1,()),()))/\(Pz (vH [] d.1 x) (nth d.1 (x:Int).toNat)=false->kM ((x:Int)+1)/\∃(a:Nat),(((x:Int)+1=(a:Int)/\True)/\(True/\True)/\mO (vH [] d.1 x) (nth d.1 (x:Int).toNat)=vH [] d.1 a/\True)/\(a<=d.1.length/\∀(b:Nat),b<a->sL [] d.1 b=false)/\d.1.length-a<d.1.length-x))/\(decide ((x:Int)<d.1.length)=false->((-1:Int),())=(l7 d.2.1.1 d.1,())/\((vH [] d.1 x,()),())=((pv d.2.1.1 d.1,()),()))
def bB:qd:=⟨[.val (.slice tSh),.own clV true],[.cl (.dat .bool)],fun d=>[d.1.length<=100000,jcd d.2.1.1],fun d=>((decide (0<=l7 d.2.1.1 d.1),()),((pv d.2.1.1 d.1,()),()))⟩
def bC:Prop:=∀(d:List ShD×(List (Int×Int)×Unit)×Unit),d.1.length<=100000->jcd d.2.1.1->d.1.length<=100000/\jcd d.2.1.1/\(decide (0<=l7 d.2.1.1 d.1),())=(decide (0<=l7 d.2.1.1 d.1),())/\((pv d.2.1.1 d.1,()),())=((pv d.2.1.1 d.1,()),())
def QC:we:=⟨[.val (.slice tSh)],[.bool],false,fun d=>[d.1.length<=100000],fun d=>(Sb d.1,())⟩
def QD:Prop:=∀(d:List ShD×Unit),d.1.length<=100000->d.1.length<=100000/\jcd []/\(decide (0<=l7 [] d.1),())=(Sb d.1,())
def D5:we:=⟨[.val tDy],[.int],false,fun _=>[],fun d=>(uo d.1,())⟩
def D6:Ann:=fun r=>match r with
 |5=>some fun σ=>{X:=Nat,sl:=fun i=>[(17,.dat .int (i:Int))],ob:=fun _=>[],inv:=fun i=>i<=(gd (.slice tBk) σ 15).length/\∀b:Nat,b<i->wY (kE (gd tDy σ 0)) (yV (nth (gd (.slice tBk) σ 15) b))=true,mu:=fun i=>(gd (.slice tBk) σ 15).length-i}
 |_=>none
abbrev jgH:=((0:Int),(1:Int),(0:Int),(0:Int),(0:Int),(1:Int),())
def D7:Prop:=∀(d:DyD×Unit),(decide (qr d.1.1 jgH≠0)=true->(qr d.1.1 jgH,())=(uo d.1,()))/\(decide (qr d.1.1 jgH≠0)=false->d.1.2.2.1.length<4611686018427387904->(∃(x:Nat),((0=(x:Int)/\True)/\True)/\x<=d.1.2.2.1.length/\∀(b:Nat),b<x->wY (kE d.1) (yV (nth d.1.2.2.1 b))=true)/\∀(x:Nat),(x<=d.1.2.2.1.length/\∀(b:Nat),b<x->wY (kE d.1) (yV (nth d.1.2.2.1 b))=true)->(decide ((x:Int)<d.1.2.2.1.length)=true->0<=(x:Int)/\(x:Int)<d.1.2.2.1.length/\(decide (qr d.1.1 (nth d.1.2.2.1 (x:Int).toNat).1≠0)=true->(qr d.1.1 (nth d.1.2.2.1 (x:Int).toNat).1,())=(uo d.1,()))/\(decide (qr d.1.1 (nth d.1.2.2.1 (x:Int).toNat).1≠0)=false->kM ((x:Int)+1)/\∃(a:Nat),(((x:Int)+1=(a:Int)/\True)/\True)/\(a<=d.1.2.2.1.length/\∀(b:Nat),b<a->wY (kE d.1) (yV (nth d.1.2.2.1 b))=true)/\d.1.2.2.1.length-a<d.1.2.2.1.length-x))/\(decide ((x:Int)<d.1.2.2.1.length)=false->((0:Int),())=(uo d.1,())))
def QE:we:=⟨[.val tDy],[.int],false,fun d=>[(kX d.1).length<=100000],fun d=>(wm d.1,())⟩
def QF:Prop:=∀(d:DyD×Unit),(kX d.1).length<=100000->(decide (uo d.1≠0)=true->(uo d.1,())=(wm d.1,()))/\(decide (uo d.1≠0)=false->((!wE d.1)=true->((50:Int),())=(wm d.1,()))/\((!wE d.1)=false->d.1.q4.2.1.length<=100000/\(wy d.1.q4.2.1).length<=100000/\(Sb (wy d.1.q4.2.1)=true->((51:Int),())=(wm d.1,()))/\(Sb (wy d.1.q4.2.1)=false->((0:Int),())=(wm d.1,()))))
theorem QG:MP:=by
 intro d;rfl
theorem o6:wo PR 142 MO:=wb QG Tryz.func142 kcN koN
theorem o7:mW:=by
 rintro⟨l,f,⟨⟩⟩ a g;refine⟨⟨0,⟨⟨rfl,tZ⟩,tZ⟩,jv _,fun b c=>by omega⟩,fun i hi=>⟨fun h=> ?_,fun h=> ?_⟩⟩;have h:i<l.length:=(by simpa using h);simp only[ju] at*;refine⟨by omega,by omega,qJ _ (a _ (L.kw h)) ⟨fun c=> ?_,fun c=>⟨iZ6,i+1,⟨⟨by simp,tZ⟩,tZ⟩,⟨by omega,fun b d=> ?_⟩,by omega⟩⟩⟩;rw[vK (p:=kl (α:=SpD) f.F) h hi.2 c];by_cases e:b=i;subst e;exact c;exact hi.2 b (by omega);have h:l.length<=i:=(by simpa using h);rw[qt (p:=kl (α:=SpD) f.F) h hi.2]
theorem m0:wo PR 217 mU:=q7 mV o7 Tryz.func217 kcN koN
theorem iH:fE:=by
 rintro⟨l,f,⟨⟩⟩ a;refine⟨a,?_⟩;exact jR (·,()) (fB (kl (α:=SpD) f.F) l)
theorem fI:wo PR 179 fD:=wb iH Tryz.func179 (kcC m0 kcN) koN
theorem m9:lJ:=by
 rintro⟨l,f,⟨⟩⟩ a g;refine⟨⟨0,⟨⟨rfl,tZ⟩,tZ⟩,jv _,fun b c=>by omega⟩,fun i hi=>⟨fun h=> ?_,fun h=> ?_⟩⟩;have h:i<l.length:=(by simpa using h);simp only[ju] at*;refine⟨by omega,by omega,qJ _ (a _ (L.kw h)) ⟨fun c=> ?_,fun c=>⟨iZ6,i+1,⟨⟨by simp,tZ⟩,tZ⟩,⟨by omega,fun b d=> ?_⟩,by omega⟩⟩⟩;rw[vK (p:=kl (α:=(List SpD)) f.F) h hi.2 c];by_cases e:b=i;subst e;exact c;exact hi.2 b (by omega);have h:l.length<=i:=(by simpa using h);rw[qt (p:=kl (α:=(List SpD)) f.F) h hi.2]
theorem lN:wo PR 218 lH:=q7 lI m9 Tryz.func218 kcN koN
theorem fJ:dC:=by
 rintro⟨l,f,⟨⟩⟩ a;refine⟨a,?_⟩;exact jR (·,()) (fB (kl (α:=(List SpD)) f.F) l)
theorem dI:wo PR 181 dB:=wb fJ Tryz.func181 (kcC lN kcN) koN
theorem iI:fH:=by
 rintro⟨l,f,⟨⟩⟩ a g;refine⟨⟨0,⟨⟨rfl,tZ⟩,tZ⟩,jv _,fun b c=>by omega⟩,fun i hi=>⟨fun h=> ?_,fun h=> ?_⟩⟩;have h:i<l.length:=(by simpa using h);simp only[ju] at*;refine⟨by omega,by omega,qJ _ (a _ (L.kw h)) ⟨fun c=> ?_,fun c=>⟨iZ6,i+1,⟨⟨by simp,tZ⟩,tZ⟩,⟨by omega,fun b d=> ?_⟩,by omega⟩⟩⟩;rw[vK (p:=kl (α:=BkD) f.F) h hi.2 c];by_cases e:b=i;subst e;exact c;exact hi.2 b (by omega);have h:l.length<=i:=(by simpa using h);rw[qt (p:=kl (α:=BkD) f.F) h hi.2]
theorem fK:wo PR 219 fF:=q7 fG iI Tryz.func219 kcN koN
theorem cK:bV:=by
 rintro⟨l,f,⟨⟩⟩ a;refine⟨a,?_⟩;exact jR (·,()) (fB (kl (α:=BkD) f.F) l)
theorem bW:wo PR 183 bU:=wb cK Tryz.func183 (kcC fK kcN) koN
theorem na:lM:=by
 rintro⟨l,f,⟨⟩⟩ a g;refine⟨⟨0,⟨⟨rfl,tZ⟩,tZ⟩,jv _,fun b c=>by omega⟩,fun i hi=>⟨fun h=> ?_,fun h=> ?_⟩⟩;have h:i<l.length:=(by simpa using h);simp only[ju] at*;refine⟨by omega,by omega,qJ _ (a _ (L.kw h)) ⟨fun c=> ?_,fun c=>⟨iZ6,i+1,⟨⟨by simp,tZ⟩,tZ⟩,⟨by omega,fun b d=> ?_⟩,by omega⟩⟩⟩;rw[vK (p:=kl (α:=ShD) f.F) h hi.2 c];by_cases e:b=i;subst e;exact c;exact hi.2 b (by omega);have h:l.length<=i:=(by simpa using h);rw[qt (p:=kl (α:=ShD) f.F) h hi.2]
theorem lO:wo PR 186 lK:=q7 lL na Tryz.func186 kcN koN
theorem fL:dE:=by
 rintro⟨l,f,⟨⟩⟩ a;refine⟨a,?_⟩;exact jR (·,()) (fB (kl (α:=ShD) f.F) l)
theorem dJ:wo PR 147 dD:=wb fL Tryz.func147 (kcC lO kcN) koN
theorem xz:tD:=by
 intro d h;exact qJ _ h rfl
theorem tG:wo PR 180 tC:=wb xz Tryz.func180 kcN koN
theorem D8:Cz:=by
 intro d h;exact⟨fun g a=>⟨h g a,tZ⟩,jR (·,()) (rG d.snd.fst.2 d.fst)⟩
theorem CC:wo PR 140 Cy:=wb D8 Tryz.func140 (kcC fI (kcC tG kcN)) koN
theorem tH:rP:=by
 intro d h;exact qJ _ h rfl
theorem rW:wo PR 182 rO:=wb tH Tryz.func182 kcN koN
theorem CD:xt:=by
 intro d h;exact⟨fun g a=>⟨h g a,tZ⟩,jR (·,()) (rG d.snd.fst.2 d.fst)⟩
theorem xA:wo PR 144 xr:=wb CD Tryz.func144 (kcC dI (kcC rW kcN)) koN
theorem o8:mY:=by
 intro d h;exact qJ _ h rfl
theorem nc:wo PR 184 mX:=wb o8 Tryz.func184 kcN koN
theorem tI:rR:=by
 intro d h;exact⟨fun g a=>⟨h g a,tZ⟩,jR (·,()) (rG d.snd.fst.2 d.fst)⟩
theorem rX:wo PR 145 rQ:=wb tI Tryz.func145 (kcC bW (kcC nc kcN)) koN
theorem tJ:rT:=by
 intro d h;exact qJ _ h rfl
theorem rY:wo PR 185 rS:=wb tJ Tryz.func185 kcN koN
theorem CE:xv:=by
 intro d h;exact⟨fun g a=>⟨h g a,tZ⟩,jR (·,()) (rG d.snd.fst.2 d.fst)⟩
theorem xB:wo PR 146 xu:=wb CE Tryz.func146 (kcC dJ (kcC rY kcN)) koN
theorem MS:JL:=fun _=>rfl
theorem JU:wo PR 138 JK:=wb MS Tryz.func138 kcN koN
theorem MT:JN:=by
 rintro⟨l,d,f,⟨⟩⟩ a _ _;exact⟨fun _=>a,rfl⟩
theorem JV:wo PR 139 JM:=wb MT Tryz.func139 (kcC CC kcN) koN
theorem MU:JP:=by
 rintro⟨b,d,⟨⟩⟩ h;have h:(wl d).length<4611686018427387904:=h;exact⟨L.EQ (by show _<=((wl d).length:Int)-1;omega) (by show((wl d).length:Int)-1<=_;omega),rfl⟩
theorem JW:wo PR 141 JO:=wb MU Tryz.func141 (kcC o6 kcN) koN
theorem MV:JR:=by
 unfold JR jhe jhd Prod.q4;rintro⟨s,d,⟨⟩⟩ h;refine⟨fun a=> ?_,fun b=>⟨fun a=> ?_,rfl⟩⟩;have h:=h a;exact L.EQ (by simp only at*;omega) (by simp only at*;omega);have h:=b a;exact L.EQ (by simp only at*;omega) (by simp only at*;omega)
theorem JX:wo PR 143 JQ:=wb MV Tryz.func143 (kcC o6 kcN) koN
theorem W3 (s:SpD):uW s=sG s:=by
 unfold uW sG;rw[j6];simp only[ji,jr];omega
theorem W4 (n:Nat) (b:BkD):Dy n b=iQ n b:=by
 unfold Dy iQ kj;rw[j6];simp only[ji,jr];omega
theorem W5 (nb a:Nat) (s:ShD):K9 nb a s=d6 nb a s:=by
 unfold K9 d6 kj;rw[j6];simp only[ji,jr];omega
theorem W6 (d:DyD):(((((((decide (((kB d).length:Int)<=4)&&kj ((wl d).length:Int) 1 5)&&(wl d).all (fun r=>decide ((r.length:Int)=(wl d).length)&&r.all sG))&&(kB d).all (iQ (wl d).length))&&kj (K5 d) 0 300)&&kj (X5 d) 0 1440)&&decide (((kX d).length:Int)<=30))&&(kX d).all (d6 (kB d).length (kC (kE d)).length))=wE d:=by
 unfold wE;have e:(fun(r:List SpD)=>decide ((r.length:Int)=(wl d).length)&&r.all sG)=aM (wl d).length:=by
  funext r;unfold aM;congr 1;exact decide_eq_decide.2 (by omega)
 rw[e];cases (wl d).all (aM (wl d).length)<;>cases (kB d).all (iQ (wl d).length)<;>cases (kX d).all (d6 (kB d).length (kC (kE d)).length)<;>simp only[Bool.and_false,Bool.and_true,Bool.false_and,kj]
 rw[j6];simp only[ji,jr];omega
theorem T8:QB:=by
 unfold QB jfB jf8 jff jgE Prod.q4;rintro⟨d,⟨⟩⟩ _ _;refine⟨fun _ _ _=>⟨fun _ _=>tZ,tZ⟩,fun _ _ _=>tZ,fun _=>⟨fun _ _ _=>tZ,?_⟩⟩;have a:(kl fun(x:SpD×Unit)=>(uW x.fst,()))=sG:=funext W3;have e2:(kl fun(x:BkD×Unit)=>(Dy (wl d).length x.fst,()))=iQ (wl d).length:=funext (W4 _);have b:(kl fun(x:ShD×Unit)=>(K9 (kB d).length (kC (kE d)).length x.fst,()))=d6 (kB d).length (kC (kE d)).length:=funext (W5 _ _);simp only;rw[a,e2,b];exact jR (·,()) (W6 d)
theorem QH:wo PR 102 QA:=wb T8 Tryz.func102 (kcC o6 (kcC JU (kcC JV (kcC JW (kcC JX (kcC xA (kcC rX (kcC xB kcN)))))))) koN
theorem CF:xy:=by
 intro d;simp
theorem xC:wo PR 94 xw:=wb CF Tryz.func94 kcN koN
theorem tK:rV:=by
 unfold rV jfg;rintro⟨a,b,⟨⟩⟩;refine⟨fun h=>(by cases h),fun _=>⟨fun h=>(by cases h),fun _=>⟨fun h=> ?_,fun h=>⟨fun c=> ?_,fun c=> ?_⟩⟩⟩⟩;have h:a<b:=ja h;simp only;unfold bQ;rw[je h];have h:¬a<b:=jd h;have c:b<a:=ja c;simp only;unfold bQ;rw[jc h,je c];have h:¬a<b:=jd h;have c:¬b<a:=jd c;simp only;unfold bQ;rw[jc h,jc c]
theorem vV:wo PR 65 rU:=wb tK Tryz.func65 (kcC xC kcN) koN
theorem QI {l:List Int} {i:Nat} (h:i<l.length) (a:∀b:Nat,b<i->nth l b=0) (hi:nth l i≠0):vY l=nth l i:=by
 have e:l.find? (fun n=>decide (n≠0))=some (nth l i):=by
  rw[List.find?_eq_some_iff_getElem];refine⟨jJ hi,i,h,by rw[L.wD h],fun j c=> ?_⟩;have:=a j c;rw[L.wD (by omega)] at this;simp[this]
 unfold vY;rw[e]
theorem JY {l:List Int} (a:∀b:Nat,b<l.length->nth l b=0):vY l=0:=by
 have e:l.find? (fun n=>decide (n≠0))=none:=by
  rw[List.find?_eq_none];intro x c;obtain⟨i,hi,rfl⟩:=L.mem_iff.1 c;simp[a i hi]
 unfold vY;rw[e]
theorem JZ:Hf:=by
 rintro⟨l,⟨⟩⟩ f;refine⟨⟨0,⟨⟨rfl,tZ⟩,tZ⟩,jv _,fun b c=>by omega⟩,fun x d=>⟨fun h=> ?_,fun h=> ?_⟩⟩;have h:x<l.length:=(by simpa using h);simp only[ju];refine⟨by omega,by omega,fun a=> ?_,fun a=>⟨L.EQ (by omega) (by simp only at f;omega),x+1,⟨⟨by simp,tZ⟩,tZ⟩,⟨h,fun b c=> ?_⟩,by omega⟩⟩;rw[QI h d.2 (ja a)];by_cases e:b=x;subst e;exact jM.1 (jd a);exact d.2 b (by omega);have h:l.length<=x:=(by simpa using h);rw[JY (fun b c=>d.2 b (by simp only at c;omega))]
theorem aQ:wo PR 64 Hd:=q7 He JZ Tryz.func64 kcN koN
theorem D9:CB:=fun _=>rfl
theorem CG:wo PR 150 CA:=wb D9 Tryz.func150 (kcC vV (kcC aQ kcN)) koN
theorem QJ:MR:=fun _=>rfl
theorem MW:wo PR 108 MQ:=wb QJ Tryz.func108 (kcC vV (kcC aQ kcN)) koN
theorem xD:tF:=by
 rintro⟨l,⟨⟩⟩ b β a;have b:l.length<=100000:=b;refine⟨fun h=>⟨?_,rfl⟩,fun _=>⟨by simp only;omega,by simp,rfl⟩⟩;have:l=[]:=a h;rw[this]
theorem tL:yS PR 149 tE:=Ca xD Tryz.func149 kcN koN
theorem rZ:o4:=by
 unfold o4 jfC jem jhg jhf jd5;rintro⟨l,⟨⟩⟩ m C;have m:l.length<=100000:=m;obtain⟨eq,k⟩:∃eq,eq=ye:=⟨_,rfl⟩;have A:∀a b:ShD,decide (a=b)=eq a b:=fun a b=>by rw[k];rfl
 simp only[<-k,A,ju];refine⟨fun h=>⟨?_,tZ⟩,fun h=> ?_⟩;have h:(l.length:Int)<2:=ja h;rw[L.comp_short (by omega)];have h:¬(l.length:Int)<2:=jd h;refine⟨⟨1,⟨⟨rfl,tZ⟩,tZ⟩,jj _,by omega,?_⟩,fun i hi _=>⟨fun g=> ?_,fun g=>⟨?_,tZ⟩⟩⟩;rw[L.comp_short];rw[jX];omega;have g:(i:Int)<l.length:=ja g;obtain⟨s,D,f⟩:=hi;have z:((i:Int)-1).toNat=i-1:=(by omega);rw[z];have n:=L.comp_take (eq:=eq) (l:=l) s (by omega:i<l.length);refine⟨by omega,g,by unfold kM;omega,by omega,by omega,fun j=>⟨by omega,by omega,zK _,⟨(1,l),⟨⟨rfl,?_,tZ⟩,rfl,tZ⟩,jj _,by omega,rfl,?_,rfl,?_⟩,fun x q _=>⟨fun e=> ?_,fun e=> ?_⟩⟩,fun j=>⟨iZ6,i+1,⟨⟨by simp,tZ⟩,tZ⟩,⟨by omega,by omega,?_⟩,by omega⟩⟩;unfold nT;rw[n,je j,j9,f,jX];omega;rw[n,je j,j9,f,jX];show l.take i=l.take (min i l.length);congr 1;omega;rw[n,je j,j9,f,jX];omega;have e:(x.1:Int)<((l.length-i:Nat):Int):=ja e;have r:=q;obtain⟨G,H,I,v,J,w⟩:=r;obtain⟨E,F⟩:=L.inv9_next s q (by omega);have y:((x.1:Int)-1).toNat=x.1-1:=(by omega);have o:i+(x.1-1)=i+x.1-1:=(by omega);rw[y,o];have p:nT eq l (i+x.1)=((aF eq (l.take (i+x.1))).length:Int):=rfl;refine⟨by omega,e,by unfold kM;omega,by omega,by omega,fun c=> ?_,fun c=> ?_⟩;have c:eq (nth x.2 (i+x.1)) (nth x.2 (i+x.1-1))=false:=(by simpa using c);obtain⟨t,u⟩:=E c;refine⟨by omega,e,by omega,by omega,by unfold kM;omega,iZ6,(x.1+1,_),⟨⟨by simp,t.symm,tZ⟩,rfl,tZ⟩,u,by show _-(x.1+1)<_;omega⟩;have c:eq (nth x.2 (i+x.1)) (nth x.2 (i+x.1-1))=true:=(by simpa using c);obtain⟨t,u⟩:=F c;exact⟨iZ6,(x.1+1,x.2),⟨⟨t.symm,by simp,tZ⟩,rfl,tZ⟩,u,by show _-(x.1+1)<_;omega⟩;have e:¬(x.1:Int)<((l.length-i:Nat):Int):=jd e;obtain⟨G,H,I,v,J,w⟩:=q;have p:nT eq l (i+x.1)=((aF eq (l.take (i+x.1))).length:Int):=rfl;have d:l.take (i+x.1)=l:=zA (by omega);rw[d] at p v w;rw[p];simp only[ju];have B:=L.comp_len (eq:=eq) l;refine⟨by omega,by omega,zK _,by omega,by omega,by omega,?_,⟨?_,tZ⟩⟩;simp only[jI,jX,j7];omega;congr 1;rw[show(aF eq l).length-Int.toNat 0=(aF eq l).length from rfl];rw[List.take_left' (by rw[jX];omega)];exact v.symm;rw[n,jc (by rw[j];simp),f];exact(L.k8 (by omega)).symm;have g:¬(i:Int)<l.length:=jd g;obtain⟨s,D,f⟩:=hi;have d:l.take i=l:=zA (by omega);rw[d] at f;rw[f]
theorem o9:yS PR 151 oY:=uO oZ rZ Tryz.func151 kcN koN
theorem aK:yS PR 107 mZ:=
 B9 Tryz.sortSh 75 rfl (jy (by kernel_rfl)) Tryz.isAgg75 Tryz.sizeOf75 (qC Tryz.func107 (c:=wt Tryz.f107) (by kernel_rfl) (by kernel_rfl))
theorem W7:fC cw:=by
 have e:cw=R8 (fun a b=>bQ (yc a) (yc b)) (R8 (fun a b=>bQ (Ip a) (Ip b)) (R8 (fun a b=>bQ (V4 a) (V4 b)) (R8 (fun a b=>bQ (K4 a) (K4 b)) (fun a b=>bQ (nU a) (nU b))))):=by
  funext a b;unfold cw;simp only[ww,R8]
  split<;>(try rfl);split<;>(try rfl);split<;>(try rfl);split<;>(try rfl);split<;>(try rfl)
  rename_i h;exact(jM.1 h).symm
 rw[e];exact oX (nO lG yc) (oX (nO lG Ip) (oX (nO lG V4) (oX (nO lG K4) (nO lG nU))))
theorem QK {a b:ShD} (h:cw a b=0):a=b:=by
 unfold cw at h;rw[ww] at h
 split at h
 contradiction;rename_i c;rw[ww] at h
 split at h
 contradiction;rename_i d;rw[ww] at h
 split at h
 contradiction;rename_i e;rw[ww] at h
 split at h
 contradiction;rename_i f;rw[qD] at h;have c:=gS.1 (jM.1 c);have d:=gS.1 (jM.1 d);have e:=gS.1 (jM.1 e);have f:=gS.1 (jM.1 f);have g:=gS.1 h;obtain⟨i,j,k,l,m,⟨⟩⟩:=a;obtain⟨n,o,p,q,r,⟨⟩⟩:=b;have c:i=n:=c;have d:j=o:=d;have e:k=p:=e;have f:l=q:=f;have g:m=r:=g;rw[c,d,e,f,g]
theorem W8 (l:List ShD):qP (ko tSh fun x=>(cw x.1 x.2.1,())) l:=AF W7 (fun _ _ _ _ h=>QK h)
theorem T9 (l:List ShD):(wy l).length<=l.length:=by
 unfold wy;refine jE (L.comp_len _) ?_;rw[(wq l).length_eq];exact jj _
theorem J0:Hh:=by
 unfold Hh jgF;rintro⟨l,⟨⟩⟩ a;exact⟨a,fun _ _ _ _=>tZ,W8 l,by rw[(wq (lt:=ko tSh fun x=>(cw x.1 x.2.1,())) l).length_eq];exact a,rfl,rfl⟩
theorem r8:yS PR 104 Hg:=Ca J0 Tryz.func104 (kcC CG kcN) (koC tL (koC aK (koC o9 koN)))
theorem MX:JT:=by
 unfold JT jgG;rintro⟨s,⟨m,⟨⟩⟩,⟨⟩⟩ h;have h:VN m:=h;have:=h (yc s);have this:0<=kW 0 (kL .int s.1 m)/\kW 0 (kL .int s.1 m)<=200000:=this;exact⟨L.EQ (by simp only;omega) (by simp only;omega),rfl,rfl⟩
theorem J1:yS PR 148 JS:=Ca MX Tryz.func148 kcN koN
theorem dK {m:List (Int×Int)} {l:List ShD} {i:Nat} (h:i<l.length):vH m l (i+1)=mO (vH m l i) (nth l i):=by
 unfold vH;rw[L.k8 h,jT];rfl
theorem Yz (l:List ShD):∀i,i<=l.length->∀k,0<=kW 0 (kL .int k (vH [] l i))/\kW 0 (kL .int k (vH [] l i))<=(i:Int)
 |0,_,k=>⟨zK 0,zK 0⟩
 |i+1,hi,k=>by
  have b:=Yz l i (by omega)
  rw[dK (by omega)]
  unfold mO
  by_cases e:k=yc (nth l i)
  rw[e]
  have a:=M.pC (kt:= .int) (yc (nth l i)) (kW 0 (kL .int (yc (nth l i)) (vH [] l i))+1) (vH [] l i)
  rw[a]
  have:=b (yc (nth l i))
  show 0<=kW 0 (kL .int (yc (nth l i)) (vH [] l i))+1/\kW 0 (kL .int (yc (nth l i)) (vH [] l i))+1<=_
  omega
  have a:=M.cT (kt:= .int) (k:=yc (nth l i)) (k':=k) e (kW 0 (kL .int (yc (nth l i)) (vH [] l i))+1) (vH [] l i)
  rw[a]
  have:=b k
  omega
theorem W9 {m:List (Int×Int)} {l:List ShD} {i:Nat} (h:i<l.length) (a:∀b:Nat,b<i->sL m l b=false) (hi:sL m l i=true):l7 m l=(i:Int)/\VM m l=i+1:=by
 have e:(List.range l.length).findIdx? (sL m l)=some i:=by
  rw[zZ];refine⟨by simpa using h,by simpa using hi,fun j c=>by simp[a j c]⟩
 unfold l7 VM yg;rw[e];exact⟨rfl,rfl⟩
theorem FG {m:List (Int×Int)} {l:List ShD} (a:∀b:Nat,b<l.length->sL m l b=false):l7 m l= -1/\VM m l=l.length:=by
 have e:(List.range l.length).findIdx? (sL m l)=none:=by
  rw[List.findIdx?_eq_none_iff];intro x c;exact a x (jC.1 c)
 unfold l7 VM yg;rw[e];exact⟨rfl,rfl⟩
theorem fM:dH:=by
 rintro⟨l,⟨m,⟨⟩⟩,⟨⟩⟩ j f n;have f:m=[]:=f;subst f;have j:l.length<=100000:=j;refine⟨⟨0,⟨⟨rfl,tZ⟩,rfl,tZ⟩,jv _,fun b i=>by omega⟩,fun x a=>⟨fun h=> ?_,fun h=> ?_⟩⟩;have h:x<l.length:=(by simpa using h);simp only[ju];refine⟨by omega,by omega,fun k=> ?_,fun d=> ?_,fun d=>⟨iZ6,x+1,⟨⟨by simp,tZ⟩,⟨tZ,tZ⟩,(dK h).symm,tZ⟩,⟨h,fun b i=> ?_⟩,by omega⟩⟩;have:=Yz l x (by omega) k;omega;obtain⟨c,e2⟩:=W9 h a.2 d;unfold pv;rw[c,e2,dK h];exact⟨rfl,rfl⟩;by_cases e:b=x;subst e;exact d;exact a.2 b (by omega);have h:l.length<=x:=(by simpa using h);obtain⟨c,e2⟩:=FG (m:=[]) (l:=l) (fun b i=>a.2 b (by omega));have g:x=l.length:=(by have:=a.1;simp only at this;omega);unfold pv;rw[c,e2,g];exact⟨rfl,rfl⟩
theorem dL:yS PR 186 dF:=uO dG fM Tryz.func186 kcN (koC J1 koN)
theorem bX:bC:=fun _ a b=>⟨a,b,rfl,rfl⟩
theorem bD:yS PR 147 bB:=Ca bX Tryz.func147 kcN (koC dL koN)
theorem Ua:QD:=fun _ h=>⟨h,rfl,rfl⟩
theorem QL:wo PR 103 QC:=wb Ua Tryz.func103 kcN (koC bD koN)
theorem Xa {c:CrD} (h:kU c=true):wY c (0,1,0,0,0,1,())=true:=by
 obtain⟨a,_⟩:=w7 h;unfold wY;refine jJ ?_;refine⟨by decide,?_,by decide,?_,by decide,by decide,by decide,by decide,by decide,by decide,by decide,by decide,by decide⟩;show(0:Int)<=U.la c-1;omega;show(1:Int)<=U.la c-1;omega
theorem Ub (c:CrD):qr c (0,1,0,0,0,1,())=if kU c=false then 30 else 0:=by
 unfold qr;by_cases h:kU c=false;rw[je h,je h];rw[jc h,jc h,jc (by rw[Xa (by simpa using h)];simp)]
theorem Hi:D7:=by
 unfold D7 jgH;rintro⟨d,⟨⟩⟩;have e:=Ub d.1;simp only[e];by_cases f:kU d.1=false;rw[je f];refine⟨fun _=> ?_,fun h=>by simp at h⟩;have f:kU (kE d)=false:=f;unfold uo;rw[je f];rw[jc f];have c:kU (kE d)=true:=eq_true_of_ne_false f;refine⟨fun h=>by simp at h,fun _ k=>⟨⟨0,⟨⟨rfl,tZ⟩,tZ⟩,jv _,fun b j=>by omega⟩,fun x l=>⟨fun h=> ?_,fun h=> ?_⟩⟩⟩;have h:(x:Int)<(kB d).length:=ja h;have h:x<(kB d).length:=(by omega);have k:(kB d).length<4611686018427387904:=k;have e2:qr d.1 (nth d.2.2.1 x).1=if wY (kE d) (yV (nth (kB d) x))=false then 31 else 0:=by
  show(if kU (kE d)=false then(30:Int) else if wY (kE d) (yV (nth (kB d) x))=false then 31 else 0)=_;rw[jc (by rw[c];simp)]
 simp only[ju,e2];refine⟨by omega,by show(x:Int)<(kB d).length;omega,fun a=> ?_,fun a=>⟨iZ6,x+1,⟨⟨by simp,tZ⟩,tZ⟩,⟨h,fun b j=> ?_⟩,(by show(kB d).length-(x+1)<(kB d).length-x;omega)⟩⟩;have a:=ja a;by_cases g:wY (kE d) (yV (nth (kB d) x))=false;rw[je g];unfold uo;rw[jc (by rw[c];simp),je];unfold K6;exact L.all_false h g;rw[jc g] at a;exact absurd rfl a;have a:=jd a;by_cases m:b=x;subst m;by_cases g:wY (kE d) (yV (nth (kB d) b))=false;rw[je g] at a;exact absurd (by decide) a;exact eq_true_of_ne_false g;exact l.2 b (by omega);have h:¬(x:Int)<(kB d).length:=jd h;have h:(kB d).length<=x:=(by omega);unfold uo;rw[jc (by rw[c];simp),jc];rw[Bool.not_eq_false];unfold K6;rw[jV];intro b j;obtain⟨i,hi,rfl⟩:=L.mem_iff.1 j;exact l.2 i (by omega)
theorem Ea:wo PR 101 D5:=q7 D6 Hi Tryz.func101 (kcC FB kcN) koN
theorem Uc:QF:=by
 unfold QF Prod.q4;rintro⟨d,⟨⟩⟩ c;refine⟨fun h=> ?_,fun h=>⟨fun b=> ?_,fun b=>⟨c,jE (T9 _) c,fun a=> ?_,fun a=> ?_⟩⟩⟩;have h:=ja h;simp only at h⊢;unfold wm;rw[je h];have h:=jd h;simp only at h⊢;unfold wm;rw[jc h,je (by simpa using b)];have h:=jd h;simp only at h⊢;unfold wm;rw[jc h,jc (by simpa using b)];have a:Sb (wy (kX d))=true:=a;rw[je a];have h:=jd h;simp only at h⊢;unfold wm;rw[jc h,jc (by simpa using b)];have a:Sb (wy (kX d))=false:=a;rw[jc (by rw[a];simp)]
theorem FH:wo PR 73 QE:=wb Uc Tryz.func73 (kcC Ea (kcC QH (kcC QL kcN))) (koC r8 koN)
namespace U
def RY {α:Type} [Inhabited α] (l:List α) (j k:Nat):List α:=(l.set j (nth l k)).set k (nth l j)
def nz {α:Type} [Inhabited α] (lt:α->α->Bool):List α->Nat->List α
 |l,0=>l
 |l,j+1=>if lt (nth l (j+1)) (nth l j)=true then nz lt (RY l (j+1) j) j else l
def cO {α:Type} [Inhabited α] (lt:α->α->Bool) (l:List α) (i:Nat):List α:=(List.range i).foldl (nz lt) l
def im {α:Type} [Inhabited α] (lt:α->α->Bool) (l:List α):List α:=cO lt l l.length
def pw {α:Type} (lt:α->α->Bool) (x:α):List α->List α
 |[]=>[x]
 |y::r=>if lt x y=true then y::pw lt x r else x::y::r
end U
namespace IS
variable {α:Type} [Inhabited α] {lt:α->α->Bool}
theorem swap_perm {l:List α} {j k:Nat} (a:j<l.length) (hk:k<l.length):(RY l j k).Perm l:=by
 unfold RY;rw[L.wD a,L.wD hk];exact List.set_set_perm a hk
theorem sink_perm:∀(j:Nat) (l:List α),j<l.length->(nz lt l j).Perm l
 |0,l,_=>List.Perm.refl _
 |j+1,l,h=>by
  unfold nz
  have a:=swap_perm (l:=l) (j:=j+1) (k:=j) h (by omega)
  split
  exact(sink_perm j _ (by rw[a.length_eq];omega)).trans a
  exact List.Perm.refl _
theorem part_succ (lt:α->α->Bool) (l:List α) (i:Nat):cO lt l (i+1)=nz lt (cO lt l i) i:=by
 simp[cO,ze]
theorem part_perm {l:List α}:∀(i:Nat),i<=l.length->(cO lt l i).Perm l
 |0,_=>List.Perm.refl _
 |i+1,h=>by
  rw[part_succ]
  have a:=part_perm (l:=l) i (by omega)
  exact(sink_perm i _ (by rw[a.length_eq];omega)).trans a
theorem isort_perm (lt:α->α->Bool) (l:List α):(im lt l).Perm l:=part_perm _ (jj _)
theorem part_isort {l:List α} {i:Nat} (a:1<=i) (b:i<=max l.length 1) (c:l.length<=i):cO lt l i=im lt l:=by
 unfold im;by_cases h:l.length=0;have:i=1:=(by omega);subst this;rw[h];rfl;have:i=l.length:=(by omega);rw[this]
theorem insR_len {α:Type} {lt:α->α->Bool} (x:α):∀q:List α,(pw lt x q).length=q.length+1
 |[]=>rfl
 |y::r=>by
  unfold pw
  split
  simp[insR_len x r]
  simp
theorem nth_mid (a:List α) (x:α) (s:List α):nth (a++x::s) a.length=x:=by
 rw[L.wD (by simp)];simp
theorem sink_app:∀(q:List α) (x:α) (s:List α),nz lt (q.reverse++x::s) q.length=(pw lt x q).reverse++s
 |[],x,s=>rfl
 |y::r,x,s=>by
  have e:(y::r).reverse++x::s=r.reverse++y::x::s:=by simp
  rw[e]
  have g:nth (r.reverse++y::x::s) (r.length+1)=x:=by
   have:=nth_mid (r.reverse++[y]) x s;simpa using this
  have h:nth (r.reverse++y::x::s) r.length=y:=by
   have:=nth_mid r.reverse y (x::s);simpa using this
  show(if lt (nth _ (r.length+1)) (nth _ r.length)=true then nz lt (RY _ (r.length+1) r.length) r.length else _)=_;rw[g,h];unfold pw
  split
  .have a:RY (r.reverse++y::x::s) (r.length+1) r.length=r.reverse++x::(y::s):=by
    unfold RY;rw[g,h];apply List.ext_getElem?;intro k;simp only[List.getElem?_set,zW];by_cases b:r.length=k
    .subst b;rw[je rfl,je (by simp)];rw[jx (by simp)];simp
    .rw[jc b];by_cases c:r.length+1=k
     .subst c;rw[je rfl,je (by simp)];rw[jx (by simp)];simp
     .rw[jc c];by_cases f:k<r.length
      .rw[jz (by simpa using f),jz (by simpa using f)]
      .rw[jx (by simp;omega),jx (by simp;omega)];obtain⟨d,i⟩:∃d,k-r.reverse.length=d+2:=⟨k-r.length-2,by simp;omega⟩;rw[i];simp
   rw[a,sink_app r x (y::s)];simp
  .simp
theorem fold_len {α:Type} {lt:α->α->Bool}:∀(l q:List α),(l.foldl (fun q x=>pw lt x q) q).length=q.length+l.length
 |[],q=>rfl
 |x::l,q=>by
  simp only[List.foldl_cons,jZ]
  rw[fold_len l,insR_len];omega
theorem part_eq (l:List α):∀i,i<=l.length->cO lt l i=((l.take i).foldl (fun q x=>pw lt x q) []).reverse++l.drop i
 |0,_=>by simp[cO]
 |i+1,h=>by
  rw[part_succ,part_eq l i (by omega)]
  have b:l.drop i=nth l i::l.drop (i+1):=by
   rw[L.wD (by omega)];exact kc (by omega)
  rw[b];have a:((l.take i).foldl (fun q x=>pw lt x q) []).length=i:=(by rw[fold_len];simp;omega);have:=sink_app (lt:=lt) ((l.take i).foldl (fun q x=>pw lt x q) []) (nth l i) (l.drop (i+1));rw[a] at this;rw[this,L.k8 (by omega),jT];rfl
theorem isort_eq (l:List α):im lt l=(l.foldl (fun q x=>pw lt x q) []).reverse:=by
 unfold im;rw[part_eq l _ (jj _)];simp
theorem insR_mem {α:Type} {lt:α->α->Bool} {x z:α}:∀{q:List α},z∈pw lt x q↔z=x\/z∈q
 |[]=>by simp[pw]
 |y::r=>by
  unfold pw
  split
  simp only[jk,insR_mem (q:=r)]
  constructor
  rintro(h|h|h)<;>simp[h]
  rintro(h|h|h)<;>simp[h]
  simp
theorem insR_desc {α:Type} {lt:α->α->Bool} {x:α}:∀{q:List α},qP lt (x::q)->q.Pairwise (fun a b=>lt a b=false)->(pw lt x q).Pairwise (fun a b=>lt a b=false)
 |[],_,_=>by simp[pw]
 |y::r,ho,h=>by
  rw[zx] at h
  unfold pw
  split
  rename_i d
  rw[zx]
  refine⟨fun z c=> ?_,insR_desc (ho.sub (fun z c=>by rcases jk.1 c with h|h;exact h▸zf;exact jo _ (jo _ h))) h.2⟩
  rcases insR_mem.1 c with rfl|c
  exact ho.asymm (by simp) (by simp) d
  exact h.1 z c
  rename_i d
  have d:lt x y=false:=by simpa using d
  rw[zx]
  refine⟨fun z c=> ?_,zx.2 h⟩
  rcases jk.1 c with rfl|c
  exact d
  exact ho.ntrans (by simp) (by simp) (by simp[c]) d (h.1 z c)
theorem fold_desc {α:Type} {lt:α->α->Bool}:∀(l q:List α),qP lt (l++q)->q.Pairwise (fun a b=>lt a b=false)->(l.foldl (fun q x=>pw lt x q) q).Pairwise (fun a b=>lt a b=false)
 |[],q,_,h=>h
 |x::l,q,ho,h=>by
  refine fold_desc l _ (ho.sub (fun z c=> ?_)) (insR_desc (ho.sub (fun z c=> ?_)) h)
  rcases js.1 c with c|c
  simp[c]
  rcases insR_mem.1 c with rfl|c
  simp
  simp[c]
  rcases jk.1 c with rfl|c
  simp
  simp[c]
theorem isort_asc {l:List α} (a:qP lt l):O5 lt (im lt l):=by
 rw[isort_eq];unfold O5;rw[List.pairwise_reverse];exact fold_desc l [] (by simpa using a) (by simp)
theorem isort_sort {l:List α} (a:qP lt l):im lt l=km lt l:=rF a (isort_perm lt l) (isort_asc a)
end IS
end Go.X
namespace Go.X
open U
open Go.Proofs
def U.len8tab:ByteArray:=⟨#[0,1,2,2,3,3,3,3,4,4,4,4,4,4,4,4,5,5,5,5,5,5,5,5,5,5,5,5,5,5,5,5,6,6,6,6,6,6,6,6,6,6,6,6,6,6,6,6,6,6,6,6,6,6,6,6,6,6,6,6,6,6,6,6,7,7,7,7,7,7,7,7,7,7,7,7,7,7,7,7,7,7,7,7,7,7,7,7,7,7,7,7,7,7,7,7,7,7,7,7,7,7,7,7,7,7,7,7,7,7,7,7,7,7,7,7,7,7,7,7,7,7,7,7,7,7,7,7,8,8,8,8,8,8,8,8,8,8,8,8,8,8,8,8,8,8,8,8,8,8,8,8,8,8,8,8,8,8,8,8,8,8,8,8,8,8,8,8,8,8,8,8,8,8,8,8,8,8,8,8,8,8,8,8,8,8,8,8,8,8,8,8,8,8,8,8,8,8,8,8,8,8,8,8,8,8,8,8,8,8,8,8,8,8,8,8,8,8,8,8,8,8,8,8,8,8,8,8,8,8,8,8,8,8,8,8,8,8,8,8,8,8,8,8,8,8,8,8,8,8,8,8,8,8,8,8]⟩
abbrev rwI:Sh:= .cl (.row 3 .int .unk)
namespace U
abbrev FC:=Int×Int×Unit->Int×Unit
abbrev aS (F:FC):Int->Int->Bool:=ko .int F
def io (p:Int×Int×Unit->List Prop) (l:List Int):Prop:=∀x∈l,∀y∈l,kG (p (x,y,()))
def px (n:Int):Int:=if n=0 then 0 else if n<2 then 1 else if n<4 then 2 else if n<8 then 3 else 4
end U
def Hj:we:=⟨[.val (.uint .u64)],[.int],false,fun d=>[0<=d.1/\d.1<=12],fun d=>(px d.1,())⟩
abbrev jgI (d:Int×Unit):=(d.1/(2:Int)^Int.toNat 32/(2:Int)^Int.toNat 16/(2:Int)^Int.toNat 8)
abbrev jgJ (d:Int×Unit):=(d.1/(2:Int)^Int.toNat 32/(2:Int)^Int.toNat 16)
abbrev jgK (d:Int×Unit):=(d.1/(2:Int)^Int.toNat 32/(2:Int)^Int.toNat 8)
abbrev jgL (d:Int×Unit):=(d.1/(2:Int)^Int.toNat 16/(2:Int)^Int.toNat 8)
abbrev jhh (d:Int×Unit):=(256<=d.1/(2:Int)^Int.toNat 32/(2:Int)^Int.toNat 16)
def Hk:Prop:=∀(d:Int×Unit),0<=d.1/\d.1<=12->(decide (4294967296<=d.1)=true->(0:Int)<=32/\(32:Int)<=64/\(decide (65536<=d.1/(2:Int)^Int.toNat 32)=true->(0:Int)<=16/\(16:Int)<=64/\kM ((32:Int)+16)/\(decide (jhh d)=true->(0:Int)<=8/\(8:Int)<=64/\kM ((32:Int)+16+8)/\0<=d.1/(2:Int)^Int.toNat 32/(2:Int)^Int.toNat 16/(2:Int)^Int.toNat 8/\d.1/(2:Int)^Int.toNat 32/(2:Int)^Int.toNat 16/(2:Int)^Int.toNat 8<=255/\0<=d.1/(2:Int)^Int.toNat 32/(2:Int)^Int.toNat 16/(2:Int)^Int.toNat 8/\d.1/(2:Int)^Int.toNat 32/(2:Int)^Int.toNat 16/(2:Int)^Int.toNat 8<(U.len8tab.size:Int)/\kM (gp U.len8tab (jgI d).toNat)/\kM ((32:Int)+16+8+gp U.len8tab (jgI d).toNat)/\((32:Int)+16+8+gp U.len8tab (jgI d).toNat,())=(px d.1,()))/\(decide (jhh d)=false->0<=d.1/(2:Int)^Int.toNat 32/(2:Int)^Int.toNat 16/\d.1/(2:Int)^Int.toNat 32/(2:Int)^Int.toNat 16<=255/\0<=d.1/(2:Int)^Int.toNat 32/(2:Int)^Int.toNat 16/\d.1/(2:Int)^Int.toNat 32/(2:Int)^Int.toNat 16<(U.len8tab.size:Int)/\kM (gp U.len8tab (jgJ d).toNat)/\kM ((32:Int)+16+gp U.len8tab (jgJ d).toNat)/\((32:Int)+16+gp U.len8tab (jgJ d).toNat,())=(px d.1,())))/\(decide (65536<=d.1/(2:Int)^Int.toNat 32)=false->(decide (256<=d.1/(2:Int)^Int.toNat 32)=true->(0:Int)<=8/\(8:Int)<=64/\kM ((32:Int)+8)/\0<=d.1/(2:Int)^Int.toNat 32/(2:Int)^Int.toNat 8/\d.1/(2:Int)^Int.toNat 32/(2:Int)^Int.toNat 8<=255/\0<=d.1/(2:Int)^Int.toNat 32/(2:Int)^Int.toNat 8/\d.1/(2:Int)^Int.toNat 32/(2:Int)^Int.toNat 8<(U.len8tab.size:Int)/\kM (gp U.len8tab (jgK d).toNat)/\kM ((32:Int)+8+gp U.len8tab (jgK d).toNat)/\((32:Int)+8+gp U.len8tab (jgK d).toNat,())=(px d.1,()))/\(decide (256<=d.1/(2:Int)^Int.toNat 32)=false->0<=d.1/(2:Int)^Int.toNat 32/\d.1/(2:Int)^Int.toNat 32<=255/\0<=d.1/(2:Int)^Int.toNat 32/\d.1/(2:Int)^Int.toNat 32<(U.len8tab.size:Int)/\kM (gp U.len8tab (d.1/(2:Int)^Int.toNat 32).toNat)/\kM ((32:Int)+gp U.len8tab (d.1/(2:Int)^Int.toNat 32).toNat)/\((32:Int)+gp U.len8tab (d.1/(2:Int)^Int.toNat 32).toNat,())=(px d.1,()))))/\(decide (4294967296<=d.1)=false->(decide (65536<=d.1)=true->(0:Int)<=16/\(16:Int)<=64/\kM ((0:Int)+16)/\(decide (256<=d.1/(2:Int)^Int.toNat 16)=true->(0:Int)<=8/\(8:Int)<=64/\kM ((0:Int)+16+8)/\0<=d.1/(2:Int)^Int.toNat 16/(2:Int)^Int.toNat 8/\d.1/(2:Int)^Int.toNat 16/(2:Int)^Int.toNat 8<=255/\0<=d.1/(2:Int)^Int.toNat 16/(2:Int)^Int.toNat 8/\d.1/(2:Int)^Int.toNat 16/(2:Int)^Int.toNat 8<(U.len8tab.size:Int)/\kM (gp U.len8tab (jgL d).toNat)/\kM ((0:Int)+16+8+gp U.len8tab (jgL d).toNat)/\((0:Int)+16+8+gp U.len8tab (jgL d).toNat,())=(px d.1,()))/\(decide (256<=d.1/(2:Int)^Int.toNat 16)=false->0<=d.1/(2:Int)^Int.toNat 16/\d.1/(2:Int)^Int.toNat 16<=255/\0<=d.1/(2:Int)^Int.toNat 16/\d.1/(2:Int)^Int.toNat 16<(U.len8tab.size:Int)/\kM (gp U.len8tab (d.1/(2:Int)^Int.toNat 16).toNat)/\kM ((0:Int)+16+gp U.len8tab (d.1/(2:Int)^Int.toNat 16).toNat)/\((0:Int)+16+gp U.len8tab (d.1/(2:Int)^Int.toNat 16).toNat,())=(px d.1,())))/\(decide (65536<=d.1)=false->(decide (256<=d.1)=true->(0:Int)<=8/\(8:Int)<=64/\kM ((0:Int)+8)/\0<=d.1/(2:Int)^Int.toNat 8/\d.1/(2:Int)^Int.toNat 8<=255/\0<=d.1/(2:Int)^Int.toNat 8/\d.1/(2:Int)^Int.toNat 8<(U.len8tab.size:Int)/\kM (gp U.len8tab (d.1/(2:Int)^Int.toNat 8).toNat)/\kM ((0:Int)+8+gp U.len8tab (d.1/(2:Int)^Int.toNat 8).toNat)/\((0:Int)+8+gp U.len8tab (d.1/(2:Int)^Int.toNat 8).toNat,())=(px d.1,()))/\(decide (256<=d.1)=false->0<=d.1/\d.1<=255/\0<=d.1/\d.1<(U.len8tab.size:Int)/\kM (gp U.len8tab d.1.toNat)/\kM ((0:Int)+gp U.len8tab d.1.toNat)/\((0:Int)+gp U.len8tab d.1.toNat,())=(px d.1,()))))
def MY:we:=⟨[.val (.uint .u64)],[.int],false,fun d=>[0<=d.1/\d.1<=12],fun d=>(px d.1,())⟩
def MZ:Prop:=∀(d:Int×Unit),0<=d.1/\d.1<=12->(false=true->False)/\(qF->(0<=d.1/\d.1<=12)/\(px d.1,())=(px d.1,()))
def ao:qd:=⟨[.own rwI true,.val .int,.val .int,.fn [.int,.int] [.int]],[],fun d=>[d.2.1=0/\d.2.2.1=(d.1.length:Int)/\d.1.length<=12,io d.2.2.2.1.pre d.1],fun d=>((),(im (aS d.2.2.2.1.F) d.1,()))⟩
def aq:Ann:=fun r=>match r with
 |1=>some fun σ=>{X:=Nat,sl:=fun i=>[(8,.dat .int (i:Int))],ob:=fun i=>[(1000000,some (.row 3 .int false .unk (cO (aS (gfn [.int,.int] [.int] σ 3)) (gr .int σ 1000000) i)))],inv:=fun i=>1<=i/\i<=max (gr .int σ 1000000).length 1,mu:=fun i=>(gr .int σ 1000000).length-i}
 |4=>some fun σ=>{X:=Nat×List Int,sl:=fun x=>[(9,.dat .int (x.1:Int))],ob:=fun x=>[(1000000,some (.row 3 .int false .unk x.2))],inv:=fun x=>(x.1:Int)<=gd .int σ 8/\x.2.Perm (gr .int σ 1000000)/\nz (aS (gfn [.int,.int] [.int] σ 3)) x.2 x.1=nz (aS (gfn [.int,.int] [.int] σ 3)) (gr .int σ 1000000) (gd .int σ 8).toNat,mu:=fun x=>x.1}
 |_=>none
abbrev jgM (a:Nat×List Int):=(nth a.2 (a.1:Int).toNat,nth a.2 ((a.1:Int)-1).toNat,())
abbrev jd2 (d:List Int×Int×Int×FnD [Ty.int,Ty.int] [Ty.int]×Unit):=(aS d.2.2.2.1.2)
def ar:Prop:=∀(d:List Int×Int×Int×FnD [Ty.int,Ty.int] [Ty.int]×Unit),d.2.1=0/\d.2.2.1=(d.1.length:Int)/\d.1.length<=12->io d.2.2.2.1.1 d.1->kM (d.2.1+1)/\(∃(x:Nat),((d.2.1+1=(x:Int)/\True)/\d.1=cO (jd2 d) d.1 x/\True)/\1<=x/\x<=max d.1.length 1)/\∀(x:Nat),1<=x/\x<=max d.1.length 1->(decide ((x:Int)<d.2.2.1)=true->(∃(a:Nat×List Int),(((x:Int)=(a.1:Int)/\True)/\cO (jd2 d) d.1 x=a.2/\True)/\(a.1:Int)<=(x:Int)/\a.2.Perm (cO (jd2 d) d.1 x)/\nz (jd2 d) a.2 a.1=nz (jd2 d) (cO (jd2 d) d.1 x) (x:Int).toNat)/\∀(a:Nat×List Int),(a.1:Int)<=(x:Int)/\a.2.Perm (cO (jd2 d) d.1 x)/\nz (jd2 d) a.2 a.1=nz (jd2 d) (cO (jd2 d) d.1 x) (x:Int).toNat->(decide (d.2.1<(a.1:Int))=true->0<=(a.1:Int))/\(decide (d.2.1<(a.1:Int))=true->(a.1:Int)<a.2.length)/\(decide (d.2.1<(a.1:Int))=true->kM ((a.1:Int)-1))/\(decide (d.2.1<(a.1:Int))=true->0<=(a.1:Int)-1)/\(decide (d.2.1<(a.1:Int))=true->(a.1:Int)-1<(a.2.length:Int))/\Sn (decide (d.2.1<(a.1:Int))) (d.2.2.2.1.1 (jgM a)) (((decide (d.2.1<(a.1:Int))&&decide ((d.2.2.2.1.2 (jgM a)).1<0))=true->kM ((a.1:Int)-1)/\kM ((a.1:Int)-1)/\0<=(a.1:Int)-1/\(a.1:Int)-1<(a.2.length:Int)/\0<=(a.1:Int)/\(a.1:Int)<a.2.length/\0<=(a.1:Int)/\(a.1:Int)<a.2.length/\0<=(a.1:Int)-1/\(a.1:Int)-1<(↑(a.2.set (a.1:Int).toNat (nth a.2 ((a.1:Int)-1).toNat)).length:Int)/\kM ((a.1:Int)-1)/\∃(b:Nat×List Int),(((a.1:Int)-1=(b.1:Int)/\True)/\(a.2.set (a.1:Int).toNat (nth a.2 ((a.1:Int)-1).toNat)).set ((a.1:Int)-1).toNat (nth a.2 (a.1:Int).toNat)=b.2/\True)/\((b.1:Int)<=(x:Int)/\b.2.Perm (cO (jd2 d) d.1 x)/\nz (jd2 d) b.2 b.1=nz (jd2 d) (cO (jd2 d) d.1 x) (x:Int).toNat)/\b.1<a.1)/\((decide (d.2.1<(a.1:Int))&&decide ((d.2.2.2.1.2 (jgM a)).1<0))=false->kM ((x:Int)+1)/\∃(c:Nat),(((x:Int)+1=(c:Int)/\True)/\a.2=cO (jd2 d) d.1 c/\True)/\(1<=c/\c<=max d.1.length 1)/\d.1.length-c<d.1.length-x)))/\(decide ((x:Int)<d.2.2.1)=false->()=()/\(cO (jd2 d) d.1 x,())=(im (jd2 d) d.1,()))
def dM:qd:=⟨[.own rwI true,.val .int,.val .int,.val .int,.fn [.int,.int] [.int]],[],fun d=>[d.2.1=0/\d.2.2.1=(d.1.length:Int)/\d.1.length<=12,io d.2.2.2.2.1.pre d.1],fun d=>((),(im (aS d.2.2.2.2.1.F) d.1,()))⟩
def dN:Ann:=fun r=>match r with
 |1000002=>some fun _=>{X:=Unit,sl:=fun _=>[],ob:=fun _=>[],inv:=fun _=>True,mu:=fun _=>0}
 |_=>none
def dO:Prop:=∀(d:List Int×Int×Int×Int×FnD [Ty.int,Ty.int] [Ty.int]×Unit),d.2.1=0/\d.2.2.1=(d.1.length:Int)/\d.1.length<=12->io d.q4.1.1 d.1->kM (d.2.2.1-d.2.1)/\(decide (d.2.2.1-d.2.1<=12)=true->(d.2.1=0/\d.2.2.1=(d.1.length:Int)/\d.1.length<=12)/\io d.q4.1.1 d.1/\()=()/\(im (aS d.q4.1.2) d.1,())=(im (aS d.q4.1.2) d.1,()))/\(decide (d.2.2.1-d.2.1<=12)=false->(decide (d.2.2.2.1=0)=true->False)/\(decide (d.2.2.2.1=0)=false->((!true)=true->False)/\((!true)=false->False)))
def qf:qd:=⟨[.own rwI true,.fn [.int,.int] [.int]],[],fun d=>[d.1.length<=12,io d.2.1.pre d.1,qP (aS d.2.1.F) d.1],fun d=>((),(km (aS d.2.1.F) d.1,()))⟩
def r9:Prop:=∀(d:List Int×FnD [Ty.int,Ty.int] [Ty.int]×Unit),d.1.length<=12->io d.2.1.1 d.1->qP (aS d.2.1.2) d.1->d.1.length<4611686018427387904->0<=(d.1.length:Int)/\(d.1.length:Int)<=18446744073709551615/\(0<=(d.1.length:Int)/\(d.1.length:Int)<=12)/\((0:Int)=0/\(d.1.length:Int)=d.1.length/\d.1.length<=12)/\io d.2.1.1 d.1/\()=()/\(im (aS d.2.1.2) d.1,())=(km (aS d.2.1.2) d.1,())
def asI (l:List Int):List (Ty.st [.int]).Data:=l.map (fun x=>(x,()))
def LVi (d:PD [.ref (.slice .int)]) (xs:List (Ty.st [.int]).Data):Prop:=xs=asI d.1
def sa:AD (YS [.int]):=fun r=>match r with
 |1=>some fun σ _=>{X:=Nat,sl:=fun i=>[(7,.dat .int (i:Int))],ob:=fun _=>[],ys:=fun i=>(asI ((gd (.slice .int) σ 5).take i),true),inv:=fun i=>i<=(gd (.slice .int) σ 5).length,mu:=fun i=>(gd (.slice .int) σ 5).length-i}
 |_=>none
abbrev jed:=(fun(a:Int)=>(a,()))
abbrev jfD (d:List Int×Unit)(x:Nat):=(nth d.1 (x:Int).toNat,())
def cn:Prop:=∀(d:List Int×Unit) (l:Nat),d.1.length<4611686018427387904->(∃(x:Nat),((0=(x:Int)/\True)/\True)/\([],true)=(List.map jed (List.take x d.1),true)/\x<=d.1.length)/\∀(x:Nat),x<=d.1.length->(decide ((x:Int)<d.1.length)=true->0<=(x:Int)/\(x:Int)<d.1.length/\l=l/\(∃(rest:List (Int×Unit)),List.map jed (List.take x d.1)++[(jfD d x)]++rest=List.map jed d.1)/\(((!true)=true->true=true->List.map jed (List.take x d.1)++[(jfD d x)]=List.map jed d.1)/\((!true)=false->kM ((x:Int)+1)/\∃(a:Nat),(((x:Int)+1=(a:Int)/\True)/\True)/\(List.map jed (List.take x d.1)++[(jfD d x)],true)=(List.map jed (List.take a d.1),true)/\a<=d.1.length/\d.1.length-a<d.1.length-x))/\((!false)=true->false=true->List.map jed (List.take x d.1)++[(jfD d x)]=List.map jed d.1)/\((!false)=false->kM ((x:Int)+1)/\∃(a:Nat),(((x:Int)+1=(a:Int)/\True)/\True)/\(List.map jed (List.take x d.1)++[(jfD d x)],false)=(List.map jed (List.take a d.1),true)/\a<=d.1.length/\d.1.length-a<d.1.length-x))/\(decide ((x:Int)<d.1.length)=false->true=true->List.map jed (List.take x d.1)=List.map jed d.1)
theorem lP:(WG (ctx 16 [] []) (wt Tryz.f225) [.int] [.ref (.slice .int)] LVi (fun _=>[]) (fun _ _=>sa) (fun d l=>hkY [.int] l [13] (fun q=>∃rest,LVi d (q++rest)) (fun _=>none)))=cn:=by kernel_rfl
def qh:oF:=⟨[.val (.slice .int)],fun _=>[],225,[.slice .int],fun d=>(d.1,())⟩
def ii:Prop:=∀(d:List Int×Unit),d=d
theorem pa:(Tx (ctx 4 [] []) (fun _=>none) Tryz.f196 (wt Tryz.f196) qh)=ii:=by kernel_rfl
def bE:I8 [.int]:={ps:=[.own (.box 31 [.row 3 .int .unk]) true],slots:=[2],dst:=20,pre:=fun _=>[],G:=fun d q=>((d.1.1++q.map (·.1),()),()),seq:=fun sv=>match sv with
 | .clo 225 [.ep t m]=>(match wO t (.slice .int) m with
  |some a=>some (True,fun xs=>xs=asI a)
  |none=>none)
 |_=>none}
def yI:Nat->Option ((ts:List Ty)×I8 ts):=fun r=>match r with
 |3=>some ⟨[.int],bE⟩
 |_=>none
def qE:oH:=⟨[none,some (225,1)],[.nil false,.ref (.slice .int)],[rwI],fun d=>[d.2.1.length<=12],fun d r=>r.1.1=d.2.1⟩
def q9:oH:=⟨[some (225,1)],[.ref (.slice .int)],[rwI],fun d=>[d.1.length<=12],fun d r=>r.1.1=d.1⟩
def qm:oH:=⟨[some (225,1),none],[.ref (.slice .int),.fn [.int,.int] [.int]],[rwI],fun d=>[d.1.length<=12,io d.2.1.pre d.1,qP (aS d.2.1.F) d.1],fun d r=>r.1.1=km (aS d.2.1.F) d.1⟩
def pb (d:OD qE.ps):List SV:=[.lit (.slice none 0 0),.clo 225 [.ep (.slice .int) d.2.1]]
abbrev jfE:=(fun(a:Int×Unit)=>a.1)
abbrev jgN:=(fun(a:List (Int×Unit))=>false)
abbrev jgO:=(fun(a:Int)=>(a,()))
def bG:Prop:=∀(d:Unit×List Int×Unit),d.2.1.length<=12/\True->True/\True/\(([]++List.map jfE [],()),())=(([],()),())/\(∀(q:List (Int×Unit)) (x:Int×Unit) (rest:List (Int×Unit)),q++x::rest=List.map jgO d.2.1->vM jgN q->(([]++List.map jfE q).length+[x.1].length)*8<=140737488355328/\qF/\(([]++List.map jfE q++[x.1],()),())=(([]++List.map jfE (q++[x]),()),()))/\(∀(xs:List (Int×Unit)),xs=List.map jgO d.2.1->vM jgN xs->∃(_:Unit),[]++List.map jfE xs=d.2.1)/\∀(q:List (Int×Unit)) (x:Int×Unit) (rest:List (Int×Unit)),q++x::rest=List.map jgO d.2.1->vM jgN q->false=true->∃(_:Unit),[]=d.2.1
theorem iJ:(TA (ctx 13 [] []) (fun _=>none) (hkC (ctx 13 [] []) (fun _=>none) yI [] []) Tryz.f233 (wt Tryz.f233) qE pb)=bG:=by kernel_rfl
def tM (d:OD q9.ps):List SV:=[.clo 225 [.ep (.slice .int) d.1]]
def dP:Prop:=∀(d:List Int×Unit),d.1.length<=12/\True->(d.1.length<=12/\True)/\∀(r:(List Int×Unit)×Unit),r.1.1=d.1->∃(_:Unit),r.1.1=d.1
theorem nf:(TA (ctx 5 [] []) (fun _=>none) (hkC (ctx 5 [] []) (fun _=>none) ZM [4] [(233,20,qE)]) Tryz.f223 (wt Tryz.f223) q9 tM)=dP:=by kernel_rfl
def ng (d:OD qm.ps):List SV:=[.clo 225 [.ep (.slice .int) d.1],.fn [.int,.int] [.int] d.2.1.pre d.2.1.F]
def aL:Prop:=∀(d:List Int×FnD [Ty.int,Ty.int] [Ty.int]×Unit),d.1.length<=12/\io d.2.1.1 d.1/\qP (aS d.2.1.2) d.1/\True->(d.1.length<=12/\True)/\∀(r:(List Int×Unit)×Unit),r.1.1=d.1->r.1.1.length<=12/\io d.2.1.1 r.1.1/\qP (aS d.2.1.2) r.1.1/\∃(_:Unit),km (aS d.2.1.2) r.1.1=km (aS d.2.1.2) d.1
theorem fN:(TA (ctx 12 [] [(224,qf)]) (fun _=>none) (hkC (ctx 12 [] [(224,qf)]) (fun _=>none) ZM [7] [(223,20,q9)]) Tryz.f195 (wt Tryz.f195) qm ng)=aL:=by kernel_rfl
theorem QM {γ:Bool} {l:List Prop} {k:Prop} (h:γ=true->kG l) (hk:k):Sn γ l k:=by
 induction l with
 |nil=>exact hk
 |cons p l b=>exact⟨fun a=>(h a).1,b (fun a=>(h a).2)⟩
theorem jdD:∀n:Nat,n<13->gp U.len8tab n=px (n:Int):=by decide+kernel
theorem Z2 (n:Int):0<=px n/\px n<=4:=by
 unfold px
 split
 omega
 split
 omega
 split
 omega
 split<;>omega
theorem J2:Hk:=by
 unfold Hk jhh jgL jgK jgJ jgI;rintro⟨n,⟨⟩⟩ ⟨a,b⟩;have a:0<=n:=a;have b:n<=12:=b;refine⟨fun h=>absurd (ja h) (by simp only;omega),fun _=>⟨fun h=>absurd (ja h) (by simp only;omega),fun _=>⟨fun h=>absurd (ja h) (by simp only;omega),fun _=> ?_⟩⟩⟩;have c:=jdD n.toNat (by omega);rw[Int.toNat_of_nonneg a] at c;have d:=Z2 n;simp only;rw[c];refine⟨by omega,by omega,by omega,?_,by unfold kM;omega,by unfold kM;omega,by rw[Int.zero_add]⟩;have:U.len8tab.size=256:=(by decide+kernel);omega
theorem Hl:wo PR 131 Hj:=wb J2 Tryz.func131 kcN koN
theorem QN:MZ:=by
 rintro⟨n,⟨⟩⟩ h;exact⟨fun e=>(by cases e),fun _=>⟨h,rfl⟩⟩
theorem M0:wo PR 93 MY:=wb QN Tryz.func93 (kcC Hl kcN) koN
theorem aC:ar:=by
 unfold ar jd2 jgM;rintro⟨l,a,b,⟨pre,c⟩,⟨⟩⟩ x y;obtain⟨z,n,E⟩:a=0/\b=(l.length:Int)/\l.length<=12:=x;have s:io pre l:=y;subst z n;simp only;refine⟨by unfold kM;omega,⟨1,⟨⟨rfl,tZ⟩,rfl,tZ⟩,jj _,by omega⟩,fun i hi=>⟨fun h=> ?_,fun h=> ?_⟩⟩
 .have h:i<l.length:=(by have:=ja h;omega);have u:=IS.part_perm (lt:=aS c) (l:=l) i (by omega);refine⟨⟨(i,cO (aS c) l i),⟨⟨rfl,tZ⟩,rfl,tZ⟩,zK _,List.Perm.refl _,rfl⟩,?_⟩;rintro⟨j,m⟩ ⟨v,o,p⟩;have v:(j:Int)<=i:=v;have o:m.Perm (cO (aS c) l i):=o;have p:nz (aS c) m j=nz (aS c) (cO (aS c) l i) i:=p;have C:m.length=l.length:=(o.trans u).length_eq;have g:∀{k:Nat},k<m.length->nth m k∈l:=fun hk=>(o.trans u).mem_iff.1 (L.kw hk)
  simp only[ju];refine⟨fun _=>by omega,fun f=>by have:=ja f;omega,fun f=>by have:=ja f;unfold kM;omega,fun f=>by have:=ja f;omega,fun f=>by have:=ja f;omega,QM (fun f=> ?_) ⟨fun n=> ?_,fun n=> ?_⟩⟩
  .have f:=ja f;exact s _ (g (by omega)) _ (g (by omega))
  .simp only[ji,jr] at n;obtain⟨D,q⟩:=n;obtain⟨d,rfl⟩:∃d,j=d+1:=⟨j-1,by omega⟩;have r:((d+1:Nat):Int)-1=(d:Int):=(by omega);rw[r] at q⊢;simp only[ju] at q⊢;have t:=IS.swap_perm (l:=m) (j:=d+1) (k:=d) (by omega) (by omega);have e:kM (d:Int):=(by unfold kM;omega);refine⟨e,e,by omega,by omega,by omega,by omega,by omega,by omega,by omega,by simp;omega,e,⟨(d,RY m (d+1) d),⟨⟨rfl,tZ⟩,rfl,tZ⟩,⟨by simp only;omega,t.trans o,?_⟩,by simp⟩⟩;rw[<-p];show _=(if aS c (nth m (d+1)) (nth m d)=true then nz (aS c) (RY m (d+1) d) d else m);have w:aS c (nth m (d+1)) (nth m d)=true:=jJ q;rw[je w]
  .have B:m=cO (aS c) l (i+1):=by
    rw[IS.part_succ,<-p];cases j with
    |zero=>rfl
    |succ d=>
     unfold nz;rw[jc];intro A;refine absurd n (by
      rw[Bool.and_eq_false_iff];rintro(h|h)
      .exact absurd (jd h) (by simp)
      .refine jd h ?_;have r:((d+1:Nat):Int)-1=(d:Int):=(by omega);rw[r];exact ja A)
   exact⟨by unfold kM;omega,i+1,⟨⟨by simp,tZ⟩,B,tZ⟩,by omega,by omega⟩
 .have h:l.length<=i:=(by have:=jd h;omega);exact⟨tZ,by rw[IS.part_isort hi.1 hi.2 h]⟩
theorem au:yS PR 238 ao:=uO aq aC Tryz.func238 kcN koN
theorem fO:dO:=by
 unfold dO Prod.q4;rintro⟨l,a,b,lim,⟨pre,c⟩,⟨⟩⟩ e d;obtain⟨f,g,i⟩:a=0/\b=(l.length:Int)/\l.length<=12:=e;subst f g;refine⟨by unfold kM;simp only;omega,fun _=>⟨⟨rfl,rfl,by simp only;omega⟩,d,rfl,rfl⟩,fun h=>absurd (jd h) (by simp only;omega)⟩
theorem dQ:yS PR 234 dM:=uO dN fO Tryz.func234 kcN (koC au koN)
theorem tN:r9:=by
 rintro⟨l,⟨pre,c⟩,⟨⟩⟩ a b d _;have a:l.length<=12:=a;exact⟨by simp only;omega,by simp only;omega,⟨by simp only;omega,by simp only;omega⟩,⟨rfl,rfl,a⟩,b,rfl,jR (·,()) (IS.isort_sort d)⟩
theorem sd:yS PR 224 qf:=Ca tN Tryz.func224 (kcC M0 kcN) (koC dQ koN)
theorem Xb {l:List Int} {i:Nat} (h:i<l.length):asI (l.take (i+1))=asI (l.take i)++[(nth l i,())]:=by
 unfold asI;rw[L.k8 h,zv];rfl
theorem tO:cn:=by
 unfold cn jfD jed;rintro⟨l,⟨⟩⟩ y b;have b:l.length<4611686018427387904:=b;refine⟨⟨0,⟨⟨rfl,tZ⟩,tZ⟩,rfl,jv _⟩,fun x c=>⟨fun h=> ?_,fun h _=> ?_⟩⟩;have h:(x:Int)<l.length:=ja h;have a:x<l.length:=(by omega);have e:=Xb a;unfold asI at e;simp only[ju];refine⟨by omega,h,tZ,⟨asI (l.drop (x+1)),?_⟩,⟨fun h=>(by cases h),fun _=>⟨iZ6,x+1,⟨⟨by simp,tZ⟩,tZ⟩,?_,by show x+1<=l.length;omega,by show l.length-(x+1)<l.length-x;omega⟩⟩,fun _ h=>(by cases h),fun h=>(by cases h)⟩;rw[<-e];unfold asI;rw[<-zv,z7];rw[e];have h:¬(x:Int)<l.length:=jd h;have c:x<=l.length:=c;rw[zA (by show l.length<=x;omega)]
theorem QO {H:Imm} {lb:Array Value} {d:PD [.ref (.slice .int)]} (e:pvs PR H [.ref (.slice .int)] lb.toList d):WD PR H [.int] (LVi d) (.func (.func 225) #[] lb):=
 Yv (C:=ctx 16 [] []) (nN trivial trivial) mixed Tryz.func225 (by kernel_rfl) (by kernel_rfl) (by kernel_rfl) (by kernel_rfl) (by decide) (lP.mpr tO) (fun d l B0 R f a b c=>jbu a c) e trivial
theorem CH:ii:=by intro d;rfl
theorem xE:Jc PR 196 qh:=jbx (pa.mpr CH) Tryz.func196 (by kernel_rfl) (by kernel_rfl) (by kernel_rfl) (by kernel_rfl) trivial trivial
theorem Z3 (l:List Int):(asI l).map (fun(x:Int×Unit)=>x.1)=l:=by
 unfold asI;rw[List.map_map];exact List.map_id l
theorem se:bG:=by
 unfold bG jgO jgN jfE;intro d ⟨a,_⟩;refine⟨tZ,tZ,rfl,fun q x rest h _=>⟨?_,rfl,?_⟩,fun xs h _=>⟨(),?_⟩,fun _ _ _ _ _ h=>(by cases h)⟩;have b:=jR List.length h;simp only[zr,jI,jZ] at b;have a:d.2.1.length<=12:=a;simp only[jY,zr,jZ,zp];omega;simp;rw[h,jY];exact Z3 d.2.1
theorem xF:dP:=fun _ a=>⟨a,fun _ h=>⟨(),h⟩⟩
theorem pd:aL:=fun d ⟨a,b,c,_⟩=>⟨⟨a,tZ⟩,fun r h=>by rw[h];exact⟨a,b,c,(),rfl⟩⟩
theorem Pc {P:Program} {ρ:Env} {H:Imm} (b:ρ.H=H) {g:Nat} {t:Ty} {d:t.Data} {lb:Array Value} {w:World} {bs:List Nat} (a:dr P H w [.ref t] lb.toList (d,()) bs):SV.den P ρ (.clo g [.ep t d]) (.func (.func g) #[] lb):=by
 subst b
 match e:lb.toList,a with
 |[],a=>exact a.elim
 |[x],⟨_,_,_,⟨c,_⟩,_⟩=>
  simp only[SV.den,SV.denL];exact⟨lb,rfl,x,[],e,c,rfl⟩
 |x::y::r,⟨_,_,_,_,h2⟩=>cases h2.1
theorem M1 {lb:Array Value} (h:lb.size=1):∃x,lb.toList=[x]:=by
 have a:lb.toList.length=1:=(by rw[j0];exact h);exact List.length_eq_one_iff.1 a
theorem Ud {g n:Nat} {s:oH} (h:ROK PR g s):∀(f:Nat) (p:Nat×oH),kQ [(g,n,s)] f=some p->ROK PR f p.2:=by
 intro f p a;simp only[kQ] at a
 split at a
 rename_i b;have:=jb b;subst this;simp at a;subst a;exact h;cases a
theorem Xc (n:Nat):(ctx n [] []).ok PR:=nN trivial trivial
theorem nh:ROK PR 233 qE:=by
 refine TB (body:=wt Tryz.f233) (C:=ctx 13 [] []) (hk:=hkC (ctx 13 [] []) (fun _=>none) yI [] []) (Xc 13) mixed Tryz.func233 (by kernel_rfl) (by kernel_rfl) (by kernel_rfl) (fun B=>Fx (Xc 13) mixed ?_ ZY B) rfl (fun H w vals fl d bs c b ρ f=> ?_) (fun d=>rfl) (iJ.mpr se)
 .intro k t rs sv pr L v ρ hk a p g;unfold yI at hk
  split at hk
  case h_2=>cases hk
  simp only[jw] at hk;cases hk;simp only[bE] at a
  split at a
  case h_2=>cases a
  rename_i t m
  split at a
  case h_2=>cases a
  rename_i z o;simp only[jw,Prod.mk.injEq] at a;obtain⟨rfl,rfl⟩:=a;obtain⟨e,rfl⟩:=kz o;subst e;simp only[SV.den,SV.denL] at g;obtain⟨lb,rfl,x,r,n,j,l⟩:=g;exact QO (d:=(m,())) (by rw[n,l];exact⟨j,rfl⟩)
 .obtain⟨v,q,h,rfl,rfl,lb,s,i,rfl,rfl,_,rfl,rfl⟩:=c;obtain⟨u,y,_,⟨rfl,_⟩,b⟩:=b;rw[j9] at b;refine⟨_,_,rfl,rfl,_,_,rfl,Pc f b,rfl⟩
theorem sf:ROK PR 223 q9:=by
 refine TB (body:=wt Tryz.f223) (C:=ctx 5 [] []) (hk:=hkC (ctx 5 [] []) (fun _=>none) ZM [4] [(233,20,qE)]) (Xc 5) mixed Tryz.func223 (by kernel_rfl) (by kernel_rfl) (by kernel_rfl) (fun B=>Fx (Xc 5) mixed Mp (Ud nh) B) rfl (fun H w vals fl d bs a c ρ b=> ?_) (fun d=>rfl) (nf.mpr xF);obtain⟨lb,f,e,rfl,rfl,_,rfl,rfl⟩:=a;rw[j9] at c;exact⟨_,_,rfl,Pc b c,rfl⟩
theorem FJ:(ctx 12 [] [(224,qf)]).ok PR:=nN trivial ⟨sd,tZ⟩
theorem lQ:ROK PR 195 qm:=by
 refine TB (body:=wt Tryz.f195) (C:=ctx 12 [] [(224,qf)]) (hk:=hkC (ctx 12 [] [(224,qf)]) (fun _=>none) ZM [7] [(223,20,q9)]) FJ mixed Tryz.func195 (by kernel_rfl) (by kernel_rfl) (by kernel_rfl)
  (fun B=>Fx FJ mixed Mp (Ud sf) B) rfl (fun H w vals fl d bs a e ρ c=> ?_) (fun d=>rfl) (fN.mpr pd)
 obtain⟨lb,k,g,rfl,rfl,b,v,l,h,rfl,rfl,rfl,rfl⟩:=a;obtain⟨x,f⟩:=M1 b;rw[f] at e;obtain⟨m,n,_,⟨i,_⟩,c1,c2,_,⟨j,_⟩,_⟩:=e;subst c;refine⟨_,_,rfl,⟨lb,rfl,x,[],f,i,rfl⟩,_,_,rfl,j,rfl⟩
abbrev tRo:Ty:= .st [tDy,.slice .int,.slice (.slice .int),.slice .int]
abbrev RoD:Type:=DyD×List Int×List (List Int)×List Int×Unit
namespace U
def ro (o:Option RoD):RoD:=kT (Ty.dflt tRo) o
def rd (r:RoD):DyD:=r.1
def l8 (r:RoD):List Int:=r.2.1
def ax (r:RoD):List (List Int):=r.2.2.1
def jdc (r:RoD):List Int:=r.2.2.2.1
def aG (d:DyD) (b:Int):Prop:=0<=b/\b<((kB d).length:Int)
def Oa (d:DyD) (l:List Int):Prop:=l.length<=12/\∀b∈l,aG d b
def Iq (d:DyD):Prop:=kU (kE d)=true/\K6 d=true/\wE d=true
def PA (r:RoD):Prop:=Iq (rd r)/\(l8 r).length=(kB (rd r)).length
def Sc (d:DyD) (p:Int):Prop:=0<=p/\p<((kC (kE d)).length:Int)
def sM (d:DyD) (a b:Int):Int:=vY [bQ (qn (bk d a)) (qn (bk d b)),bQ a b]
def kF (d:DyD) (l:List Int):List Int:=km (cu d) l
def gM (d:DyD) (s:List Int) (n:Nat):Int:=N9 d (s.take n)
def Ie (d:DyD) (cv:List Int) (p:Int) (s:List Int) (i:Nat):Bool:= !(decide (nY (nth cv (nth s i).toNat/2^p.toNat) 1=0)||(s.drop (i+1)).any (fun c=>decide (bL d (nth s i) c<0)))
def jaO (d:DyD) (cv:List Int) (p:Int) (s:List Int):Bool:=(List.range s.length).all (Ie d cv p s)&&decide (N9 d s<=X5 d)
def Oc (d:DyD) (cv:List Int) (p:Int) (l:List Int):Bool:=jaO d cv p (kF d l)
def EI (r:RoD) (p:Int) (l:List Int):Bool:=Oc (rd r) (l8 r) p l
def gN (on:List (List Int)) (b:Int) (n:Nat):Int:=(List.range n).foldl (fun s p=>if(nth on p).any (fun x=>decide (x=b))=true then bor s (1*2^p) else s) 0
def cP (on:List (List Int)) (b:Int):Int:=gN on b on.length
def Dz (d:DyD) (b t:Int):Bool:=(decide (aw (kE d) (yV (bk d b)) t=0)&&decide (ja5 (kE d) (yV (bk d b)) t=0))&&decide (t≠0)
end U
def tP:we:=⟨[.val (.ptr tRo),.val .int,.val .int],[.int],false,fun d=>[d.1.isSome=true,Iq (U.rd (U.ro d.1)),aG (U.rd (U.ro d.1)) d.2.1,aG (U.rd (U.ro d.1)) d.2.2.1],fun d=>(bL (U.rd (U.ro d.1)) d.2.1 d.2.2.1,())⟩
abbrev jen (d:Option RoD×Int×Int×Unit):=(kT ((((0:Int),[],[],()),[],[],(0:Int),(0:Int),[],()),[],[],[],()) d.1)
abbrev jeF (d:Option RoD×Int×Int×Unit):=(nth (jen d).1.2.2.1 d.2.1.toNat)
abbrev jeN (d:Option RoD×Int×Int×Unit):=(nth (jen d).1.2.2.1 d.2.2.1.toNat)
def tQ:Prop:=∀(d:Option RoD×Int×Int×Unit),d.1.isSome=true->Iq (U.rd (U.ro d.1))->aG (U.rd (U.ro d.1)) d.2.1->aG (U.rd (U.ro d.1)) d.2.2.1->d.1.isSome=true/\0<=d.2.1/\d.2.1<(↑(jen d).1.2.2.1.length:Int)/\d.1.isSome=true/\0<=d.2.2.1/\d.2.2.1<(↑(jen d).1.2.2.1.length:Int)/\kM ((jeN d).2.2.1-(jeF d).2.2.2.1)/\d.1.isSome=true/\kM ((jeN d).2.2.1-(jeF d).2.2.2.1-(jen d).1.2.2.2.1)/\d.1.isSome=true/\(0:Int)<=(jeF d).2.1/\(jeF d).2.1<(↑(jen d).1.2.1.length:Int)/\(0:Int)<=(jeN d).2.1/\(jeN d).2.1<(↑(nth (jen d).1.2.1 (jeF d).2.1.toNat).length:Int)/\kM ((jeN d).2.2.1-(jeF d).2.2.2.1-(jen d).1.2.2.2.1-(nth (nth (jen d).1.2.1 (jeF d).2.1.toNat) (jeN d).2.1.toNat).2.1)/\((jeN d).2.2.1-(jeF d).2.2.2.1-(jen d).1.2.2.2.1-(nth (nth (jen d).1.2.1 (jeF d).2.1.toNat) (jeN d).2.1.toNat).2.1,())=(bL (U.rd (U.ro d.1)) d.2.1 d.2.2.1,())
def wV:we:=⟨[.val .int,.val .int,.ref (.ptr tRo)],[.int],false,fun d=>[d.2.2.1.isSome=true,aG (U.rd (U.ro d.2.2.1)) d.1,aG (U.rd (U.ro d.2.2.1)) d.2.1],fun d=>(sM (U.rd (U.ro d.2.2.1)) d.1 d.2.1,())⟩
abbrev jf9 (d:Int×Int×Option RoD×Unit):=(kT ((((0:Int),[],[],()),[],[],(0:Int),(0:Int),[],()),[],[],[],()) d.2.2.1)
def nj:Prop:=∀(d:Int×Int×Option RoD×Unit),d.2.2.1.isSome=true->aG (U.rd (U.ro d.2.2.1)) d.1->aG (U.rd (U.ro d.2.2.1)) d.2.1->d.2.2.1.isSome=true/\0<=d.1/\d.1<(↑(jf9 d).1.2.2.1.length:Int)/\d.2.2.1.isSome=true/\0<=d.2.1/\d.2.1<(↑(jf9 d).1.2.2.1.length:Int)/\(vY [bQ (nth (jf9 d).1.2.2.1 d.1.toNat).2.2.1 (nth (jf9 d).1.2.2.1 d.2.1.toNat).2.2.1,bQ d.1 d.2.1],())=(sM (U.rd (U.ro d.2.2.1)) d.1 d.2.1,())
def co:we:=⟨[.val (.ptr tRo),.val (.slice .int)],[.slice .int],false,fun d=>[d.1.isSome=true,Oa (U.rd (U.ro d.1)) d.2.1],fun d=>(kF (U.rd (U.ro d.1)) d.2.1,())⟩
abbrev jhi (d:Option RoD×List Int×Unit):=(aS fun(a:Int×Int×Unit)=>(sM (U.rd (U.ro d.1)) a.1 a.2.1,()))
def cq:Prop:=∀(d:Option RoD×List Int×Unit),d.1.isSome=true->Oa (U.rd (U.ro d.1)) d.2.1->(d.2.1.length<=12/\io (fun(a:Int×Int×Unit)=>[d.1.isSome=true,aG (U.rd (U.ro d.1)) a.1,aG (U.rd (U.ro d.1)) a.2.1]) d.2.1/\qP (jhi d) d.2.1/\True)/\∀(r:(List Int×Unit)×Unit),r.1.1=km (jhi d) d.2.1->r.1=(kF (U.rd (U.ro d.1)) d.2.1,())
theorem lR:(ZI (Lr 9 [(197,wV)] [] [(196,qh)] []) (fun _=>none) (hkC (Lr 9 [(197,wV)] [] [(196,qh)] []) (fun _=>none) ZM [8] [(195,20,qm)]) Tryz.f154 (wt Tryz.f154) co)=cq:=by kernel_rfl
def tR:we:=⟨[.val .int,.ref (.ptr tRo),.ref .int],[.bool],false,fun d=>[d.2.1.isSome=true,Iq (U.rd (U.ro d.2.1)),aG (U.rd (U.ro d.2.1)) d.1,aG (U.rd (U.ro d.2.1)) d.2.2.1],fun d=>(decide (bL (U.rd (U.ro d.2.1)) d.2.2.1 d.1<0),())⟩
def tS:Prop:=∀(d:Int×Option RoD×Int×Unit),d.2.1.isSome=true->Iq (U.rd (U.ro d.2.1))->aG (U.rd (U.ro d.2.1)) d.1->aG (U.rd (U.ro d.2.1)) d.2.2.1->d.2.1.isSome=true/\Iq (U.rd (U.ro d.2.1))/\aG (U.rd (U.ro d.2.1)) d.2.2.1/\aG (U.rd (U.ro d.2.1)) d.1/\(decide (bL (U.rd (U.ro d.2.1)) d.2.2.1 d.1<0),())=(decide (bL (U.rd (U.ro d.2.1)) d.2.2.1 d.1<0),())
def CI:we:=⟨[.val (.ptr tRo),.val .int,.val (.slice .int)],[.bool],false,fun d=>[d.1.isSome=true,PA (U.ro d.1),Sc (U.rd (U.ro d.1)) d.2.1,Oa (U.rd (U.ro d.1)) d.2.2.1],fun d=>(EI (U.ro d.1) d.2.1 d.2.2.1,())⟩
def CJ:Ann:=fun r=>match r with
 |4=>some fun σ=>{X:=Nat,sl:=fun i=>[(16,.dat .int (i:Int)),(7,.dat .int (gM (U.rd (U.ro (gd (.ptr tRo) σ 0))) (gd (.slice .int) σ 14) i))],ob:=fun _=>[],inv:=fun i=>i<=(gd (.slice .int) σ 14).length/\∀b:Nat,b<i->Ie (U.rd (U.ro (gd (.ptr tRo) σ 0))) (l8 (U.ro (gd (.ptr tRo) σ 0))) (gd .int σ 1) (gd (.slice .int) σ 14) b=true,mu:=fun i=>(gd (.slice .int) σ 14).length-i}
 |_=>none
abbrev je3 (d:Option RoD×Int×List Int×Unit):=(kT ((((0:Int),[],[],()),[],[],(0:Int),(0:Int),[],()),[],[],[],()) d.1)
abbrev jd6 (d:Option RoD×Int×List Int×Unit):=(U.rd (U.ro d.1))
abbrev jdT (d:Option RoD×Int×List Int×Unit):=(kF (jd6 d) d.2.2.1)
abbrev jfh (d:Option RoD×Int×List Int×Unit)(x:Nat):=(nY (nth (je3 d).2.1 (nth (jdT d) (x:Int).toNat).toNat/(2:Int)^d.2.1.toNat) (1:Int)=0)
abbrev jgP (d:Option RoD×Int×List Int×Unit)(x:Nat):=((nth (je3 d).1.2.2.1 (nth (jdT d) (x:Int).toNat).toNat).2.2.2.1-(nth (je3 d).1.2.2.1 (nth (jdT d) (x:Int).toNat).toNat).2.2.1)
abbrev jeO (d:Option RoD×Int×List Int×Unit):=(↑(jdT d).length:Int)
abbrev jhj (d:Option RoD×Int×List Int×Unit)(x:Nat):=(decide (jfh d x)||(List.take ((jeO d).toNat-((x:Int)+1).toNat) (List.drop ((x:Int)+1).toNat (jdT d))).any (kl fun(a:Int×Unit)=>(decide (bL (jd6 d) (nth (jdT d) (x:Int).toNat) a.1<0),())))
def CK:Prop:=∀(d:Option RoD×Int×List Int×Unit),d.1.isSome=true->PA (U.ro d.1)->Sc (jd6 d) d.2.1->Oa (jd6 d) d.2.2.1->d.1.isSome=true/\Oa (jd6 d) d.2.2.1/\((jdT d).length<4611686018427387904->(∃(x:Nat),((0=(x:Int)/\0=gM (jd6 d) (jdT d) x/\True)/\True)/\x<=(jdT d).length/\∀(b:Nat),b<x->Ie (jd6 d) (l8 (U.ro d.1)) d.2.1 (jdT d) b=true)/\∀(x:Nat),(x<=(jdT d).length/\∀(b:Nat),b<x->Ie (jd6 d) (l8 (U.ro d.1)) d.2.1 (jdT d) b=true)->(decide ((x:Int)<(jeO d))=true->0<=(x:Int)/\(x:Int)<(jeO d)/\d.1.isSome=true/\0<=nth (jdT d) (x:Int).toNat/\nth (jdT d) (x:Int).toNat<(↑(je3 d).1.2.2.1.length:Int)/\d.1.isSome=true/\0<=nth (jdT d) (x:Int).toNat/\nth (jdT d) (x:Int).toNat<(↑(je3 d).1.2.2.1.length:Int)/\kM (jgP d x)/\kM (gM (jd6 d) (jdT d) x+(jgP d x))/\d.1.isSome=true/\0<=nth (jdT d) (x:Int).toNat/\nth (jdT d) (x:Int).toNat<(↑(je3 d).2.1.length:Int)/\0<=d.2.1/\d.2.1<=64/\((!decide (jfh d x))=true->kM ((x:Int)+1))/\((!decide (jfh d x))=true->0<=(x:Int)+1)/\((!decide (jfh d x))=true->(x:Int)+1<=(jeO d))/\((!decide (jfh d x))=true->(jeO d)<=(jeO d))/\((!decide (jfh d x))=true->∀(g:Int),g∈List.take ((jeO d).toNat-((x:Int)+1).toNat) (List.drop ((x:Int)+1).toNat (jdT d))->kG [d.1.isSome=true,Iq (jd6 d),aG (jd6 d) g,aG (jd6 d) (nth (jdT d) (x:Int).toNat)])/\((jhj d x)=true->(false,())=(EI (U.ro d.1) d.2.1 d.2.2.1,()))/\((jhj d x)=false->kM ((x:Int)+1)/\∃(a:Nat),(((x:Int)+1=(a:Int)/\gM (jd6 d) (jdT d) x+(jgP d x)=gM (jd6 d) (jdT d) a/\True)/\True)/\(a<=(jdT d).length/\∀(b:Nat),b<a->Ie (jd6 d) (l8 (U.ro d.1)) d.2.1 (jdT d) b=true)/\(jdT d).length-a<(jdT d).length-x))/\(decide ((x:Int)<(jeO d))=false->d.1.isSome=true/\(decide (gM (jd6 d) (jdT d) x<=(je3 d).1.q4.1),())=(EI (U.ro d.1) d.2.1 d.2.2.1,())))
def xG:we:=⟨[.val (.ptr tRo),.val .int],[.int],false,fun d=>[d.1.isSome=true,(ax (U.ro d.1)).length<=60],fun d=>(cP (ax (U.ro d.1)) d.2.1,())⟩
def xH:Ann:=fun r=>match r with
 |2=>some fun σ=>{X:=Nat,sl:=fun i=>[(12,.dat .int (i:Int)),(4,.dat .int (gN (ax (U.ro (gd (.ptr tRo) σ 0))) (gd .int σ 1) i))],ob:=fun _=>[],inv:=fun i=>i<=(ax (U.ro (gd (.ptr tRo) σ 0))).length,mu:=fun i=>(ax (U.ro (gd (.ptr tRo) σ 0))).length-i}
 |_=>none
abbrev jfi (d:Option RoD×Int×Unit):=(kT ((((0:Int),[],[],()),[],[],(0:Int),(0:Int),[],()),[],[],[],()) d.1)
abbrev jd7 (d:Option RoD×Int×Unit):=(ax (U.ro d.1))
def xI:Prop:=∀(d:Option RoD×Int×Unit),d.1.isSome=true->(jd7 d).length<=60->d.1.isSome=true/\((jfi d).2.2.1.length<4611686018427387904->(∃(x:Nat),((0=(x:Int)/\0=gN (jd7 d) d.2.1 x/\True)/\True)/\x<=(jd7 d).length)/\∀(x:Nat),x<=(jd7 d).length->(decide ((x:Int)<(jfi d).2.2.1.length)=true->0<=(x:Int)/\(x:Int)<(jfi d).2.2.1.length/\(((nth (jfi d).2.2.1 (x:Int).toNat).any fun(b:Int)=>decide (b=d.2.1))=true->0<=(x:Int)/\(x:Int)<=64/\kM ((1:Int)*2^(x:Int).toNat)/\kM ((x:Int)+1)/\∃(a:Nat),(((x:Int)+1=(a:Int)/\bor (gN (jd7 d) d.2.1 x) ((1:Int)*2^(x:Int).toNat)=gN (jd7 d) d.2.1 a/\True)/\True)/\a<=(jd7 d).length/\(jd7 d).length-a<(jd7 d).length-x)/\(((nth (jfi d).2.2.1 (x:Int).toNat).any fun(b:Int)=>decide (b=d.2.1))=false->kM ((x:Int)+1)/\∃(a:Nat),((gN (jd7 d) d.2.1 x=gN (jd7 d) d.2.1 a/\(x:Int)+1=(a:Int)/\True)/\True)/\a<=(jd7 d).length/\(jd7 d).length-a<(jd7 d).length-x))/\(decide ((x:Int)<(jfi d).2.2.1.length)=false->(gN (jd7 d) d.2.1 x,())=(cP (jd7 d) d.2.1,())))
def xJ:we:=⟨[.val (.ptr tRo),.val .int,.val .int],[.bool],false,fun d=>[d.1.isSome=true,aG (U.rd (U.ro d.1)) d.2.1],fun d=>(Dz (U.rd (U.ro d.1)) d.2.1 d.2.2.1,())⟩
abbrev jfF (d:Option RoD×Int×Int×Unit):=(kT ((((0:Int),[],[],()),[],[],(0:Int),(0:Int),[],()),[],[],[],()) d.1)
def xK:Prop:=∀(d:Option RoD×Int×Int×Unit),d.1.isSome=true->aG (U.rd (U.ro d.1)) d.2.1->d.1.isSome=true/\d.1.isSome=true/\0<=d.2.1/\d.2.1<(↑(jfF d).1.2.2.1.length:Int)/\(decide (aw (jfF d).1.1 (nth (jfF d).1.2.2.1 d.2.1.toNat).1 d.2.2.1=0)&&decide (ja5 (jfF d).1.1 (nth (jfF d).1.2.2.1 d.2.1.toNat).1 d.2.2.1=0)&&decide (d.2.2.1≠0),())=(Dz (U.rd (U.ro d.1)) d.2.1 d.2.2.1,())
theorem vb {d:DyD} (h:wE d=true):(kB d).length<=4/\(1<=(wl d).length/\(wl d).length<=5)/\(0<=K5 d/\K5 d<=300)/\(0<=X5 d/\X5 d<=1440)/\(kX d).length<=30/\
 (∀r∈wl d,aM (wl d).length r=true)/\(∀b∈kB d,iQ (wl d).length b=true)/\∀s∈kX d,d6 (kB d).length (kC (kE d)).length s=true:=by
 unfold wE at h;simp only[ji,jr,jV] at h;obtain⟨⟨e,f,g,i,j,k,l,m⟩,n,a,c⟩:=h;exact⟨e,⟨f,g⟩,⟨i,j⟩,⟨k,l⟩,m,n,a,c⟩
theorem jcT {d:DyD} {b:Int} (h:aG d b):U.bk d b∈kB d:=by
 unfold U.bk;exact L.kw (by unfold aG at h;omega)
theorem mE {d:DyD} (h:wE d=true) {b:Int} (a:aG d b):(0<=jaM (U.bk d b)/\jaM (U.bk d b)<((wl d).length:Int))/\0<=qn (U.bk d b)/\qn (U.bk d b)<mN (U.bk d b)/\mN (U.bk d b)<=1440:=by
 have:=(vb h).2.2.2.2.2.2.1 _ (jcT a);unfold iQ at this;have:=ja this;omega
theorem J4 {d:DyD} (h:wE d=true) {i:Nat} (hi:i<(wl d).length):(nth (wl d) i).length=(wl d).length/\∀j,j<(wl d).length->0<=U.lo (nth (nth (wl d) i) j)/\U.lo (nth (nth (wl d) i) j)<=U.hi (nth (nth (wl d) i) j)/\U.hi (nth (nth (wl d) i) j)<=300:=by
 have:=(vb h).2.2.2.2.2.1 _ (L.kw hi);unfold aM at this;rw[ji,jr,jV] at this;refine⟨this.1,fun j b=> ?_⟩;have a:=this.2 _ (L.kw (l:=nth (wl d) i) (i:=j) (by omega));unfold sG at a;exact ja a
theorem Ue {d:DyD} (h:wE d=true) {a b:Int} (c:aG d a) (e:aG d b):0<=jaN d a b/\jaN d a b<=300:=by
 have f:=(mE h c).1;have g:=(mE h e).1;have:=(J4 h (i:=(jaM (U.bk d a)).toNat) (by omega)).2 (jaM (U.bk d b)).toNat (by omega);unfold jaN;omega
theorem xL:tQ:=by
 unfold tQ jeN jeF jen;rintro⟨(_|r),a,b,⟨⟩⟩ h c d e;cases h;obtain⟨c1,c2,c⟩:Iq (U.rd r):=c;have d:aG (U.rd r) a:=d;have e:aG (U.rd r) b:=e;have g:=mE c d;have j:=mE c e;have k:=Ue c d e;have l:=(vb c).2.2.1;have m:=(J4 c (i:=(jaM (U.bk (U.rd r) a)).toNat) (by omega)).1;have f:(0<=a/\a<((kB (U.rd r)).length:Int))/\0<=b/\b<((kB (U.rd r)).length:Int):=⟨d,e⟩;refine⟨rfl,f.1.1,f.1.2,rfl,f.2.1,f.2.2,?_,rfl,?_,rfl,g.1.1,g.1.2,j.1.1,?_,?_,rfl⟩;show kM (qn (U.bk (U.rd r) b)-mN (U.bk (U.rd r) a));exact iZ6;show kM (qn (U.bk (U.rd r) b)-mN (U.bk (U.rd r) a)-K5 (U.rd r));exact iZ6;show jaM (U.bk (U.rd r) b)<((nth (wl (U.rd r)) (jaM (U.bk (U.rd r) a)).toNat).length:Int);omega;show kM (qn (U.bk (U.rd r) b)-mN (U.bk (U.rd r) a)-K5 (U.rd r)-jaN (U.rd r) a b);exact iZ6
theorem tT:wo PR 156 tP:=wb xL Tryz.func156 kcN koN
theorem pe:nj:=by
 unfold nj jf9;rintro⟨a,b,(_|r),⟨⟩⟩ e c d;cases e;have c:aG (U.rd r) a:=c;have d:aG (U.rd r) b:=d;exact⟨rfl,c.1,c.2,rfl,d.1,d.2,rfl⟩
theorem nq:wo PR 197 wV:=wb pe Tryz.func197 (kcC vV (kcC aQ kcN)) koN
theorem Z4 (d:DyD):fC (sM d):=by
 have e:sM d=R8 (fun a b=>bQ (qn (U.bk d a)) (qn (U.bk d b))) bQ:=by
  funext a b;unfold sM;rw[ww,qD];rfl
 rw[e];exact oX (nO lG (fun a=>qn (U.bk d a))) lG
theorem Uf {d:DyD} {a b:Int} (h:sM d a b=0):a=b:=by
 unfold sM at h;rw[ww] at h
 split at h
 contradiction;rw[qD] at h;exact gS.1 h
theorem Ug (d:DyD) (a b:Int):decide (sM d a b<0)=cu d a b:=by
 unfold sM cu;rw[ww,qD];refine decide_eq_decide.2 ?_;by_cases c:qn (U.bk d a)<qn (U.bk d b);have e:bQ (qn (U.bk d a)) (qn (U.bk d b))= -1:=(by unfold bQ;rw[je c]);rw[e];simp;omega;by_cases f:qn (U.bk d b)<qn (U.bk d a);have e:bQ (qn (U.bk d a)) (qn (U.bk d b))=1:=(by unfold bQ;rw[jc c,je f]);rw[e];simp;omega;have e:bQ (qn (U.bk d a)) (qn (U.bk d b))=0:=(by unfold bQ;rw[jc c,jc f]);rw[e];unfold bQ;simp only[ne_eq,not_true_eq_false,if_false]
 split<;>(try split)<;>omega
theorem jdE (d:DyD) (l:List Int):qP (cu d) l:=by
 have:=AF (t:= .int) (Z4 d) (l:=l) (fun _ _ _ _ h=>Uf h);have e:(ko .int fun(x:Int×Int×Unit)=>(sM d x.1 x.2.1,()))=cu d:=by
  funext a b;exact Ug d a b
 rw[e] at this;exact this
theorem ltK (d:DyD):(aS fun(x:Int×Int×Unit)=>(sM d x.1 x.2.1,()))=cu d:=by
 funext a b;exact Ug d a b
theorem tU:cq:=by
 unfold cq jhi;rintro⟨(_|r),l,⟨⟩⟩ c f;cases c;obtain⟨d,b⟩:Oa (U.rd r) l:=f;refine⟨⟨d,fun x g y h=>⟨rfl,b x g,b y h,tZ⟩,?_,tZ⟩,fun q a=> ?_⟩;have e:=ltK (U.rd r);show qP (aS fun(x:Int×Int×Unit)=>(sM (U.rd r) x.1 x.2.1,())) l;rw[e];exact jdE _ l;have e:=ltK (U.rd r);have a:q.1.1=km (aS fun(x:Int×Int×Unit)=>(sM (U.rd r) x.1 x.2.1,())) l:=a;rw[e] at a;obtain⟨⟨q,⟨⟩⟩,⟨⟩⟩:=q;rw[show q=_ from a];rfl
theorem J5:(Lr 9 [(197,wV)] [] [(196,qh)] []).ok PR:=Mu ⟨fun _=>nq,tZ⟩ trivial ⟨xE,tZ⟩ trivial
theorem sg:wo PR 154 co:=
 jbr (body:=wt Tryz.f154) (C:=Lr 9 [(197,wV)] [] [(196,qh)] []) (hk:=hkC (Lr 9 [(197,wV)] [] [(196,qh)] []) (fun _=>none) ZM [8] [(195,20,qm)]) J5 mixed Tryz.func154 (by kernel_rfl) (by kernel_rfl) (by kernel_rfl) (by decide)
  (fun B=>Fx J5 mixed Mp (Ud lQ) B) (lR.mpr tU)
theorem xM:tS:=by
 rintro⟨b,(_|r),a,⟨⟩⟩ c f e d;cases c;exact⟨rfl,f,d,e,rfl⟩
theorem tV:wo PR 155 tR:=wb xM Tryz.func155 (kcC tT kcN) koN
theorem CL {d:DyD} {s:List Int} {i:Nat} (h:i<s.length):gM d s (i+1)=gM d s i+(mN (U.bk d (nth s i))-qn (U.bk d (nth s i))):=by
 unfold gM N9;rw[L.k8 h,zv,jT];rfl
theorem Uh {d:DyD} (a:wE d=true) {s:List Int} (c:∀b∈s,aG d b):∀i,i<=s.length->0<=gM d s i/\gM d s i<=1440*(i:Int)
 |0,_=>⟨zK _,zK _⟩
 |i+1,hi=>by
  have f:=Uh a c i (by omega)
  have e:=mE a (c _ (L.kw (l:=s) (i:=i) (by omega)))
  rw[CL (by omega)]
  omega
theorem M2 {d:DyD} {l:List Int} {b:Int}:b∈kF d l↔b∈l:=(wq l).mem_iff
theorem M3 (d:DyD) (l:List Int):(kF d l).length=l.length:=(wq l).length_eq
theorem Eb:CK:=by
 unfold CK jhj jeO jgP jfh jdT jd6 je3 Prod.q4;rintro⟨(_|r),p,l,⟨⟩⟩ D v q K;cases D;obtain⟨⟨c1,c2,u⟩,v⟩:PA r:=v;have q:Sc (U.rd r) p:=q;obtain⟨z,A⟩:Oa (U.rd r) l:=K;have N:=(w7 c1).2.2.1;refine⟨rfl,⟨z,A⟩,fun _=> ?_⟩;obtain⟨s,o⟩:∃s,s=kF (U.rd r) l:=⟨_,rfl⟩;have O:s.length<=12:=(by rw[o,M3];exact z);have k:∀b∈s,aG (U.rd r) b:=fun b d=>A b (by rw[o] at d;exact M2.1 d)
 have t:U.ro (some r)=r:=rfl;simp only[t,<-o];refine⟨⟨0,⟨⟨rfl,rfl,tZ⟩,tZ⟩,jv _,fun b d=>by omega⟩,fun x w=>⟨fun h=> ?_,fun h=> ?_⟩⟩;have h:(x:Int)<s.length:=ja h;have a:x<s.length:=(by omega);have d:=k _ (L.kw a);have H:=mE u d;have M:=Uh u k x (by omega);have C:((x:Int)+1).toNat=x+1:=(by omega);have B:(s.drop (x+1)).take (s.length-(x+1))=s.drop (x+1):=zA (by rw[z6];omega);have I:qn (U.bk (U.rd r) (nth s x))=(nth (kB (U.rd r)) (nth s x).toNat).2.2.1:=rfl;simp only[ju,C,B];have n:(nth s x)<((l8 r).length:Int):=(by rw[v];exact d.2);have m:Ie (U.rd r) (l8 r) p s x= !(decide (nY (nth (l8 r) (nth s x).toNat/2^p.toNat) 1=0)||(s.drop (x+1)).any (fun c=>decide (bL (U.rd r) (nth s x) c<0))):=rfl;have j:((s.drop (x+1)).any (kl fun(y:Int×Unit)=>(decide (bL (U.rd r) (nth s x) y.fst<0),())))=(s.drop (x+1)).any (fun c=>decide (bL (U.rd r) (nth s x) c<0)):=rfl;unfold Sc at q;refine⟨by omega,h,rfl,d.1,d.2,rfl,d.1,d.2,?_,?_,rfl,d.1,n,q.1,by omega,fun _=>iZ6,fun _=>by omega,fun _=>by omega,fun _=>by omega,fun _ g J=>⟨rfl,⟨c1,c2,u⟩,k g (ke J),d,tZ⟩,fun f=> ?_,fun f=>⟨iZ6,x+1,⟨⟨by simp,(CL a).symm,tZ⟩,tZ⟩,⟨by omega,fun b G=> ?_⟩,by omega⟩⟩;show kM (mN (U.bk (U.rd r) (nth s x))-qn (U.bk (U.rd r) (nth s x)));exact iZ6;show kM (gM (U.rd r) s x+(mN (U.bk (U.rd r) (nth s x))-qn (U.bk (U.rd r) (nth s x))));exact iZ6;have f:(decide (nY (nth (l8 r) (nth s x).toNat/2^p.toNat) 1=0)||((s.drop (x+1)).any (kl fun(y:Int×Unit)=>(decide (bL (U.rd r) (nth s x) y.fst<0),()))))=true:=f;have f:Ie (U.rd r) (l8 r) p s x=false:=(by rw[m,<-j,f];rfl);have:EI r p l=false:=by
  unfold EI Oc jaO;rw[<-o];have:(List.range s.length).all (Ie (U.rd r) (l8 r) p s)=false:=by
   rw[zV];exact⟨x,by simpa using a,by rw[f];simp⟩
  rw[this];rfl
 rw[this];by_cases e:b=x;subst e;have f:(decide (nY (nth (l8 r) (nth s b).toNat/2^p.toNat) 1=0)||((s.drop (b+1)).any (kl fun(y:Int×Unit)=>(decide (bL (U.rd r) (nth s b) y.fst<0),()))))=false:=f;rw[m,<-j,f];rfl;exact w.2 b (by omega);have h:¬(x:Int)<s.length:=jd h;have a:x=s.length:=(by have:=w.1;omega);refine⟨rfl,?_⟩;have E:(List.range s.length).all (Ie (U.rd r) (l8 r) p s)=true:=by
  rw[jV];intro i hi;exact w.2 i (by rw[a];simpa using hi)
 have F:gM (U.rd r) s x=N9 (U.rd r) s:=by
  unfold gM;rw[a,zA (jj _)]
 rw[F];have:EI r p l=decide (N9 (U.rd r) s<=X5 (U.rd r)):=by
  unfold EI Oc jaO;rw[<-o,E,Bool.true_and]
 rw[this];rfl
theorem CM:wo PR 109 CI:=q7 CJ Eb Tryz.func109 (kcC sg (kcC tV (kcC vN kcN))) koN
theorem CN (on:List (List Int)) (b:Int) (n:Nat):gN on b (n+1)=if(nth on n).any (fun x=>decide (x=b))=true then bor (gN on b n) (1*2^n) else gN on b n:=by
 unfold gN;rw[ze,jT];rfl
theorem CO (n:Nat):(1:Int)*2^n=2^n:=Int.one_mul _
theorem CP:xI:=by
 unfold xI jd7 jfi;rintro⟨(_|r),b,⟨⟩⟩ g d;cases g;have d:(ax r).length<=60:=d;have c:U.ro (some r)=r:=rfl;refine⟨rfl,fun _=>⟨⟨0,⟨⟨rfl,rfl,tZ⟩,tZ⟩,jv _⟩,fun x f=>⟨fun h=> ?_,fun h=> ?_⟩⟩⟩;have h:(x:Int)<(ax r).length:=ja h;have e:=CN (ax r) b x;have i:BT.qS ((2:Int)^x):=BT.mQ (by omega);unfold BT.qS at i;simp only[ju,c];refine⟨by omega,h,fun a=>⟨by omega,by omega,by rw[CO];exact iZ6,iZ6,x+1,⟨⟨by simp,?_,tZ⟩,tZ⟩,by omega,by omega⟩,fun a=>⟨iZ6,x+1,⟨⟨?_,by simp,tZ⟩,tZ⟩,by omega,by omega⟩⟩;rw[e];have a:((nth (ax r) x).any fun y=>decide (y=b))=true:=a;rw[je a];rw[e];have a:((nth (ax r) x).any fun y=>decide (y=b))=false:=a;rw[jc (by rw[a];simp)];have h:¬(x:Int)<(ax r).length:=jd h;have f:x<=(ax r).length:=f;rw[show x=(ax r).length by omega];rfl
theorem ij:wo PR 48 xG:=q7 xH CP Tryz.func48 (kcC cm kcN) koN
theorem CQ:xK:=by
 unfold xK jfF;rintro⟨(_|r),b,t,⟨⟩⟩ c a;cases c;have a:aG (U.rd r) b:=a;exact⟨rfl,rfl,a.1,a.2,rfl⟩
theorem xN:wo PR 49 xJ:=wb CQ Tryz.func49 (kcC MN kcN) koN
theorem pf {l:List ShD} {s:ShD}:s∈wy l↔s∈l:=by
 have e:wy l=aF (fun a b=>decide (a=b)) (km (ko tSh fun x=>(cw x.1 x.2.1,())) l):=by
  unfold wy;congr 1
 rw[e,L.comp_mem];exact(wq l).mem_iff
theorem J6 (l:List ShD):(wy l).Nodup:=by
 have e:wy l=aF (fun a b=>decide (a=b)) (km (ko tSh fun x=>(cw x.1 x.2.1,())) l):=by
  unfold wy;congr 1
 rw[e];refine L.asc_nodup (lt:=ko tSh fun x=>(cw x.1 x.2.1,())) (fun x=> ?_) (L.comp_asc (W8 _) (ba (W8 l)));exact(W8 [x]).irrefl x (List.mem_singleton.2 rfl)
theorem YA (l:List ShD):∀i,i<=l.length->∀k,kW 0 (kL .int k (vH [] l i))=(((l.take i).countP (fun s=>decide (yc s=k)):Nat):Int)
 |0,_,k=>rfl
 |i+1,hi,k=>by
  have a:=YA l i (by omega)
  rw[dK (by omega),L.k8 (by omega),zQ]
  unfold mO
  by_cases e:k=yc (nth l i)
  rw[e]
  rw[M.pC (kt:= .int) (yc (nth l i)) (kW 0 (kL .int (yc (nth l i)) (vH [] l i))+1) (vH [] l i)]
  show kW 0 (kL .int (yc (nth l i)) (vH [] l i))+1=_
  rw[a]
  simp
  rw[M.cT (kt:= .int) (k:=yc (nth l i)) (k':=k) e (kW 0 (kL .int (yc (nth l i)) (vH [] l i))+1) (vH [] l i),a]
  have:decide (yc (nth l i)=k)=false:=zl fun h=>e h.symm
  simp[this]
theorem Pd {l:List ShD} {i:Nat} (h:i<l.length):sL [] l i=(l.take i).any (fun s=>decide (yc s=yc (nth l i))):=by
 unfold sL Pz;rw[<-dK h,YA l (i+1) (by omega),L.k8 h,zQ];rw[j6,jr,j8];have b:List.countP (fun s=>decide (yc s=yc (nth l i))) [nth l i]=1:=(by simp);rw[b];constructor;intro a;have:0<(l.take i).countP (fun s=>decide (yc s=yc (nth l i))):=(by omega);rw[List.countP_pos_iff] at this;exact this;intro a;have:0<(l.take i).countP (fun s=>decide (yc s=yc (nth l i))):=List.countP_pos_iff.2 a;omega
theorem Z5 (l:List ShD):Sb l=false↔(l.map yc).Nodup:=by
 have g:Sb l=false↔∀i,i<l.length->sL [] l i=false:=by
  unfold Sb;constructor;intro h i hi;cases k:sL [] l i with
  |false=>rfl
  |true=>
   exfalso;have b:(List.range l.length).findIdx? (sL [] l)≠none:=by
    intro f;rw[List.findIdx?_eq_none_iff] at f;have:=f i (jC.2 hi);rw[k] at this;cases this
   unfold l7 yg at h;cases d:(List.range l.length).findIdx? (sL [] l) with
   |none=>exact b d
   |some j=>
    rw[d] at h;have h:=jd h;exact h (zb j)
  intro h;rw[(FG h).1];rfl
 rw[g,List.nodup_iff_pairwise_ne,zL,zz];constructor;intro h i j hi a m e;have:=h j a;rw[Pd a,zh] at this;have c:=this (l[i]) (by rw[zi];exact⟨i,by omega,rfl⟩);rw[L.wD a] at c;simp[e] at c;intro h i hi;rw[Pd hi,zh];intro s b;rw[zi] at b;obtain⟨j,a,rfl⟩:=b;have:=h j i (by omega) hi (by omega);rw[L.wD hi];simpa using this
theorem Ui (l:List ShD):Sb (wy l)=false↔∀a∈l,∀b∈l,yc a=yc b->a=b:=by
 rw[Z5];constructor;intro h a c b d e;exact L.nodup_inj h (pf.2 c) (pf.2 d) e;intro h;rw[List.nodup_iff_pairwise_ne,zL];exact(List.Pairwise.imp_of_mem (fun{a b} c d f e=>f (h a (pf.1 c) b (pf.1 d) e)) (J6 l))
theorem J7 (l:List ShD):aN l=false↔∀a∈l,∀b∈l,yc a=yc b->a=b:=by
 have k:aN l=false↔∀i,i<l.length->∀j,j<i->Dw (nth l i) (nth l j)=false:=by
  unfold aN y8 AO;rw[zh];constructor;intro h i hi j d;have:=h i (jC.2 hi);rw[zR,zh] at this;have:=this (nth l j) (by rw[zi];exact⟨j,by omega,(L.wD (by omega)).symm⟩);simpa using this;intro h i hi;have hi:=jC.1 hi;rw[zR,zh];intro s g;rw[zi] at g;obtain⟨j,d,rfl⟩:=g;have:=h i hi j (by omega);rw[L.wD (l:=l) (i:=j) (by omega)] at this;simpa using this
 rw[k];have f:∀a b:ShD,Dw a b=false↔(yc a=yc b->a=b):=by
  intro a b;unfold Dw;rw[Bool.and_eq_false_iff];simp only[jD,zc,jr];constructor;rintro(h|h) e;exact absurd e h;exact h;intro h;by_cases e:yc a=yc b;exact .inr (h e);exact .inl e
 constructor;intro h a m b n e;obtain⟨i,hi,rfl⟩:=L.mem_iff.1 m;obtain⟨j,d,rfl⟩:=L.mem_iff.1 n;rcases Nat.lt_trichotomy i j with c|rfl|c;exact((f _ _).1 (h j d i c) e.symm).symm;rfl;exact(f _ _).1 (h i hi j c) e;intro h i hi j d;exact(f _ _).2 (h _ (L.kw hi) _ (L.kw (by omega)))
theorem Uj (l:List ShD):Sb (wy l)=aN l:=by
 have:=(Ui l).trans (J7 l).symm;cases a:Sb (wy l) with
 |false=>exact(this.1 a).symm
 |true=>
  cases b:aN l with
  |false=>rw[this.2 b] at a;cases a
  |true=>rfl
theorem gx (d:DyD):wm d=gL d:=by
 unfold wm uo gL;rw[Uj]
 split
 rfl
 split
 rfl;rw[jc (by simp)]
abbrev tSt:Ty:= .st [.int,.int]
abbrev jcz:Sh:= .box 127 [.dat .int,.dat (.slice tPe),.dat (.slice tLw),.dat (.slice (.slice tSp)),.dat (.slice tBk),.dat .int,.dat .int,.dat (.slice tSh),.row 3 .int .yes,.row 31 (.slice .int) .no,.row 3 .int .unk]
namespace U
def noI:List Int:=[]
def vo (b:jcz.D):RoD:=(((b.1,b.2.1,b.2.2.1,()),b.2.2.2.1,b.2.2.2.2.1,b.2.2.2.2.2.1,b.2.2.2.2.2.2.1,b.2.2.2.2.2.2.2.1,()),b.2.2.2.2.2.2.2.2.1,b.2.2.2.2.2.2.2.2.2.1,b.2.2.2.2.2.2.2.2.2.2.1,())
def Ao (b:jcz.D) (x:List (List Int)×List Int):jcz.D:=(b.1,b.2.1,b.2.2.1,b.2.2.2.1,b.2.2.2.2.1,b.2.2.2.2.2.1,b.2.2.2.2.2.2.1,b.2.2.2.2.2.2.2.1,b.2.2.2.2.2.2.2.2.1,x.1,x.2,())
def bZ (s:ShD):Int×Int×Unit:=(K4 s,nU s,())
def qa (l:List ShD) (n:Nat):List ((Int×Int×Unit)×ShD):=(l.take n).foldl (fun m s=>eK tSt (bZ s) s m) []
def ve (m:List ((Int×Int×Unit)×ShD)) (s:ShD):Bool:= !(!decide (kW (Ty.dflt tSh) (kL tSt (bZ s) m)=s)|| !decide (V4 s=1))
def La (d:DyD) (cv:List Int) (m:List ((Int×Int×Unit)×ShD)) (x:List (List Int)×List Int) (s:ShD):List (List Int)×List Int:=
 if ve m s=true then(if Oc d cv (nU s) (nth x.1 (nU s).toNat++[K4 s])=true then(x.1.set (nU s).toNat (nth x.1 (nU s).toNat++[K4 s]),x.2) else(x.1,x.2++[yc s])) else x
def jdM (l:List ShD):List ShD:=km (ko tSh fun x=>(kK x.1 x.2.1,())) l
def qj (d:DyD):List ShD:=jdM (wy (kX d))
def vk (r:RoD) (l:List ShD) (n:Nat):List (List Int)×List Int:=(l.take n).foldl (La (rd r) (l8 r) (qa l l.length)) (ax r,jdc r)
def aH (r:RoD):List (List Int)×List Int:=((vk r (qj (rd r)) (qj (rd r)).length).1,Dv (vk r (qj (rd r)) (qj (rd r)).length).2)
def jaP (l:List (List Int)):Prop:=∀x∈l,x=noI
def X8 (r:RoD):Prop:=(wm (rd r)=0/\(l8 r).length=(kB (rd r)).length)/\((ax r).length=(kC (kE (rd r))).length/\jaP (ax r))/\jdc r=noI
def cx (r:RoD) (l:List ShD) (n:Nat) (x:List (List Int)×List Int):Prop:=x.1.length=(kC (kE (rd r))).length/\x.2.length<=n/\∀p:Nat,(nth x.1 p).Nodup/\∀b∈nth x.1 p,aG (rd r) b/\∃i:Nat,i<n/\bZ (nth l i)=(b,(p:Int),())/\kW (Ty.dflt tSh) (kL tSt (bZ (nth l i)) (qa l l.length))=nth l i
end U
def bx (σ:St) (o:Nat):List SV:=match σ.obj o with|some (.box _ _ cs)=>cs|_=>[]
def gb (t:Ty) (σ:St) (o:Nat):t.Data:=match vT σ t (bx σ o) with|some (x,_)=>x|none=>t.dflt
abbrev Ec:qd:=TE 3
def tW:qd:=⟨[.own jcz true],[],fun d=>[X8 (vo d.1)],fun d=>((),(Ao d.1 (aH (vo d.1)),()))⟩
def tX:Ann:=fun r=>match r with
 |4=>some fun σ=>{X:=Nat,sl:=fun i=>[(20,.dat .int (i:Int))],ob:=fun i=>[(9,some (.map false tSt tSh (qa (gr tSh σ 3) i)))],inv:=fun i=>i<=(gr tSh σ 3).length,mu:=fun i=>(gr tSh σ 3).length-i}
 |9=>some fun σ=>{X:=Nat,sl:=fun i=>[(34,.dat .int (i:Int))],ob:=fun i=>[(400009,some (.row 31 (.slice .int) false .no (vk (gb tRo σ 1000000) (gr tSh σ 3) i).1)),(400010,some (.row 3 .int false .unk (vk (gb tRo σ 1000000) (gr tSh σ 3) i).2))],inv:=fun i=>i<=(gr tSh σ 3).length/\cx (gb tRo σ 1000000) (gr tSh σ 3) i (vk (gb tRo σ 1000000) (gr tSh σ 3) i),mu:=fun i=>(gr tSh σ 3).length-i}
 |_=>none
abbrev jdZ (d:(Int×List PeD×List LwD×List (List (Int×Int×Unit))×List BkD×Int×Int×List ShD×List Int×List (List Int)×List Int×Unit)×Unit):=(((d.1.1,d.1.2.1,d.1.2.2.1,()),d.1.2.2.2.1,d.1.q4.1,d.1.q4.2.1,d.1.q4.2.2.1,d.1.q4.2.2.2.1,()),d.1.q4.q4)
abbrev jga:=(Ty.int.pair (Ty.int.pair Ty.unit))
abbrev jhk:=(ko (Ty.int.pair (Ty.int.pair (Ty.int.pair jga))) fun(a:ShD×ShD×Unit)=>(kK a.1 a.2.1,()))
abbrev jdO (d:(Int×List PeD×List LwD×List (List (Int×Int×Unit))×List BkD×Int×Int×List ShD×List Int×List (List Int)×List Int×Unit)×Unit):=(km jhk (wy d.1.q4.2.2.2.1))
abbrev jdR (d:(Int×List PeD×List LwD×List (List (Int×Int×Unit))×List BkD×Int×Int×List ShD×List Int×List (List Int)×List Int×Unit)×Unit)(a:Nat):=(nth (jdO d) (a:Int).toNat)
abbrev jdU (d:(Int×List PeD×List LwD×List (List (Int×Int×Unit))×List BkD×Int×Int×List ShD×List Int×List (List Int)×List Int×Unit)×Unit)(a:Nat):=(vk (jdZ d) (jdO d) a)
abbrev jfj (d:(Int×List PeD×List LwD×List (List (Int×Int×Unit))×List BkD×Int×Int×List ShD×List Int×List (List Int)×List Int×Unit)×Unit)(a:Nat):=(some (((d.1.1,d.1.2.1,d.1.2.2.1,()),d.1.2.2.2.1,d.1.q4.1,d.1.q4.2.1,d.1.q4.2.2.1,d.1.q4.2.2.2.1,()),d.1.q4.q4.1,(jdU d a).1,(jdU d a).2,()))
abbrev jhl:=((0:Int),(0:Int),(0:Int),(0:Int),(0:Int),())
def tY:Prop:=∀(d:(Int×List PeD×List LwD×List (List (Int×Int×Unit))×List BkD×Int×Int×List ShD×List Int×List (List Int)×List Int×Unit)×Unit),X8 (vo d.1)->d.1.q4.2.2.2.1.length<=100000/\(∀(c:ShD),c∈wy d.1.q4.2.2.2.1->∀(y:ShD),y∈wy d.1.q4.2.2.2.1->kG [])/\qP jhk (wy d.1.q4.2.2.2.1)/\((jdO d).length<4611686018427387904->(∃(x:Nat),((0=(x:Int)/\True)/\[]=qa (jdO d) x/\True)/\x<=(jdO d).length)/\∀(x:Nat),x<=(jdO d).length->(decide ((x:Int)<(jdO d).length)=true->0<=(x:Int)/\(x:Int)<(jdO d).length/\kM ((x:Int)+1)/\∃(b:Nat),(((x:Int)+1=(b:Int)/\True)/\eK jga (nth (jdO d) (x:Int).toNat).2.2.2 (nth (jdO d) (x:Int).toNat) (qa (jdO d) x)=qa (jdO d) b/\True)/\b<=(jdO d).length/\(jdO d).length-b<(jdO d).length-x)/\(decide ((x:Int)<(jdO d).length)=false->(jdO d).length<4611686018427387904->(∃(x:Nat),((0=(x:Int)/\True)/\d.1.q4.q4.2.1=(vk (jdZ d) (jdO d) x).1/\d.1.q4.q4.2.2.1=(vk (jdZ d) (jdO d) x).2/\True)/\x<=(jdO d).length/\cx (jdZ d) (jdO d) x (vk (jdZ d) (jdO d) x))/\∀(a:Nat),a<=(jdO d).length/\cx (jdZ d) (jdO d) a (jdU d a)->(decide ((a:Int)<(jdO d).length)=true->0<=(a:Int)/\(a:Int)<(jdO d).length/\((!decide (kW jhl (kL jga (jdR d a).2.2.2 (qa (jdO d) x))=nth (jdO d) (a:Int).toNat)||decide ((jdR d a).2.2.1≠1))=true->kM ((a:Int)+1)/\∃(b:Nat),(((a:Int)+1=(b:Int)/\True)/\(jdU d a).2=(vk (jdZ d) (jdO d) b).2/\(jdU d a).1=(vk (jdZ d) (jdO d) b).1/\True)/\(b<=(jdO d).length/\cx (jdZ d) (jdO d) b (vk (jdZ d) (jdO d) b))/\(jdO d).length-b<(jdO d).length-a)/\((!decide (kW jhl (kL jga (jdR d a).2.2.2 (qa (jdO d) x))=nth (jdO d) (a:Int).toNat)||decide ((jdR d a).2.2.1≠1))=false->(0:Int)<=(jdR d a).q4.1/\(jdR d a).q4.1<(↑(jdU d a).1.length:Int)/\(0:Int)<=(jdR d a).q4.1/\(jdR d a).q4.1<(↑(jdU d a).1.length:Int)/\(0:Int)<=(jdR d a).q4.1/\(jdR d a).q4.1<(↑(jdU d a).1.length:Int)/\(↑(nth (jdU d a).1 (jdR d a).q4.1.toNat).length:Int)=(nth (jdU d a).1 (jdR d a).q4.1.toNat).length/\(↑(nth (jdU d a).1 (jdR d a).q4.1.toNat).length:Int)=(nth (jdU d a).1 (jdR d a).q4.1.toNat).length/\((nth (jdU d a).1 (jdR d a).q4.1.toNat).length+[(jdR d a).2.2.2.1].length)*8<=140737488355328/\(jfj d a).isSome=true/\PA (U.ro (jfj d a))/\Sc (U.rd (U.ro (jfj d a))) (jdR d a).q4.1/\Oa (U.rd (U.ro (jfj d a))) (nth (jdU d a).1 (jdR d a).q4.1.toNat++[(jdR d a).2.2.2.1])/\(EI (U.ro (jfj d a)) (jdR d a).q4.1 (nth (jdU d a).1 (jdR d a).q4.1.toNat++[(jdR d a).2.2.2.1])=true->(0:Int)<=(jdR d a).q4.1/\(jdR d a).q4.1<(↑(jdU d a).1.length:Int)/\kM ((a:Int)+1)/\∃(b:Nat),(((a:Int)+1=(b:Int)/\True)/\(jdU d a).2=(vk (jdZ d) (jdO d) b).2/\(jdU d a).1.set (jdR d a).q4.1.toNat (nth (jdU d a).1 (jdR d a).q4.1.toNat++[(jdR d a).2.2.2.1])=(vk (jdZ d) (jdO d) b).1/\True)/\(b<=(jdO d).length/\cx (jdZ d) (jdO d) b (vk (jdZ d) (jdO d) b))/\(jdO d).length-b<(jdO d).length-a)/\(EI (U.ro (jfj d a)) (jdR d a).q4.1 (nth (jdU d a).1 (jdR d a).q4.1.toNat++[(jdR d a).2.2.2.1])=false->((jdU d a).2.length+[(jdR d a).1].length)*8<=140737488355328/\kM ((a:Int)+1)/\∃(b:Nat),(((a:Int)+1=(b:Int)/\True)/\(jdU d a).1=(vk (jdZ d) (jdO d) b).1/\(d.1.1=d.1.1/\d.1.2.1=d.1.2.1/\d.1.2.2.1=d.1.2.2.1/\d.1.2.2.2.1=d.1.2.2.2.1/\d.1.q4.1=d.1.q4.1/\d.1.q4.2.1=d.1.q4.2.1/\d.1.q4.2.2.1=d.1.q4.2.2.1/\d.1.q4.2.2.2.1=d.1.q4.2.2.2.1/\True/\True/\True/\True)/\(jdU d a).2++[(jdR d a).1]=(vk (jdZ d) (jdO d) b).2/\True)/\(b<=(jdO d).length/\cx (jdZ d) (jdO d) b (vk (jdZ d) (jdO d) b))/\(jdO d).length-b<(jdO d).length-a)))/\(decide ((a:Int)<(jdO d).length)=false->()=()/\((d.1.1,d.1.2.1,d.1.2.2.1,d.1.2.2.2.1,d.1.q4.1,d.1.q4.2.1,d.1.q4.2.2.1,d.1.q4.2.2.2.1,d.1.q4.q4.1,(jdU d a).1,Dv (jdU d a).2,()),())=(Ao d.1 (aH (vo d.1)),()))))
theorem qL {d:DyD} (h:wm d=0):Iq d/\∀a∈kX d,∀b∈kX d,yc a=yc b->a=b:=by
 unfold wm uo at h;cases c:kU (kE d) with
 |false=>rw[c] at h;simp at h
 |true=>
  cases e:K6 d with
  |false=>rw[c,e] at h;simp at h
  |true=>
   cases f:wE d with
   |false=>rw[c,e,f] at h;simp at h
   |true=>
    cases g:Sb (wy (kX d)) with
    |true=>rw[c,e,f,g] at h;simp at h
    |false=>exact⟨⟨c,e,f⟩,(Ui _).1 g⟩
theorem Z6:fC kK:=by
 have e:kK=R8 (fun a b=>bQ (Ip a) (Ip b)) (fun a b=>bQ (yc a) (yc b)):=by
  funext a b;unfold kK;rw[ww,qD];rfl
 rw[e];exact oX (nO lG Ip) (nO lG yc)
theorem Uk {a b:ShD} (h:kK a b=0):yc a=yc b:=by
 unfold kK at h;rw[ww,qD] at h
 split at h
 contradiction;exact gS.1 h
theorem jdm {d:DyD} (h:wm d=0):qP (ko tSh fun x=>(kK x.1 x.2.1,())) (wy (kX d)):=
 AF Z6 (fun a b e f c=>(qL h).2 a (pf.1 e) b (pf.1 f) (Uk c))
theorem fP {d:DyD} {s:ShD}:s∈qj d↔s∈kX d:=((wq _).mem_iff).trans pf
theorem dR (d:DyD):(qj d).Nodup:=(wq _).nodup_iff.2 (J6 _)
theorem Z7 (d:DyD):(qj d).length<=(kX d).length:=by
 unfold qj jdM;rw[(wq _).length_eq];exact T9 _
theorem AG {d:DyD} (h:wE d=true) {s:ShD} (a:s∈kX d):(0<=nU s/\nU s<((kC (kE d)).length:Int))/\aG d (K4 s):=by
 have:=(vb h).2.2.2.2.2.2.2 _ a;unfold d6 at this;have:=ja this;unfold aG;omega
theorem CR {l:List ShD} {i:Nat} (h:i<l.length):qa l (i+1)=eK tSt (bZ (nth l i)) (nth l i) (qa l i):=by
 unfold qa;rw[L.k8 h,jT];rfl
theorem si {r:RoD} {l:List ShD} {i:Nat} (h:i<l.length):vk r l (i+1)=La (U.rd r) (l8 r) (qa l l.length) (vk r l i) (nth l i):=by
 unfold vk;rw[L.k8 h,jT];rfl
theorem jcU {d:DyD} {l:List Int} (c:l.Nodup) (a:∀b∈l,aG d b):l.length<=(kB d).length:=by
 have:=L.nodup_len l ((List.range (kB d).length).map (fun(b:Nat)=>(b:Int))) c (fun x e=>by
  have:=a x e;unfold aG at this;exact jS.2 ⟨x.toNat,jC.2 (by omega),by omega⟩)
 simpa using this
section
variable {r:RoD} {l:List ShD} {i:Nat}
theorem Ul (t:wE (U.rd r)=true) (u:∀s∈l,s∈kX (U.rd r)) (nd:l.Nodup) (h:i<l.length) {x:List (List Int)×List Int} (w:cx (U.rd r,l8 r,ax r,jdc r,()) l i x)
 (g:ve (qa l l.length) (nth l i)=true):(nth x.1 (nU (nth l i)).toNat++[K4 (nth l i)]).Nodup/\(∀b∈nth x.1 (nU (nth l i)).toNat++[K4 (nth l i)],aG (U.rd r) b)/\
  ∀b∈nth x.1 (nU (nth l i)).toNat++[K4 (nth l i)],∃j:Nat,j<i+1/\bZ (nth l j)=(b,((nU (nth l i)).toNat:Int),())/\kW (Ty.dflt tSh) (kL tSt (bZ (nth l j)) (qa l l.length))=nth l j:=by
 obtain⟨z,A,p⟩:=w;have v:=AG t (u _ (L.kw h));have d:kW (Ty.dflt tSh) (kL tSt (bZ (nth l i)) (qa l l.length))=nth l i:=by
  unfold ve at g;simp only[jN,jP,zc,jr] at g;exact g.1
 have n:((nU (nth l i)).toNat:Int)=nU (nth l i):=(by omega);obtain⟨y,k⟩:=p (nU (nth l i)).toNat;refine⟨?_,fun b c=> ?_,fun b c=> ?_⟩;refine zF.2 ⟨y,by simp,fun a q b c e=> ?_⟩;simp at c;subst c;subst e;obtain⟨_,j,m,f,e2⟩:=k _ q;rw[n] at f;have o:bZ (nth l j)=bZ (nth l i):=f;rw[o,d] at e2;have:=(List.nodup_iff_pairwise_ne.1 nd);rw[zz] at this;refine this j i (by omega) h m ?_;rw[<-L.wD,<-L.wD h];exact e2.symm;rcases js.1 c with c|c;exact(k b c).1;simp at c;subst c;exact v.2;rcases js.1 c with c|c;obtain⟨_,j,m,f,e2⟩:=k b c;exact⟨j,by omega,f,e2⟩;simp at c;subst c;exact⟨i,by omega,by rw[n];rfl,d⟩
theorem Um {r:RoD} {x:List (List Int)×List Int} (a:cx r l i x):cx r l (i+1) x:=
 ⟨a.1,by have:=a.2.1;omega,fun p=>⟨(a.2.2 p).1,fun b c=>⟨((a.2.2 p).2 b c).1,by
  obtain⟨j,d,e⟩:=((a.2.2 p).2 b c).2
  exact⟨j,by omega,e⟩⟩⟩⟩
theorem YC (g:wE (U.rd r)=true) (j:∀s∈l,s∈kX (U.rd r)) (nd:l.Nodup) (h:i<l.length) {x:List (List Int)×List Int} (a:cx r l i x):
 cx r l (i+1) (La (U.rd r) (l8 r) (qa l l.length) x (nth l i)):=by
 unfold La;cases k:ve (qa l l.length) (nth l i) with
 |false=>rw[jc (by simp)];exact Um a
 |true=>
  rw[je rfl];have d:=Ul g j nd h a k;have m:=AG g (j _ (L.kw h))
  split
  refine⟨by show(x.1.set _ _).length=_;rw[zW];exact a.1,by have:=a.2.1;show x.2.length<=_;omega,fun p=> ?_⟩;have c:(nU (nth l i)).toNat<x.1.length:=(by rw[a.1];omega);show(nth (x.1.set (nU (nth l i)).toNat (nth x.1 (nU (nth l i)).toNat++[K4 (nth l i)])) p).Nodup/\_;rw[L.yq c]
  split
  rename_i e;subst e;exact⟨d.1,fun b f=>⟨d.2.1 b f,d.2.2 b f⟩⟩;exact(Um a).2.2 p;refine⟨a.1,?_,(Um a).2.2⟩;have:=a.2.1;show(x.2++[yc (nth l i)]).length<=_;rw[jI];simp;omega
end
theorem Pe {l:List (List Int)} (h:jaP l) (p:Nat):nth l p=[]:=by
 by_cases a:p<l.length;exact h _ (L.kw a);unfold nth;rw[za,List.getElem?_eq_none (by omega)];rfl
theorem Un {r:RoD} {l:List ShD} (a:(ax r).length=(kC (kE (U.rd r))).length) (c:jaP (ax r)) (d:jdc r=U.noI):cx r l 0 (vk r l 0):=by
 refine⟨a,?_,fun p=> ?_⟩;show(jdc r).length<=0;rw[d];exact jj 0;have e:nth (vk r l 0).1 p=[]:=Pe c p;rw[e];exact⟨List.nodup_nil,fun b f=>by cases f⟩
theorem jbB (m:List ((Int×Int×Unit)×ShD)) (s:ShD):ve m s= !(!decide (kW (Ty.dflt tSh) (kL tSt (bZ s) m)=s)||decide (V4 s≠1)):=by
 unfold ve;by_cases h:V4 s=1<;>simp[h]
section
variable {r:RoD} {l:List ShD} {i:Nat}
theorem Pf (h:i<l.length) (a:ve (qa l l.length) (nth l i)=false):vk r l (i+1)=vk r l i:=by
 rw[si h];unfold La;rw[a,jc (by simp)]
theorem Uo (h:i<l.length) (a:ve (qa l l.length) (nth l i)=true) (b:Oc (U.rd r) (l8 r) (nU (nth l i)) (nth (vk r l i).1 (nU (nth l i)).toNat++[K4 (nth l i)])=true):
 vk r l (i+1)=((vk r l i).1.set (nU (nth l i)).toNat (nth (vk r l i).1 (nU (nth l i)).toNat++[K4 (nth l i)]),(vk r l i).2):=by
 rw[si h];unfold La;rw[a,je rfl,je b]
theorem YD (h:i<l.length) (a:ve (qa l l.length) (nth l i)=true) (b:Oc (U.rd r) (l8 r) (nU (nth l i)) (nth (vk r l i).1 (nU (nth l i)).toNat++[K4 (nth l i)])=false):
 vk r l (i+1)=((vk r l i).1,(vk r l i).2++[yc (nth l i)]):=by
 rw[si h];unfold La;rw[a,je rfl,b,jc (by simp)]
end
theorem xO:tY:=by
 unfold tY jhl jfj jdU jdR jdO jhk jga jdZ Prod.q4;rintro⟨b,⟨⟩⟩ J;obtain⟨⟨hk,N⟩,⟨O,B⟩,C⟩:X8 (vo b):=J;have F:=(qL hk).1;have u:=F.2.2;have v:(kX (U.rd (vo b))).length<=30:=(vb u).2.2.2.2.1;have H:b.2.2.2.2.2.2.2.1.length<=30:=v;have M:(qj (U.rd (vo b))).length<=30:=jE (Z7 _) v;have g:∀s∈qj (U.rd (vo b)),s∈kX (U.rd (vo b)):=fun s D=>fP.1 D
 have w:=dR (U.rd (vo b));have K:(kB (U.rd (vo b))).length<=4:=(vb u).1;refine⟨by show b.2.2.2.2.2.2.2.1.length<=100000;omega,fun _ _ _ _=>tZ,jdm hk,fun _=>⟨⟨0,⟨⟨rfl,tZ⟩,rfl,tZ⟩,jv _⟩,fun x I=>⟨fun h=> ?_,fun h _=>⟨⟨0,⟨⟨rfl,tZ⟩,rfl,rfl,tZ⟩,jv _,Un (r:=vo b) O B C⟩,fun y n=>⟨fun t=> ?_,fun t=> ?_⟩⟩⟩⟩⟩;have h:(x:Int)<(qj (U.rd (vo b))).length:=ja h;have D:=CR (l:=qj (U.rd (vo b))) (i:=x) (by omega);exact⟨by omega,h,iZ6,x+1,⟨⟨by simp,tZ⟩,D.symm,tZ⟩,by show x+1<=(qj (U.rd (vo b))).length;omega,by show(qj (U.rd (vo b))).length-(x+1)<(qj (U.rd (vo b))).length-x;omega⟩;have I:x<=(qj (U.rd (vo b))).length:=I;have h:¬(x:Int)<(qj (U.rd (vo b))).length:=jd h;have E:x=(qj (U.rd (vo b))).length:=(by omega);have t:(y:Int)<(qj (U.rd (vo b))).length:=ja t;have a:y<(qj (U.rd (vo b))).length:=(by omega);obtain⟨_,e⟩:y<=(qj (U.rd (vo b))).length/\cx (vo b) (qj (U.rd (vo b))) y (vk (vo b) (qj (U.rd (vo b))) y):=n;have c:=YC (r:=vo b) u g w a e;rw[<-si a] at c;have up:y+1<=(qj (U.rd (vo b))).length:=a;have A:(qj (U.rd (vo b))).length-(y+1)<(qj (U.rd (vo b))).length-y:=(by omega);have q:=AG u (g _ (L.kw a));have o:=jbB (qa (qj (U.rd (vo b))) (qj (U.rd (vo b))).length) (nth (qj (U.rd (vo b))) y);subst E;refine⟨by omega,t,fun p=> ?_,fun p=> ?_⟩;have f:ve (qa (qj (U.rd (vo b))) (qj (U.rd (vo b))).length) (nth (qj (U.rd (vo b))) y)=false:=by
  rw[o];have p:(!decide (kW (Ty.dflt tSh) (kL tSt (bZ (nth (qj (U.rd (vo b))) y)) (qa (qj (U.rd (vo b))) (qj (U.rd (vo b))).length))=nth (qj (U.rd (vo b))) y)||decide (V4 (nth (qj (U.rd (vo b))) y)≠1))=true:=p;rw[p];rfl
 have d:=Pf (r:=vo b) a f;exact⟨iZ6,y+1,⟨⟨by simp,tZ⟩,jR (·.2) d.symm,jR (·.1) d.symm,tZ⟩,⟨up,c⟩,A⟩;have f:ve (qa (qj (U.rd (vo b))) (qj (U.rd (vo b))).length) (nth (qj (U.rd (vo b))) y)=true:=by
  rw[o];have p:(!decide (kW (Ty.dflt tSh) (kL tSt (bZ (nth (qj (U.rd (vo b))) y)) (qa (qj (U.rd (vo b))) (qj (U.rd (vo b))).length))=nth (qj (U.rd (vo b))) y)||decide (V4 (nth (qj (U.rd (vo b))) y)≠1))=false:=p;rw[p];rfl
 have j:=Ul (r:=vo b) u g w a e f;have z:=jcU j.1 j.2.1;have G:(nth (vk (vo b) (qj (U.rd (vo b))) y).1 (nU (nth (qj (U.rd (vo b))) y)).toNat).length<=4:=by
  rw[jI] at z;omega
 have k:0<=nU (nth (qj (U.rd (vo b))) y):=q.1.1;have m:nU (nth (qj (U.rd (vo b))) y)<((vk (vo b) (qj (U.rd (vo b))) y).1.length:Int):=(by rw[e.1];exact q.1.2);have P:=e.2.1;refine⟨k,m,k,m,k,m,rfl,rfl,?_,rfl,⟨F,N⟩,q.1,⟨jE z (by omega),j.2.1⟩,fun n=> ?_,fun n=> ?_⟩;show((nth (vk (vo b) (qj (U.rd (vo b))) y).1 (nU (nth (qj (U.rd (vo b))) y)).toNat).length+1)*8<=140737488355328;omega;have d:=Uo (r:=vo b) a f n;exact⟨k,m,iZ6,y+1,⟨⟨by simp,tZ⟩,jR (·.2) d.symm,jR (·.1) d.symm,tZ⟩,⟨up,c⟩,A⟩;have d:=YD (r:=vo b) a f n;refine⟨?_,iZ6,y+1,⟨⟨by simp,tZ⟩,jR (·.1) d.symm,⟨rfl,rfl,rfl,rfl,rfl,rfl,rfl,rfl,tZ,tZ,tZ,tZ⟩,jR (·.2) d.symm,tZ⟩,⟨up,c⟩,A⟩;show((vk (vo b) (qj (U.rd (vo b))) y).2.length+1)*8<=140737488355328;omega;have t:¬(y:Int)<(qj (U.rd (vo b))).length:=jd t;have n:=n.1;have n:y<=(qj (U.rd (vo b))).length:=n;have a:y=(qj (U.rd (vo b))).length:=(by omega);subst a;exact⟨rfl,rfl⟩
theorem Ed:yS PR 110 Ec:=WN Tryz.sortI 3 (qC Tryz.func110 (c:=wt Tryz.f110) (by kernel_rfl) (by kernel_rfl))
theorem t6:yS PR 75 tW:=uO tX xO Tryz.func75 (kcC MW (kcC CM kcN)) (koC r8 (koC aK (koC Ed koN)))
end Go.X
namespace Go.X
open U
open Go.Proofs
namespace U
def iq (l:List Int) (n:Nat):Int:=(l.take n).foldl (fun s p=>bor s (1*2^p.toNat)) 0
def PB (l:List Int):Int:=iq l l.length
def vf (d:DyD) (n:Nat):List Int:=((kB d).take n).map (fun b=>PB (cv (kE d) (yV b)))
def ja6 (d:DyD):List (List Int):=List.replicate (kC (kE d)).length noI
def Lu (d:DyD):RoD:=(d,vf d (kB d).length,ja6 d,noI,())
def Sd (d:DyD):RoD:=(d,vf d (kB d).length,(aH (Lu d)).1,(aH (Lu d)).2,())
def sT (d:DyD):Option RoD:=if wm d=0 then some (Sd d) else none
end U
def J8:qd:=⟨[.val tDy,.nil true],[.cl (.dat (.ptr tRo)),.cl (.dat .int)],fun d=>[(kX d.1).length<=100000],fun d=>((sT d.1,wm d.1,()),())⟩
def Up:Ann:=fun r=>match r with
 |8=>some fun σ=>{X:=Nat,sl:=fun i=>[(39,.dat .int (i:Int))],ob:=fun i=>[(27,some (.box 127 false (((bx σ 27).set 8 (.own (aB 27 8) .int)).set 10 (.own (aB 27 10) .int)))),(aB 27 10,some (.row 3 .int false .yes U.noI)),(aB 27 8,some (.row 3 .int false .yes (vf (gb tDy σ 2) i)))],inv:=fun i=>i<=(kB (gb tDy σ 2)).length,mu:=fun i=>(kB (gb tDy σ 2)).length-i}
 |13=>some fun σ=>{X:=Nat,sl:=fun i=>[(53,.dat .int (i:Int)),(12,.dat .int (iq (gd (.slice .int) σ 51) i))],ob:=fun _=>[],inv:=fun i=>i<=(gd (.slice .int) σ 51).length,mu:=fun i=>(gd (.slice .int) σ 51).length-i}
 |3000005=>some fun _=>{X:=Unit,sl:=fun _=>[],ob:=fun _=>[],inv:=fun _=>True,mu:=fun _=>0}
 |_=>none
abbrev jd0 (d:DyD×Unit×Unit)(x:Nat):=(cv d.1.1 (nth d.1.2.2.1 (x:Int).toNat).1)
abbrev jhm (d:DyD×Unit×Unit):=(d.1.1.1=d.1.1.1/\d.1.1.2.1=d.1.1.2.1/\d.1.1.2.2.1=d.1.1.2.2.1/\d.1.2.1=d.1.2.1/\d.1.2.2.1=d.1.2.2.1/\d.1.2.2.2.1=d.1.2.2.2.1/\d.1.q4.1=d.1.q4.1/\d.1.q4.2.1=d.1.q4.2.1/\True/\True/\True/\True)
abbrev jfk (d:DyD×Unit×Unit):=(d.1.1.2.1.length:Int)
abbrev jhn (d:DyD×Unit×Unit)(x:Nat):=(vo (d.1.1.1,d.1.1.2.1,d.1.1.2.2.1,d.1.2.1,d.1.2.2.1,d.1.2.2.2.1,d.1.q4.1,d.1.q4.2.1,vf d.1 x,List.replicate (jfk d).toNat [],U.noI,()))
abbrev jeo (d:DyD×Unit×Unit)(x:Nat):=(Ao (d.1.1.1,d.1.1.2.1,d.1.1.2.2.1,d.1.2.1,d.1.2.2.1,d.1.2.2.2.1,d.1.q4.1,d.1.q4.2.1,vf d.1 x,List.replicate (jfk d).toNat [],U.noI,()) (aH (jhn d x)))
def J9:Prop:=∀(d:DyD×Unit×Unit),(kX d.1).length<=100000->(kX d.1).length<=100000/\(decide (wm d.1≠0)=true->(none,wm d.1,())=(sT d.1,wm d.1,())/\()=())/\(decide (wm d.1≠0)=false->0<=(jfk d)/\(jfk d)=(jfk d)/\(jfk d).toNat*24<=140737488355328/\((!true)=true->(!true)=true/\(!true)=true/\False)/\((!true)=false->(!true)=false/\(!true)=false/\(!true)=false/\(!true)=false/\(false=true->(none,(1:Int),())=(sT d.1,wm d.1,())/\()=())/\(qF->d.1.2.2.1.length<4611686018427387904->(∃(x:Nat),((0=(x:Int)/\True)/\(jhm d)/\U.noI=[]/\vf d.1 x=[]/\True)/\x<=(kB d.1).length)/\∀(x:Nat),x<=(kB d.1).length->(decide ((x:Int)<d.1.2.2.1.length)=true->0<=(x:Int)/\(x:Int)<d.1.2.2.1.length/\((jd0 d x).length<4611686018427387904->(∃(a:Nat),((0=(a:Int)/\0=iq (jd0 d x) a/\True)/\True)/\a<=(jd0 d x).length)/\∀(a:Nat),a<=(jd0 d x).length->(decide ((a:Int)<(jd0 d x).length)=true->0<=(a:Int)/\(a:Int)<(jd0 d x).length/\0<=nth (jd0 d x) (a:Int).toNat/\nth (jd0 d x) (a:Int).toNat<=64/\kM ((1:Int)*2^(nth (jd0 d x) (a:Int).toNat).toNat)/\kM ((a:Int)+1)/\∃(b:Nat),(((a:Int)+1=(b:Int)/\bor (iq (jd0 d x) a) ((1:Int)*2^(nth (jd0 d x) (a:Int).toNat).toNat)=iq (jd0 d x) b/\True)/\True)/\b<=(jd0 d x).length/\(jd0 d x).length-b<(jd0 d x).length-a)/\(decide ((a:Int)<(jd0 d x).length)=false->((vf d.1 x).length+[iq (jd0 d x) a].length)*8<=140737488355328/\kM ((x:Int)+1)/\∃(b:Nat),(((x:Int)+1=(b:Int)/\True)/\U.noI=U.noI/\(jhm d)/\vf d.1 x++[iq (jd0 d x) a]=vf d.1 b/\True)/\b<=(kB d.1).length/\(kB d.1).length-b<(kB d.1).length-x)))/\(decide ((x:Int)<d.1.2.2.1.length)=false->X8 (jhn d x)/\(some ((((jeo d x).1,(jeo d x).2.1,(jeo d x).2.2.1,()),(jeo d x).2.2.2.1,(jeo d x).q4.1,(jeo d x).q4.2.1,(jeo d x).q4.2.2.1,(jeo d x).q4.2.2.2.1,()),(jeo d x).q4.q4.1,(jeo d x).q4.q4.2.1,(jeo d x).q4.q4.2.2.1,()),(0:Int),())=(sT d.1,wm d.1,())/\()=()))))
theorem t7 {l:List Int} {i:Nat} (h:i<l.length):iq l (i+1)=bor (iq l i) (1*2^(nth l i).toNat):=by
 unfold iq;rw[L.k8 h,jT];rfl
theorem Uq {d:DyD} {i:Nat} (h:i<(kB d).length):vf d (i+1)=vf d i++[PB (cv (kE d) (yV (nth (kB d) i)))]:=by
 unfold vf;rw[L.k8 h,zv];rfl
theorem Xd (d:DyD) (i:Nat):(vf d i).length<=i:=by
 unfold vf;rw[zr,jX];omega
theorem Ur {c:CrD} (h:kU c=true) {j:JbD} {p:Int} (a:p∈cv c j):0<=p/\p<8:=by
 have d:=(w7 h).2.2.1;unfold cv at a
 split at a
 unfold bN at a;obtain⟨n,b,rfl⟩:=jS.1 a;have:=jC.1 (jL.1 b).1;omega;cases a
theorem Z8 {c:CrD} (h:kU c=true) (j:JbD):(cv c j).length<=8:=by
 have a:=(w7 h).2.2.1;unfold cv
 split
 unfold bN;rw[zr];exact jE (z8 _ _) (by simpa using a);exact jv _
theorem Us {d:DyD} (h:wm d=0):X8 (Lu d):=by
 refine⟨⟨h,?_⟩,⟨?_,fun x a=> ?_⟩,rfl⟩;show(vf d (kB d).length).length=(kB d).length;unfold vf;simp;show(ja6 d).length=(kC (kE d)).length;unfold ja6;simp;have a:x∈ja6 d:=a;unfold ja6 at a;exact(List.mem_replicate.1 a).2
theorem M4:J9:=by
 unfold J9 jeo jhn jfk jhm jd0 Prod.q4;rintro⟨d,⟨⟩,⟨⟩⟩ j;refine⟨j,fun h=>⟨?_,rfl⟩,fun h=>⟨zb _,rfl,?_,fun c=>(by cases c),fun _=>⟨rfl,rfl,rfl,rfl,fun c=>(by cases c),fun _=> ?_⟩⟩⟩;have h:wm d≠0:=ja h;show(none,wm d,())=(sT d,wm d,());unfold sT;rw[jc h];have hk:wm d=0:=jM.1 (jd h);have e:=(w7 (qL hk).1.1).2.2.1;have e:d.1.2.1.length<=8:=e;show((d.1.2.1.length:Int)).toNat*24<=140737488355328;omega;have hk:wm d=0:=jM.1 (jd h);clear j h;have f:=(qL hk).1;have r:=f.2.2;have g:(kB d).length<=4:=(vb r).1;have n:d.2.2.1.length<=4:=g;refine fun _=>⟨⟨0,⟨⟨rfl,tZ⟩,⟨rfl,rfl,rfl,rfl,rfl,rfl,rfl,rfl,tZ,tZ,tZ,tZ⟩,rfl,rfl,tZ⟩,jv _⟩,fun x o=>⟨fun h=>⟨by omega,ja h,fun _=>⟨⟨0,⟨⟨rfl,rfl,tZ⟩,tZ⟩,jv _⟩,fun y p=>⟨fun a=> ?_,fun a=> ?_⟩⟩⟩,fun h=> ?_⟩⟩
 have a:(y:Int)<(cv (kE d) (nth d.2.2.1 (x:Int).toNat).1).length:=ja a;have b:y<(cv (kE d) (nth d.2.2.1 (x:Int).toNat).1).length:=(by omega);have s:=Ur f.1 (L.kw b);have k:=t7 b;have e:=Z8 f.1 (nth d.2.2.1 (x:Int).toNat).1;have q:BT.qS ((2:Int)^(nth (cv (kE d) (nth d.2.2.1 (x:Int).toNat).1) y).toNat):=BT.mQ (by omega);unfold BT.qS at q;exact⟨by omega,a,s.1,by show nth (cv (kE d) (nth d.2.2.1 (x:Int).toNat).1) y<=64;omega,by show kM (1*2^(nth (cv (kE d) (nth d.2.2.1 (x:Int).toNat).1) y).toNat);rw[CO];exact iZ6,iZ6,y+1,⟨⟨by simp,k.symm,tZ⟩,tZ⟩,by show y+1<=(cv (kE d) (nth d.2.2.1 (x:Int).toNat).1).length;omega,by show(cv (kE d) (nth d.2.2.1 (x:Int).toNat).1).length-(y+1)<(cv (kE d) (nth d.2.2.1 (x:Int).toNat).1).length-y;omega⟩;have h:(x:Int)<(kB d).length:=ja h;have k:=Uq (d:=d) (i:=x) (by omega);have j:=Xd d x;have p:y<=(cv (kE d) (nth d.2.2.1 (x:Int).toNat).1).length:=p;have a:¬(y:Int)<(cv (kE d) (nth d.2.2.1 (x:Int).toNat).1).length:=jd a;have m:y=(cv (kE d) (nth d.2.2.1 (x:Int).toNat).1).length:=(by omega);subst m;refine⟨?_,iZ6,x+1,⟨⟨by simp,tZ⟩,rfl,⟨rfl,rfl,rfl,rfl,rfl,rfl,rfl,rfl,tZ,tZ,tZ,tZ⟩,k.symm,tZ⟩,by show x+1<=(kB d).length;omega,by show(kB d).length-(x+1)<(kB d).length-x;omega⟩;show((vf d x).length+1)*8<=140737488355328;omega;have h:¬(x:Int)<(kB d).length:=jd h;have o:x<=(kB d).length:=o;have l:x=(kB d).length:=(by omega);subst l;refine⟨Us hk,?_⟩;refine⟨?_,rfl⟩;show(some (Sd d),(0:Int),())=(sT d,wm d,());unfold sT;rw[je hk,hk]
theorem uP:yS PR 47 J8:=uO Up M4 Tryz.func47 (kcC FH (kcC W2 kcN)) (koC t6 koN)
namespace U
def gi (d:DyD) (n:Nat):List Int:=(List.range n).map (fun(b:Nat)=>cP (ax (Sd d)) (b:Int))
def b7 (d:DyD):List Int:=if wm d=0 then gi d (kB d).length else[]
def PC (d:DyD) (b:Nat):Bool:=Dz d (b:Int) (cP (ax (Sd d)) (b:Int))
def yR (d:DyD) (n:Nat):List Int:=((List.range n).filter (PC d)).map (fun(b:Nat)=>(b:Int))
def kk (d:DyD):List Int:=if wm d=0 then yR d (kB d).length else[]
def Lb (d:DyD) (p:Int):Bool:=kj p 0 (((kC (kE d)).length:Int)-1)
def VO (d:DyD) (b:Int):Bool:=kj b 0 (((kB d).length:Int)-1)
end U
def QP:we:=⟨[.val tDy],[.slice .int,.int],false,fun d=>[(kX d.1).length<=100000],fun d=>(b7 d.1,wm d.1,())⟩
def QQ:Ann:=fun r=>match r with
 |6=>some fun σ=>{X:=Nat,sl:=fun i=>[(19,.dat .int (i:Int)),(6,.own 6 .int)],ob:=fun i=>[(6,some (.row 3 .int false .yes (gi (gb tDy σ 1) i)))],inv:=fun i=>i<=(kB (gb tDy σ 1)).length,mu:=fun i=>(kB (gb tDy σ 1)).length-i}
 |_=>none
def QR:Prop:=∀(d:DyD×Unit),(kX d.1).length<=100000->(kX d.1).length<=100000/\(decide (wm d.1≠0)=true->([],wm d.1,())=(b7 d.1,wm d.1,()))/\(decide (wm d.1≠0)=false->d.1.2.2.1.length<4611686018427387904->(∃(x:Nat),((0=(x:Int)/\True/\True)/\gi d.1 x=[]/\True)/\x<=(kB d.1).length)/\∀(x:Nat),x<=(kB d.1).length->(decide ((x:Int)<d.1.2.2.1.length)=true->(sT d.1).isSome=true/\(ax (U.ro (sT d.1))).length<=60/\((gi d.1 x).length+[cP (ax (U.ro (sT d.1))) (x:Int)].length)*8<=140737488355328/\kM ((x:Int)+1)/\∃(a:Nat),(((x:Int)+1=(a:Int)/\True/\True)/\gi d.1 x++[cP (ax (U.ro (sT d.1))) (x:Int)]=gi d.1 a/\True)/\a<=(kB d.1).length/\(kB d.1).length-a<(kB d.1).length-x)/\(decide ((x:Int)<d.1.2.2.1.length)=false->(gi d.1 x,(0:Int),())=(b7 d.1,wm d.1,())))
def M5:we:=⟨[.val tDy],[.slice .int,.int],false,fun d=>[(kX d.1).length<=100000],fun d=>(kk d.1,wm d.1,())⟩
def M6:Ann:=fun r=>match r with
 |6=>some fun σ=>{X:=Nat,sl:=fun i=>[(19,.dat .int (i:Int)),(6,.own 6 .int)],ob:=fun i=>[(6,some (.row 3 .int false .yes (yR (gb tDy σ 1) i)))],inv:=fun i=>i<=(kB (gb tDy σ 1)).length,mu:=fun i=>(kB (gb tDy σ 1)).length-i}
 |_=>none
def M7:Prop:=∀(d:DyD×Unit),(kX d.1).length<=100000->(kX d.1).length<=100000/\(decide (wm d.1≠0)=true->([],wm d.1,())=(kk d.1,wm d.1,()))/\(decide (wm d.1≠0)=false->d.1.2.2.1.length<4611686018427387904->(∃(x:Nat),((0=(x:Int)/\True/\True)/\yR d.1 x=[]/\True)/\x<=(kB d.1).length)/\∀(x:Nat),x<=(kB d.1).length->(decide ((x:Int)<d.1.2.2.1.length)=true->(sT d.1).isSome=true/\(ax (U.ro (sT d.1))).length<=60/\(sT d.1).isSome=true/\aG (U.rd (U.ro (sT d.1))) (x:Int)/\(Dz (U.rd (U.ro (sT d.1))) (x:Int) (cP (ax (U.ro (sT d.1))) (x:Int))=true->((yR d.1 x).length+[(x:Int)].length)*8<=140737488355328/\kM ((x:Int)+1)/\∃(a:Nat),(((x:Int)+1=(a:Int)/\True/\True)/\yR d.1 x++[(x:Int)]=yR d.1 a/\True)/\a<=(kB d.1).length/\(kB d.1).length-a<(kB d.1).length-x)/\(Dz (U.rd (U.ro (sT d.1))) (x:Int) (cP (ax (U.ro (sT d.1))) (x:Int))=false->kM ((x:Int)+1)/\∃(a:Nat),((True/\(x:Int)+1=(a:Int)/\True)/\yR d.1 x=yR d.1 a/\True)/\a<=(kB d.1).length/\(kB d.1).length-a<(kB d.1).length-x))/\(decide ((x:Int)<d.1.2.2.1.length)=false->(yR d.1 x,(0:Int),())=(kk d.1,wm d.1,())))
theorem M8 {r:RoD} {l:List ShD} (d:wE (U.rd r)=true) (e:∀s∈l,s∈kX (U.rd r)) (nd:l.Nodup) (a:(ax r).length=(kC (kE (U.rd r))).length) (b:jaP (ax r)) (c:jdc r=U.noI):
 ∀i,i<=l.length->cx r l i (vk r l i)
 |0,_=>Un a b c
 |i+1,hi=>by
  rw[si hi]
  exact YC d e nd hi (M8 d e nd a b c i (by omega))
structure Z9 (d:DyD):Prop where
 may:PA (Sd d)
 len:(ax (Sd d)).length=(kC (kE d)).length
 row:∀p,(nth (ax (Sd d)) p).Nodup/\∀b∈nth (ax (Sd d)) p,aG d b
theorem Ut {d:DyD} (h:wm d=0):Z9 d:=by
 obtain⟨⟨_,i⟩,⟨j,c⟩,e⟩:=Us h;have f:=(qL h).1;have a:=M8 (r:=Lu d) (l:=qj d) f.2.2 (fun s k=>fP.1 k) (dR d) j c e _ (jj _);refine⟨⟨f,i⟩,a.1,fun p=> ?_⟩;have:=a.2.2 p;exact⟨this.1,fun b g=>(this.2 b g).1⟩
theorem Z9.len60 {d:DyD} (h:Z9 d):(ax (Sd d)).length<=60:=by
 have a:=(w7 h.may.1.1).2.2.1;have a:(kC (kE d)).length<=8:=a;rw[h.len];omega
theorem YE {d:DyD} (h:wm d=0):sT d=some (Sd d):=je h
theorem QS (d:DyD) (n:Nat):gi d (n+1)=gi d n++[cP (ax (Sd d)) (n:Int)]:=by
 unfold gi;rw[ze,zv];rfl
theorem Uu:QR:=by
 rintro⟨d,⟨⟩⟩ j;refine⟨j,fun h=> ?_,fun h _=>⟨⟨0,⟨⟨rfl,tZ,tZ⟩,rfl,tZ⟩,jv _⟩,fun x g=>⟨fun a=> ?_,fun a=> ?_⟩⟩⟩;have h:wm d≠0:=ja h;show([],wm d,())=(b7 d,wm d,());unfold b7;rw[jc h];have hk:wm d=0:=jM.1 (jd h);have f:=Ut hk;have i:(kB d).length<=4:=(vb f.may.1.2.2).1;have a:(x:Int)<(kB d).length:=ja a;have k:=QS d x;have e:(gi d x).length=x:=(by unfold gi;simp);have b:=YE hk;refine⟨by show(sT d).isSome=true;rw[b];rfl,by show(ax (U.ro (sT d))).length<=60;rw[b];exact f.len60,?_,iZ6,x+1,⟨⟨by simp,tZ,tZ⟩,?_,tZ⟩,by show x+1<=(kB d).length;omega,by show(kB d).length-(x+1)<(kB d).length-x;omega⟩;show((gi d x).length+1)*8<=_;omega;show gi d x++[cP (ax (U.ro (sT d))) (x:Int)]=gi d (x+1);rw[b,k];rfl;have hk:wm d=0:=jM.1 (jd h);have g:x<=(kB d).length:=g;have a:¬(x:Int)<(kB d).length:=jd a;have c:x=(kB d).length:=(by omega);subst c;show(gi d _,(0:Int),())=(b7 d,wm d,());unfold b7;rw[je hk,hk]
theorem QT:wo PR 20 QP:=q7 QQ Uu Tryz.func20 (kcC ij kcN) (koC uP koN)
theorem QU (d:DyD) (n:Nat):yR d (n+1)=yR d n++(if PC d n=true then[(n:Int)] else[]):=by
 unfold yR;rw[L.cA,zv];by_cases h:PC d n=true;rw[je h,je h];rfl;rw[jc h,jc h];rfl
theorem QV:M7:=by
 rintro⟨d,⟨⟩⟩ p;refine⟨p,fun h=> ?_,fun h _=>⟨⟨0,⟨⟨rfl,tZ,tZ⟩,rfl,tZ⟩,jv _⟩,fun x m=>⟨fun b=> ?_,fun b=> ?_⟩⟩⟩;have h:wm d≠0:=ja h;show([],wm d,())=(kk d,wm d,());unfold kk;rw[jc h];have hk:wm d=0:=jM.1 (jd h);have l:=Ut hk;have o:(kB d).length<=4:=(vb l.may.1.2.2).1;have b:(x:Int)<(kB d).length:=ja b;have e:=QU d x;have k:(yR d x).length<=x:=by
  unfold yR;rw[zr];exact jE (z8 _ _) (by simp)
 have c:=YE hk;have i:(sT d).isSome=true:=(by rw[c];rfl);have e2:(ax (U.ro (sT d))).length<=60:=(by rw[c];exact l.len60);have n:aG (U.rd (U.ro (sT d))) (x:Int):=(by rw[c];exact⟨by omega,b⟩);have j:Dz (U.rd (U.ro (sT d))) (x:Int) (cP (ax (U.ro (sT d))) (x:Int))=PC d x:=(by rw[c];rfl);have up:x+1<=(kB d).length:=(by omega);have g:(kB d).length-(x+1)<(kB d).length-x:=(by omega);refine⟨i,e2,i,n,fun a=> ?_,fun a=> ?_⟩;have a:PC d x=true:=(by rw[<-j];exact a);refine⟨?_,iZ6,x+1,⟨⟨by simp,tZ,tZ⟩,?_,tZ⟩,up,g⟩;show((yR d x).length+1)*8<=_;omega;rw[je a] at e;exact e.symm;have a:PC d x=false:=(by rw[<-j];exact a);refine⟨iZ6,x+1,⟨⟨tZ,by simp,tZ⟩,?_,tZ⟩,up,g⟩;rw[jc (by rw[a];simp),j9] at e;exact e.symm;have hk:wm d=0:=jM.1 (jd h);have m:x<=(kB d).length:=m;have b:¬(x:Int)<(kB d).length:=jd b;have f:x=(kB d).length:=(by omega);subst f;show(yR d _,(0:Int),())=(kk d,wm d,());unfold kk;rw[je hk,hk]
theorem M9:wo PR 21 M5:=q7 M6 QV Tryz.func21 (kcC ij (kcC xN kcN)) (koC uP koN)
theorem pg {l:List Int} (h:∀p∈l,0<=p/\p<8):∀n,n<=l.length->BT.qS (iq l n)/\∀q,BT.has (iq l n) q=true->q<8
 |0,_=>⟨BT.DG,fun q a=>by rw[show iq l 0=0 from rfl,BT.sQ] at a;cases a⟩
 |n+1,d=>by
  have b:=pg h n (by omega)
  have e:=h _ (L.kw (l:=l) (i:=n) (by omega))
  have c:BT.qS ((2:Int)^(nth l n).toNat):=BT.mQ (by omega)
  rw[t7 (by omega),CO]
  refine⟨BT.bor_set b.1 c,fun q a=> ?_⟩
  rw[BT.has_bor b.1 c,zy,BT.AQ,jr] at a
  rcases a with a|a
  exact b.2 q a
  omega
end Go.X
namespace Go.X
open U
open Go.Proofs
end Go.X
namespace Go.X
open U
open Go.Proofs
namespace U
def J3 (c:CrD) (t d:Int) (a b:Nat):Bool:=jcb c t d (a:Int) (b:Int)
def jdK (c:CrD) (t b a:Int):List Int:=An (J3 c t b) (la c).toNat a.toNat (la c).toNat
def YX (c:Bool) (s b:Int):Int:=if c=true then bor s b else s
def VP (c:CrD) (j:JbD) (t:Int) (x:Int×Bool) (i:Nat):Int×Bool:=
 if vD t (i:Int)=true then(YX (!vD (cl (nth (kC c) i)) (iT j)) (YX (!vD (fd (nth (kC c) i)) (X4 j)) (YX (K7 (nth (kC c) i) (X3 j)) x.1 1) 2) 4,x.2||jb9 (nth (kC c) i)) else x
def Ap (c:CrD) (j:JbD) (t:Int) (n:Nat):Int×Bool:=(List.range n).foldl (VP c j t) (0,false)
def jdq (c:CrD) (j:JbD) (t:Int):Int:=(Ap c j t (kC c).length).1
def jdr (c:CrD) (j:JbD) (t:Int):Bool:=(Ap c j t (kC c).length).2
def jdL (c:CrD) (j:JbD) (t:Int):Int:=
 YX (decide (nth (jdK c t (V3 (d7 c j)) (Sa j)) (Ls j).toNat<0)) (YX (jc8 (d7 c j)&& !jdr c j t) (YX (decide (BT.size t≠max (ja2 j) (ja1 (d7 c j)))) (jdq c j t) 8) 16) 32
def DA (c:CrD) (j:JbD) (t:Int):Bool:=decide (0<t)&&decide (jdL c j t=0)
end U
def Ka:we:=⟨[.val .int,.val .int,.val .int],[.bool],false,fun _=>[],fun d=>(kj d.1 d.2.1 d.2.2.1,())⟩
def Kb:Prop:=∀(d:Int×Int×Int×Unit),(decide (d.2.1<=d.1)&&decide (d.1<=d.2.2.1),())=(kj d.1 d.2.1 d.2.2.1,())
def Kc:we:=⟨[.val tCr],[.bool],false,fun _=>[],fun d=>(kU d.1,())⟩
def Kd:Ann:=fun r=>match r with
 |4=>some fun σ=>{X:=Nat,sl:=fun i=>[(3,.dat .int (i:Int))],ob:=fun _=>[],inv:=fun i=>i<=(kC (gb tCr σ 1)).length/\∀j:Nat,j<i->fV (U.la (gb tCr σ 1)) (nth (kC (gb tCr σ 1)) j)=true,mu:=fun i=>(kC (gb tCr σ 1)).length-i}
 |10=>some fun σ=>{X:=Nat,sl:=fun i=>[(5,.dat .int (i:Int))],ob:=fun _=>[],inv:=fun i=>i<=(U.lv (gb tPe σ 4)).length/\∀j:Nat,j<i->kj (nth (U.lv (gb tPe σ 4)) j) 0 5=true,mu:=fun i=>(U.lv (gb tPe σ 4)).length-i}
 |15=>some fun σ=>{X:=Nat,sl:=fun i=>[(6,.dat .int (i:Int))],ob:=fun _=>[],inv:=fun i=>i<=(yJ (gb tPe σ 4)).length/\∀j:Nat,j<i->kj (nth (yJ (gb tPe σ 4)) j) 0 99=true,mu:=fun i=>(yJ (gb tPe σ 4)).length-i}
 |20=>some fun σ=>{X:=Nat,sl:=fun i=>[(7,.dat .int (i:Int))],ob:=fun _=>[],inv:=fun i=>i<=(vP (gb tCr σ 1)).length/\∀j:Nat,j<i->d4 (nth (vP (gb tCr σ 1)) j)=true,mu:=fun i=>(vP (gb tCr σ 1)).length-i}
 |_=>none
abbrev jdW (d:CrD×Unit)(x:Nat):=(nth d.1.2.1 (x:Int).toNat)
abbrev jfG (d:CrD×Unit)(x:Nat):=(↑(jdW d x).1.length:Int)
abbrev jgb (d:CrD×Unit)(x:Nat):=(↑(jdW d x).2.2.2.1.length:Int)
abbrev jho (d:CrD×Unit)(x:Nat):=(decide ((jfG d x)≠d.1.1)|| !kj (jdW d x).2.1 (0:Int) (255:Int)|| !kj (jdW d x).2.2.1 (0:Int) (255:Int)||decide ((10:Int)<(jgb d x))|| !kj (jdW d x).q4.2.1 (0:Int) (1000:Int))
abbrev jfH (d:CrD×Unit):=(d.1.2.2.1.length:Int)
abbrev jeP (d:CrD×Unit)(x:Nat):=(yJ (jdW d x))
abbrev jfI (d:CrD×Unit):=(d.1.2.1.length:Int)
abbrev jhp (d:CrD×Unit):=(!kj d.1.1 (2:Int) (5:Int)||decide (8<(jfI d))||decide ((jfH d)≠4))
abbrev jgc (d:CrD×Unit)(x:Nat):=(nth d.1.2.2.1 (x:Int).toNat)
abbrev jhq (d:CrD×Unit)(x:Nat):=(!kj (jgc d x).1 (1:Int) (5:Int)|| !kj (jgc d x).2.1 (1:Int) (8:Int))
def Ke:Prop:=∀(d:CrD×Unit),((!!kj d.1.1 (2:Int) (5:Int))=true->d.1.2.1.length<4611686018427387904)->((!(!kj d.1.1 (2:Int) (5:Int)||decide (8<(jfI d))))=true->d.1.2.2.1.length<4611686018427387904)->((jhp d)=true->(false,())=(kU d.1,()))/\((jhp d)=false->(∃(x:Nat),((0=(x:Int)/\True)/\True)/\x<=(kC d.1).length/\∀(j:Nat),j<x->fV (U.la d.1) (nth (kC d.1) j)=true)/\∀(x:Nat),(x<=(kC d.1).length/\∀(j:Nat),j<x->fV (U.la d.1) (nth (kC d.1) j)=true)->d.1.2.1.length<4611686018427387904->(decide ((x:Int)<(jfI d))=true->0<=(x:Int)/\(x:Int)<(jfI d)/\((jdW d x).1.length<4611686018427387904->((!(decide ((jfG d x)≠d.1.1)|| !kj (jdW d x).2.1 (0:Int) (255:Int)|| !kj (jdW d x).2.2.1 (0:Int) (255:Int)))=true->(jdW d x).2.2.2.1.length<4611686018427387904)->((jho d x)=true->(false,())=(kU d.1,()))/\((jho d x)=false->(∃(b:Nat),((0=(b:Int)/\True)/\True)/\b<=(U.lv (jdW d x)).length/\∀(j:Nat),j<b->kj (nth (U.lv (jdW d x)) j) (0:Int) 5=true)/\∀(b:Nat),(b<=(U.lv (jdW d x)).length/\∀(j:Nat),j<b->kj (nth (U.lv (jdW d x)) j) (0:Int) 5=true)->(jdW d x).1.length<4611686018427387904->(decide ((b:Int)<(jfG d x))=true->0<=(b:Int)/\(b:Int)<(jfG d x)/\((!kj (nth (jdW d x).1 (b:Int).toNat) (0:Int) (5:Int))=true->(false,())=(kU d.1,()))/\((!kj (nth (jdW d x).1 (b:Int).toNat) (0:Int) (5:Int))=false->kM ((b:Int)+1)/\∃(c:Nat),(((b:Int)+1=(c:Int)/\True)/\True)/\(c<=(U.lv (jdW d x)).length/\∀(j:Nat),j<c->kj (nth (U.lv (jdW d x)) j) (0:Int) 5=true)/\(U.lv (jdW d x)).length-c<(U.lv (jdW d x)).length-b))/\(decide ((b:Int)<(jfG d x))=false->(∃(a:Nat),((0=(a:Int)/\True)/\True)/\a<=(jeP d x).length/\∀(j:Nat),j<a->kj (nth (jeP d x) j) (0:Int) 99=true)/\∀(a:Nat),(a<=(jeP d x).length/\∀(j:Nat),j<a->kj (nth (jeP d x) j) (0:Int) 99=true)->(jdW d x).2.2.2.1.length<4611686018427387904->(decide ((a:Int)<(jgb d x))=true->0<=(a:Int)/\(a:Int)<(jgb d x)/\((!kj (nth (jdW d x).2.2.2.1 (a:Int).toNat) (0:Int) (99:Int))=true->(false,())=(kU d.1,()))/\((!kj (nth (jdW d x).2.2.2.1 (a:Int).toNat) (0:Int) (99:Int))=false->kM ((a:Int)+1)/\∃(c:Nat),(((a:Int)+1=(c:Int)/\True)/\True)/\(c<=(jeP d x).length/\∀(j:Nat),j<c->kj (nth (jeP d x) j) (0:Int) 99=true)/\(jeP d x).length-c<(jeP d x).length-a))/\(decide ((a:Int)<(jgb d x))=false->kM ((x:Int)+1)/\∃(c:Nat),(((x:Int)+1=(c:Int)/\True)/\True)/\(c<=(kC d.1).length/\∀(j:Nat),j<c->fV (U.la d.1) (nth (kC d.1) j)=true)/\(kC d.1).length-c<(kC d.1).length-x)))))/\(decide ((x:Int)<(jfI d))=false->(∃(x:Nat),((0=(x:Int)/\True)/\True)/\x<=(vP d.1).length/\∀(j:Nat),j<x->d4 (nth (vP d.1) j)=true)/\∀(x:Nat),(x<=(vP d.1).length/\∀(j:Nat),j<x->d4 (nth (vP d.1) j)=true)->d.1.2.2.1.length<4611686018427387904->(decide ((x:Int)<(jfH d))=true->0<=(x:Int)/\(x:Int)<(jfH d)/\((!!kj (jgc d x).1 (1:Int) (5:Int))=true->0<=(x:Int))/\((!!kj (jgc d x).1 (1:Int) (5:Int))=true->(x:Int)<(jfH d))/\((jhq d x)=true->(false,())=(kU d.1,()))/\((jhq d x)=false->kM ((x:Int)+1)/\∃(c:Nat),(((x:Int)+1=(c:Int)/\True)/\True)/\(c<=(vP d.1).length/\∀(j:Nat),j<c->d4 (nth (vP d.1) j)=true)/\(vP d.1).length-c<(vP d.1).length-x))/\(decide ((x:Int)<(jfH d))=false->(true,())=(kU d.1,()))))
def Na:we:=⟨[.val tCr,.val tJb],[.bool],false,fun d=>[kU d.1=true],fun d=>(wY d.1 d.2.1,())⟩
def Nb:Prop:=∀(d:CrD×JbD×Unit),kU d.1=true->kM (d.1.1-1)/\(kj d.2.1.1 (0:Int) (d.1.1-1)=true->kM (d.1.1-1))/\(kj d.2.1.1 (0:Int) (d.1.1-1)&&kj d.2.1.2.1 (0:Int) (d.1.1-1)&&decide (d.2.1.1≠d.2.1.2.1)&&kj d.2.1.2.2.1 (0:Int) (99:Int)&&kj d.2.1.2.2.2.1 (0:Int) (7:Int)&&kj d.2.1.q4.1 (0:Int) (3:Int)&&kj d.2.1.q4.2.1 (1:Int) (8:Int),())=(wY d.1 d.2.1,())
end Go.X
