/-
  Part 5 of the road: a checked reading of bodies, and what the functions on it do (T L BT BS NL DF RC FX A1 P1 A2 P2 A4 P4 A5 P5 A3 P6 CM MP O1 B1 P7 IS B2 P8 B3 P9 DI B4 P10 B5 P11 B6 P12 P13).
-/
import Derived.Test.YtclaaimmhneipaaGreatDoorK04
import Derived.Test.YtclaaimmhneipaaGreatDoorProg
import Derived.KernelRfl
import Derived.Shelf.SlSortCmp.WholeK
import Derived.Shelf.Sort.Plain
namespace Go.X
open U
open Go.Proofs
abbrev bT:=true
abbrev bF:=false
abbrev vO:Value:=.int .i64 0
abbrev qy0:Ty:=.st [.int,.int]
abbrev qy1:Ty:=.ptr (.uint .u8)
abbrev qy2:Ty:=.ptr (.uint .u64)
abbrev qy3:Ty:=.slice (.slice .int)
abbrev qy4:Ty:=.st [.int,.int,.int]
abbrev qy5:Ty:=.st [.int,.int,.bool]
abbrev qy6:Ty:=.slice qy0
abbrev qy7:Ty:=.slice qy4
abbrev qy8:Ty:=.slice qy5
abbrev qy9:Ty:=.map .int qy4
abbrev qy10:Ty:=.slice qy6
abbrev qy11:Ty:=.st [.int,.int,.int,.int,.int]
abbrev qy12:Ty:=.st [.int,.int,.bool,.uint .u8]
abbrev qy13:Ty:=.st [.int,.int,.int,.int,.int,.int]
abbrev qy14:Ty:=.slice qy11
abbrev qy15:Ty:=.slice qy13
abbrev qy16:Ty:=.st [.slice .int,.int,.int,.slice .int,.bool,.int]
abbrev qy17:Ty:=.map qy0 qy11
abbrev qy18:Ty:=.st [qy13,.int,.int,.int]
abbrev qy19:Ty:=.slice qy16
abbrev qy20:Ty:=.slice qy18
abbrev qy21:Ty:=.st [.int,.int,.int,.int,.int,.int,.int,.int,.slice .int,qy6]
abbrev qy22:Ty:=.st [.int,qy19,qy8]
abbrev qy23:Ty:=.st [qy22,qy13,qy5]
abbrev qy24:Ty:=.ptr qy23
abbrev qy25:Ty:=.st [qy18,qy21,.int,.int,.slice .int,.int,.int,.bool,.int]
abbrev qy26:Ty:=.ptr qy25
abbrev qy27:Ty:=.map .int qy26
abbrev qy28:Ty:=.st [qy22,qy10,qy20,.int,.int,qy14]
abbrev qy29:Ty:=.st [qy28,.slice .int,qy3,.slice .int]
abbrev qy30:Ty:=.ptr qy29
abbrev qy31:Ty:=.st [qy30,qy3,.slice .int,.slice .int,.int,.bool]
abbrev qy32:Ty:=.ptr qy31
abbrev qy33:Ty:=.st [qy28,.slice .int,.slice .int,qy21,qy7]
abbrev qy34:Ty:=.st [qy33,qy27]
def rr (i:Nat)(t:Ty)(n:Nat)(a:Bool)(f:List (Nat×Nat))(s:Bool)(e b:Nat)(z:List Value)(c m:Bool)(k:Nat)(q:Bool):TI:=⟨i,t,n,a,f,s,e,b,z,c,m,k,q,false,false,false⟩
def rf (i:Nat):TI:=⟨i,.unit,1,false,[],false,0,8,[.nilFunc],false,false,0,false,false,false,true⟩
def rq (i:Nat):TI:=⟨i,.unit,1,false,[],false,0,8,[.pointer none],false,false,0,false,false,true,false⟩
def ti:List TI:=[
 rf 1,
 rr 2 .int 1 bF [] bF 0 8 [vO] bF bF 0 bT,
 rr 3 .int 1 bF [] bF 0 8 [vO] bF bF 0 bT,
 rr 4 .bool 1 bF [] bF 0 1 [.bool false] bT bF 0 bF,
 rr 5 (.uint .u8) 1 bF [] bF 0 1 [.int .u8 0] bF bF 0 bF,
 rr 6 (.uint .u8) 1 bF [] bF 0 1 [.int .u8 0] bF bF 0 bF,
 rr 7 qy12 4 bT [(0,2),(1,3),(2,4),(3,6)] bF 0 24 [vO,vO,.bool false,.int .u8 0] bT bF 0 bT,
 rr 8 qy12 4 bT [(0,2),(1,3),(2,4),(3,6)] bF 0 24 [vO,vO,.bool false,.int .u8 0] bT bF 0 bT,
 rr 12 (.uint .u64) 1 bF [] bF 0 8 [.int .u64 0] bF bF 0 bF,
 rq 15,
 rq 16,
 rq 17,
 rr 18 .unit 1 bT [(0,17)] bF 0 8 [.pointer none] bF bF 0 bF,
 rr 19 .unit 1 bT [(0,17)] bF 0 8 [.pointer none] bF bF 0 bF,
 rr 21 (.uint .i32) 1 bF [] bF 0 4 [.int .i32 0] bF bF 0 bF,
 rr 22 qy19 1 bF [] bT 126 24 [.slice none 0 0] bF bF 0 bF,
 rr 23 qy8 1 bF [] bT 128 24 [.slice none 0 0] bF bF 0 bF,
 rr 24 qy22 3 bT [(0,3),(1,22),(2,23)] bF 0 56 [vO,.slice none 0 0,.slice none 0 0] bF bF 0 bF,
 rr 25 qy22 3 bT [(0,3),(1,22),(2,23)] bF 0 56 [vO,.slice none 0 0,.slice none 0 0] bF bF 0 bF,
 rr 26 qy10 1 bF [] bT 102 24 [.slice none 0 0] bF bF 0 bF,
 rr 27 qy20 1 bF [] bT 92 24 [.slice none 0 0] bF bF 0 bF,
 rr 28 qy14 1 bF [] bT 47 24 [.slice none 0 0] bF bF 0 bF,
 rr 29 qy28 8 bT [(0,25),(3,26),(4,27),(5,3),(6,3),(7,28)] bF 0 144 [vO,.slice none 0 0,.slice none 0 0,.slice none 0 0,.slice none 0 0,vO,vO,.slice none 0 0] bF bF 0 bF,
 rr 30 qy28 8 bT [(0,25),(3,26),(4,27),(5,3),(6,3),(7,28)] bF 0 144 [vO,.slice none 0 0,.slice none 0 0,.slice none 0 0,.slice none 0 0,vO,vO,.slice none 0 0] bF bF 0 bF,
 rr 31 (.slice .int) 1 bF [] bT 3 24 [.slice none 0 0] bF bF 0 bF,
 rr 32 qy6 1 bF [] bT 104 24 [.slice none 0 0] bF bF 0 bF,
 rr 33 qy21 10 bT [(0,3),(1,3),(2,3),(3,3),(4,3),(5,3),(6,3),(7,3),(8,31),(9,32)] bF 0 112 [vO,vO,vO,vO,vO,vO,vO,vO,.slice none 0 0,.slice none 0 0] bF bF 0 bF,
 rr 34 qy21 10 bT [(0,3),(1,3),(2,3),(3,3),(4,3),(5,3),(6,3),(7,3),(8,31),(9,32)] bF 0 112 [vO,vO,vO,vO,vO,vO,vO,vO,.slice none 0 0,.slice none 0 0] bF bF 0 bF,
 rr 35 qy7 1 bF [] bT 61 24 [.slice none 0 0] bF bF 0 bF,
 rr 36 qy33 21 bT [(0,30),(8,31),(9,31),(10,34),(20,35)] bF 0 328 [vO,.slice none 0 0,.slice none 0 0,.slice none 0 0,.slice none 0 0,vO,vO,.slice none 0 0,.slice none 0 0,.slice none 0 0,vO,vO,vO,vO,vO,vO,vO,vO,.slice none 0 0,.slice none 0 0,.slice none 0 0] bF bF 0 bF,
 rr 37 qy33 21 bT [(0,30),(8,31),(9,31),(10,34),(20,35)] bF 0 328 [vO,.slice none 0 0,.slice none 0 0,.slice none 0 0,.slice none 0 0,vO,vO,.slice none 0 0,.slice none 0 0,.slice none 0 0,vO,vO,vO,vO,vO,vO,vO,vO,.slice none 0 0,.slice none 0 0,.slice none 0 0] bF bF 0 bF,
 rf 38,
 rr 39 .int 1 bF [] bF 0 8 [vO] bF bF 0 bT,
 rf 40,
 rf 41,
 rf 42,
 rf 44,
 rf 45,
 rr 46 qy11 5 bT [(0,3),(1,3),(2,3),(3,3),(4,3)] bF 0 40 [vO,vO,vO,vO,vO] bT bF 0 bT,
 rr 47 qy11 5 bT [(0,3),(1,3),(2,3),(3,3),(4,3)] bF 0 40 [vO,vO,vO,vO,vO] bT bF 0 bT,
 rf 48,
 rr 49 qy15 1 bF [] bT 57 24 [.slice none 0 0] bF bF 0 bF,
 rf 51,
 rf 53,
 rf 55,
 rr 56 qy13 6 bT [(0,3),(1,3),(2,3),(3,3),(4,3),(5,3)] bF 0 48 [vO,vO,vO,vO,vO,vO] bT bF 0 bT,
 rr 57 qy13 6 bT [(0,3),(1,3),(2,3),(3,3),(4,3),(5,3)] bF 0 48 [vO,vO,vO,vO,vO,vO] bT bF 0 bT,
 rf 58,
 rf 59,
 rr 60 qy4 3 bT [(0,3),(1,3),(2,3)] bF 0 24 [vO,vO,vO] bT bF 0 bT,
 rr 61 qy4 3 bT [(0,3),(1,3),(2,3)] bF 0 24 [vO,vO,vO] bT bF 0 bT,
 rf 62,
 rf 63,
 rf 64,
 {rr 65 qy30 1 bF [] bF 0 8 [.pointer none] bF bF 0 bF with pt:=true},
 rf 67,
 {rr 68 qy32 1 bF [] bF 0 8 [.pointer none] bF bF 0 bF with pt:=true},
 rr 69 qy3 1 bF [] bT 31 24 [.slice none 0 0] bF bF 0 bF,
 rr 70 qy31 6 bT [(0,65),(1,69),(2,31),(3,31),(4,3),(5,4)] bF 0 96 [.pointer none,.slice none 0 0,.slice none 0 0,.slice none 0 0,vO,.bool false] bF bF 0 bF,
 rr 71 qy31 6 bT [(0,65),(1,69),(2,31),(3,31),(4,3),(5,4)] bF 0 96 [.pointer none,.slice none 0 0,.slice none 0 0,.slice none 0 0,vO,.bool false] bF bF 0 bF,
 rr 72 qy29 11 bT [(0,30),(8,31),(9,69),(10,31)] bF 0 216 [vO,.slice none 0 0,.slice none 0 0,.slice none 0 0,.slice none 0 0,vO,vO,.slice none 0 0,.slice none 0 0,.slice none 0 0,.slice none 0 0] bF bF 0 bF,
 rr 73 qy29 11 bT [(0,30),(8,31),(9,69),(10,31)] bF 0 216 [vO,.slice none 0 0,.slice none 0 0,.slice none 0 0,.slice none 0 0,vO,vO,.slice none 0 0,.slice none 0 0,.slice none 0 0,.slice none 0 0] bF bF 0 bF,
 rf 74,
 rr 75 (.uint .u64) 1 bF [] bF 0 8 [.int .u64 0] bF bF 0 bF,
 rf 76,
 rr 77 qy27 1 bF [] bF 114 8 [.map none] bF bT 3 bF,
 rr 78 qy34 22 bT [(0,37),(21,77)] bF 0 336 [vO,.slice none 0 0,.slice none 0 0,.slice none 0 0,.slice none 0 0,vO,vO,.slice none 0 0,.slice none 0 0,.slice none 0 0,vO,vO,vO,vO,vO,vO,vO,vO,.slice none 0 0,.slice none 0 0,.slice none 0 0,.map none] bF bF 0 bF,
 rr 79 qy34 22 bT [(0,37),(21,77)] bF 0 336 [vO,.slice none 0 0,.slice none 0 0,.slice none 0 0,.slice none 0 0,vO,vO,.slice none 0 0,.slice none 0 0,.slice none 0 0,vO,vO,vO,vO,vO,vO,vO,vO,.slice none 0 0,.slice none 0 0,.slice none 0 0,.map none] bF bF 0 bF,
 rf 81,
 rf 82,
 rf 83,
 rf 84,
 rf 85,
 rf 86,
 rf 87,
 rf 88,
 rr 89 qy13 6 bT [(0,3),(1,3),(2,3),(3,3),(4,3),(5,3)] bF 0 48 [vO,vO,vO,vO,vO,vO] bT bF 0 bT,
 rr 90 qy13 6 bT [(0,3),(1,3),(2,3),(3,3),(4,3),(5,3)] bF 0 48 [vO,vO,vO,vO,vO,vO] bT bF 0 bT,
 rr 91 qy18 9 bT [(0,90),(6,3),(7,3),(8,3)] bF 0 72 [vO,vO,vO,vO,vO,vO,vO,vO,vO] bT bF 0 bT,
 rr 92 qy18 9 bT [(0,90),(6,3),(7,3),(8,3)] bF 0 72 [vO,vO,vO,vO,vO,vO,vO,vO,vO] bT bF 0 bT,
 rf 93,
 rf 94,
 rf 95,
 rr 96 qy15 1 bF [] bT 90 24 [.slice none 0 0] bF bF 0 bF,
 rf 98,
 rr 99 qy0 2 bT [(0,3),(1,3)] bF 0 16 [vO,vO] bT bF 0 bT,
 rr 100 qy0 2 bT [(0,3),(1,3)] bF 0 16 [vO,vO] bT bF 0 bT,
 rf 101,
 rr 102 qy6 1 bF [] bT 100 24 [.slice none 0 0] bF bF 0 bF,
 rr 103 qy0 2 bT [(0,3),(1,3)] bF 0 16 [vO,vO] bT bF 0 bT,
 rr 104 qy0 2 bT [(0,3),(1,3)] bF 0 16 [vO,vO] bT bF 0 bT,
 rf 105,
 rf 106,
 rf 108,
 rf 109,
 rf 110,
 rf 111,
 rf 112,
 rf 113,
 {rr 114 qy26 1 bF [] bF 0 8 [.pointer none] bF bF 0 bF with pt:=true},
 rr 115 qy25 26 bT [(0,92),(9,34),(19,3),(20,3),(21,31),(22,3),(23,3),(24,4),(25,3)] bF 0 256 [vO,vO,vO,vO,vO,vO,vO,vO,vO,vO,vO,vO,vO,vO,vO,vO,vO,.slice none 0 0,.slice none 0 0,vO,vO,.slice none 0 0,vO,vO,.bool false,vO] bF bF 0 bF,
 rr 116 qy25 26 bT [(0,92),(9,34),(19,3),(20,3),(21,31),(22,3),(23,3),(24,4),(25,3)] bF 0 256 [vO,vO,vO,vO,vO,vO,vO,vO,vO,vO,vO,vO,vO,vO,vO,vO,vO,.slice none 0 0,.slice none 0 0,vO,vO,.slice none 0 0,vO,vO,.bool false,vO] bF bF 0 bF,
 rf 117,
 rf 118,
 rf 119,
 rf 120,
 rf 121,
 rf 122,
 rf 123,
 rf 124,
 rr 125 qy16 6 bT [(0,31),(1,3),(2,3),(3,31),(4,4),(5,3)] bF 0 80 [.slice none 0 0,vO,vO,.slice none 0 0,.bool false,vO] bF bF 0 bF,
 rr 126 qy16 6 bT [(0,31),(1,3),(2,3),(3,31),(4,4),(5,3)] bF 0 80 [.slice none 0 0,vO,vO,.slice none 0 0,.bool false,vO] bF bF 0 bF,
 rr 127 qy5 3 bT [(0,3),(1,3),(2,4)] bF 0 24 [vO,vO,.bool false] bT bF 0 bT,
 rr 128 qy5 3 bT [(0,3),(1,3),(2,4)] bF 0 24 [vO,vO,.bool false] bT bF 0 bT,
 rf 129,
 rf 130,
 {rr 131 qy24 1 bF [] bF 0 8 [.pointer none] bF bF 0 bF with pt:=true},
 rf 133,
 rr 134 (.uint .u64) 1 bF [] bF 0 8 [.int .u64 0] bF bF 0 bF,
 rf 135,
 rr 136 qy17 1 bF [] bF 47 8 [.map none] bF bT 140 bF,
 rf 137,
 rf 138,
 rr 139 qy0 2 bT [(0,3),(1,3)] bF 0 16 [vO,vO] bT bF 0 bT,
 rr 140 qy0 2 bT [(0,3),(1,3)] bF 0 16 [vO,vO] bT bF 0 bT,
 rf 141,
 rf 142,
 rf 143,
 rf 144,
 rf 145,
 rf 146,
 rr 147 qy9 1 bF [] bF 61 8 [.map none] bF bT 3 bF,
 rf 149,
 rf 150,
 rf 151,
 rf 152,
 rf 153,
 rf 154,
 rf 155,
 rf 156,
 rf 157,
 rf 158,
 rf 159,
 rf 160,
 rf 161,
 rf 162,
 rr 163 (.map .int .int) 1 bF [] bF 3 8 [.map none] bF bT 3 bF,
 rr 164 qy23 12 bT [(0,25),(3,90),(9,128)] bF 0 128 [vO,.slice none 0 0,.slice none 0 0,vO,vO,vO,vO,vO,vO,vO,vO,.bool false] bF bF 0 bF,
 rr 165 qy23 12 bT [(0,25),(3,90),(9,128)] bF 0 128 [vO,.slice none 0 0,.slice none 0 0,vO,vO,vO,vO,vO,vO,vO,vO,.bool false] bF bF 0 bF,
 rf 166,
 rf 167,
 rf 168,
 rf 169,
 rf 170,
 rf 171,
 rf 172,
 rf 173,
 rf 174,
 rf 175,
 rf 176,
 rf 177,
 rf 178,
 rf 179,
 rr 180 .int 1 bF [] bF 0 8 [vO] bF bF 0 bT,
 rf 182,
 rf 183,
 rf 184,
 rf 186,
 rf 187,
 rr 188 (.uint .u32) 1 bF [] bF 0 4 [.int .u32 0] bF bF 0 bF,
 rf 189,
 rr 190 (.uint .u64) 1 bF [] bF 0 8 [.int .u64 0] bF bF 0 bF,
 rf 191,
 rf 192,
 rf 193,
 rf 194,
 rf 195,
 rf 196,
 rf 197,
 rf 198,
 rf 199,
 rf 200,
 rf 201,
 rf 202,
 rf 203,
 rf 204,
 rf 205,
 rf 206,
 rf 207,
 rf 208,
 rf 209,
 rf 210,
 rf 211,
 rf 212,
 rr 213 (.uint .u64) 1 bF [] bF 0 8 [.int .u64 0] bF bF 0 bF,
 rf 214,
 rf 215,
 rf 216,
 {rr 217 (.ptr .int) 1 bF [] bF 0 8 [.pointer none] bF bF 0 bF with pt:=true},
 rf 218,
 rf 219,
 rf 220,
 rf 221,
 rf 222,
 rf 223,
 rf 224,
 rf 225,
 rf 227,
 rf 228,
 rf 229,
 {rr 230 qy2 1 bF [] bF 0 8 [.pointer none] bF bF 0 bF with pt:=true},
 rf 232,
 rf 233,
 rf 234,
 rf 235,
 rf 236,
 rf 238,
 rf 240,
 rf 241,
 rf 242,
 rf 243,
 rf 244,
 rf 245,
 rf 246,
 rf 247,
 rf 248,
 rf 249,
 rr 253 .unit 0 bT [(0,252)] bF 0 0 [] bF bF 0 bF,
 rr 254 .unit 0 bT [(0,252)] bF 0 0 [] bF bF 0 bF,
 rr 255 (.uint .u8) 1 bF [] bF 0 1 [.int .u8 0] bF bF 0 bF,
 rr 256 (.uint .u8) 1 bF [] bF 0 1 [.int .u8 0] bF bF 0 bF,
 rf 257,
 {rr 258 qy1 1 bF [] bF 0 8 [.pointer none] bF bF 0 bF with pt:=true},
 rr 259 (.uint .i32) 1 bF [] bF 0 4 [.int .i32 0] bF bF 0 bF,
 rr 260 (.uint .i32) 1 bF [] bF 0 4 [.int .i32 0] bF bF 0 bF,
 rr 261 .unit 11 bT [(0,12),(1,12),(2,188),(3,255),(4,5),(5,5),(6,256),(7,257),(8,258),(9,259),(10,260)] bF 0 48 [.int .u64 0,.int .u64 0,.int .u32 0,.int .u8 0,.int .u8 0,.int .u8 0,.int .u8 0,.nilFunc,.pointer none,.int .i32 0,.int .i32 0] bF bF 0 bF,
 rr 262 .unit 11 bT [(0,12),(1,12),(2,188),(3,255),(4,5),(5,5),(6,256),(7,257),(8,258),(9,259),(10,260)] bF 0 48 [.int .u64 0,.int .u64 0,.int .u32 0,.int .u8 0,.int .u8 0,.int .u8 0,.int .u8 0,.nilFunc,.pointer none,.int .i32 0,.int .i32 0] bF bF 0 bF,
 rf 263,
 rf 265]
def strs:List Nat:=[9,10,11]
noncomputable abbrev PR:Program:=Tryz.prog
theorem ZE:ti.all (jfK PR)=true:=by kernel_rfl
def jcQ (P:Program) (k:Nat):Bool:=match P.underlying k with|some .string=>true|_=>false
theorem Wg {P:Program} {l:List Nat} (a:l.all (jcQ P)=true) (T:Nat) (h:aW l T=true):P.underlying T=some .string:=by
 have:=jR.1 a T ((vj _ _).1 h);unfold jcQ at this
 split at this
 assumption
 cases this
theorem jcR:strs.all (jcQ PR)=true:=by kernel_rfl
theorem Rv:∀T,aW strs T=true->PR.underlying T=some .string:=Wg jcR
theorem mixed:PR.follows .mixedOrders=true:=by kernel_rfl
def jga (n:Nat) (fs:List (Nat×wD)):Ctx:=⟨n,ti,fs,fun _ _ _ _=>none,strs,false⟩
def ctx (n:Nat) (fs:List (Nat×wD)) (os:List (Nat×qC)):Ctx:=⟨n,ti,fs,jf4 (jga n fs) os,strs,false⟩
def oO:List (Nat×wD)->Prop
 |[]=>True
 |p::r=>(p.2.own=false->wN PR p.1 p.2)/\oO r
def dG:List (Nat×qC)->Prop
 |[]=>True
 |p::r=>ga PR p.1 p.2/\dG r
theorem fA:∀{l:List (Nat×wD)},oO l->∀f s,wc l f=some s->s.own=false->wN PR f s
 |[],_,f,s,h,_=>by simp[wc] at h
 | (j,x)::r,hk,f,s,h,ho=>by
  simp only[wc] at h
  cases a:Nat.beq j f with
  |true=>rw[a] at h;simp at h;subst h;have:=jb a;subst this;exact hk.1 ho
  |false=>rw[a] at h;exact fA hk.2 f s h ho
theorem rz:∀{l:List (Nat×qC)},dG l->∀f s,wc l f=some s->ga PR f s
 |[],_,f,s,h=>by simp[wc] at h
 | (j,x)::r,hk,f,s,h=>by
  simp only[wc] at h
  cases a:Nat.beq j f with
  |true=>rw[a] at h;simp at h;subst h;have:=jb a;subst this;exact hk.1
  |false=>rw[a] at h;exact rz hk.2 f s h
theorem Wh {n:Nat} {fs:List (Nat×wD)} (h:oO fs):(jga n fs).ok PR:=
 ⟨Rb ZE,fA h,Rv,rfl,fun _ _ _ _ _ a=>by cases a⟩
theorem pB {n:Nat} {fs:List (Nat×wD)} {os:List (Nat×qC)} (h:oO fs) (b:dG os):(ctx n fs os).ok PR:=
 ⟨Rb ZE,fA h,Rv,rfl,fun _ _ _ _ _ a=>SS (Wh h) (rz b) a⟩
def gd (t:Ty) (σ:St) (s:Nat):t.Data:=match σ.get s with
 | .dat a d=>(match qg a t d with|some x=>x|none=>t.dflt)
 |_=>t.dflt
def gr (t:Ty) (σ:St) (o:Nat):List t.Data:=match σ.obj o with
 |some (.row _ a _ _ l)=>(match qg (.slice a) (.slice t) l with|some l'=>l'|none=>[])
 |_=>[]
def gfn (ps rs:List Ty) (σ:St) (s:Nat):(Ty.st ps).Data->(Ty.st rs).Data:=match σ.get s with
 | .fn a b _ F=>if h:a=ps/\b=rs then h.1▸h.2▸F else fun _=>(Ty.st rs).dflt
 |_=>fun _=>(Ty.st rs).dflt
def wK (fn:Func):Code:=match fn.body with|some c=>c|none=> .skip
theorem jgF {f:Nat} {fn:Func} {n:Nat} {fs:List (Nat×wD)} {os:List (Nat×qC)} {s:wD} {A:Ann} (h:jeb (ctx n fs os) A fn (wK fn) s) (d:PR.funcs[f]? =some fn) (c:fn.body=some (wK fn)) (a:(fn.name== "runtime.NumGoroutine")=false)
 (e:fn.ntmps=n) (b:Nat.ble s.ps.length n=true) (hk:oO fs) (g:dG os):wN PR f s:=
 jex (pB hk g) mixed d c a e (jB b) A h
theorem jcS {f:Nat} {fn:Func} {n:Nat} {fs:List (Nat×wD)} {os:List (Nat×qC)} {s:qC} {A:Ann} (h:SR (ctx n fs os) A fn (wK fn) s) (e:PR.funcs[f]? =some fn) (d:fn.body=some (wK fn)) (a:(fn.name== "runtime.NumGoroutine")=false)
 (g:fn.ntmps=n) (c:Nat.ble s.ps.length n=true) (b:gN (OC s.ps 0)=true) (hk:oO fs) (i:dG os):ga PR f s:=
 jeA (pB hk i) mixed e d a g (jB c) b A h
abbrev qF:Prop:=false=false
theorem tZ:True:=True.intro
theorem iZ6 {x:Int} (a: -9223372036854775808<=x:=by omega) (b:x<=9223372036854775807:=by omega):kU x:=⟨a,b⟩
theorem kcC {f:Nat} {s:wD} {fs:List (Nat×wD)} (h:wN PR f s) (hk:oO fs):oO ((f,s)::fs):=⟨fun _=>h,hk⟩
theorem kcN:oO []:=trivial
theorem koC {f:Nat} {s:qC} {fs:List (Nat×qC)} (h:ga PR f s) (hk:dG fs):dG ((f,s)::fs):=⟨h,hk⟩
theorem koN:dG []:=trivial
theorem vZ (A:Ann) {f:Nat} {fn:Func} {fs:List (Nat×wD)} {os:List (Nat×qC)} {s:wD} {P:Prop} (h:P) (e:PR.funcs[f]? =some fn) (hk:oO fs) (g:dG os) (d:jeb (ctx fn.ntmps fs os) A fn (wK fn) s=P:=by kernel_rfl) (c:fn.body=some (wK fn):=by kernel_rfl) (a:(fn.name== "runtime.NumGoroutine")=false:=by kernel_rfl) (b:Nat.ble s.ps.length fn.ntmps=true:=by kernel_rfl):wN PR f s:=jgF (d.mpr h) e c a rfl b hk g
theorem wt {f:Nat} {fn:Func} {fs:List (Nat×wD)} {os:List (Nat×qC)} {s:wD} {P:Prop} (h:P) (e:PR.funcs[f]? =some fn) (hk:oO fs) (g:dG os) (d:jeb (ctx fn.ntmps fs os) (fun _=>none) fn (wK fn) s=P:=by kernel_rfl) (c:fn.body=some (wK fn):=by kernel_rfl) (a:(fn.name== "runtime.NumGoroutine")=false:=by kernel_rfl) (b:Nat.ble s.ps.length fn.ntmps=true:=by kernel_rfl):wN PR f s:=jgF (d.mpr h) e c a rfl b hk g
theorem AV (A:Ann) {f:Nat} {fn:Func} {fs:List (Nat×wD)} {os:List (Nat×qC)} {s:qC} {P:Prop} (h:P) (g:PR.funcs[f]? =some fn) (hk:oO fs) (i:dG os) (e:SR (ctx fn.ntmps fs os) A fn (wK fn) s=P:=by kernel_rfl) (d:fn.body=some (wK fn):=by kernel_rfl) (a:(fn.name== "runtime.NumGoroutine")=false:=by kernel_rfl) (c:Nat.ble s.ps.length fn.ntmps=true:=by kernel_rfl) (b:gN (OC s.ps 0)=true:=by kernel_rfl):ga PR f s:=jcS (e.mpr h) g d a rfl c b hk i
theorem AW {f:Nat} {fn:Func} {fs:List (Nat×wD)} {os:List (Nat×qC)} {s:qC} {P:Prop} (h:P) (g:PR.funcs[f]? =some fn) (hk:oO fs) (i:dG os) (e:SR (ctx fn.ntmps fs os) (fun _=>none) fn (wK fn) s=P:=by kernel_rfl) (d:fn.body=some (wK fn):=by kernel_rfl) (a:(fn.name== "runtime.NumGoroutine")=false:=by kernel_rfl) (c:Nat.ble s.ps.length fn.ntmps=true:=by kernel_rfl) (b:gN (OC s.ps 0)=true:=by kernel_rfl):ga PR f s:=jcS (e.mpr h) g d a rfl c b hk i
def NN (n:Nat) (fs:List (Nat×wD)) (os:List (Nat×qC)) (cs:List (Nat×rj)) (vs:List (Nat×IY)):Ctx:=⟨n,ti,fs,jf9 (jga n fs) os cs vs,strs,false⟩
def Wi:List (Nat×rj)->Prop
 |[]=>True
 |p::r=>Lj PR p.1 p.2/\Wi r
def Wj:List (Nat×IY)->Prop
 |[]=>True
 |p::r=>VOK PR p.1 p.2/\Wj r
theorem Ed:∀{l:List (Nat×rj)},Wi l->∀f s,wc l f=some s->Lj PR f s
 |[],_,f,s,h=>by simp[wc] at h
 | (j,x)::r,hk,f,s,h=>by
  simp only[wc] at h
  cases a:Nat.beq j f with
  |true=>rw[a] at h;simp at h;subst h;have:=jb a;subst this;exact hk.1
  |false=>rw[a] at h;exact Ed hk.2 f s h
theorem Ee:∀{l:List (Nat×IY)},Wj l->∀f s,wc l f=some s->VOK PR f s
 |[],_,f,s,h=>by simp[wc] at h
 | (j,x)::r,hk,f,s,h=>by
  simp only[wc] at h
  cases a:Nat.beq j f with
  |true=>rw[a] at h;simp at h;subst h;have:=jb a;subst this;exact hk.1
  |false=>rw[a] at h;exact Ee hk.2 f s h
theorem OT {n:Nat} {fs:List (Nat×wD)} {os:List (Nat×qC)} {cs:List (Nat×rj)} {vs:List (Nat×IY)} (h:oO fs) (c:dG os) (a:Wi cs) (d:Wj vs):(NN n fs os cs vs).ok PR:=
 ⟨Rb ZE,fA h,Rv,rfl,fun _ _ _ _ _ b=>SX (Wh h) (rz c) (Ed a) (Ee d) b⟩
theorem jeJ {f:Nat} {fn:Func} {n:Nat} {fs:List (Nat×wD)} {os:List (Nat×qC)} {s:rj} {A:Ann} (h:V9 (ctx n fs os) A fn (wK fn) s) (d:PR.funcs[f]? =some fn) (c:fn.body=some (wK fn)) (a:(fn.name== "runtime.NumGoroutine")=false)
 (e:fn.ntmps=n) (b:Nat.ble s.ps.length n=true) (hk:oO fs) (g:dG os):Lj PR f s:=
 jeG (pB hk g) mixed d c a e (jB b) A h
end Go.X
namespace Go.X
open U
namespace L
theorem wz {α:Type} [Inhabited α] {l:List α} {i:Nat} (h:i<l.length):nth l i=l[i]:=by
 unfold nth;simp[h]
theorem kT {α:Type} [Inhabited α] {l:List α} {i:Nat} (h:i<l.length):l.take (i+1)=l.take i++[nth l i]:=by
 rw[wz h];exact List.take_succ_eq_append_getElem h
theorem kJ {α:Type} [Inhabited α] {l:List α} {i:Nat} (h:i<l.length):nth l i∈l:=by
 rw[wz h];exact List.getElem_mem h
theorem mem_iff {α:Type} [Inhabited α] {l:List α} {x:α}:x∈l↔∃i,i<l.length/\nth l i=x:=by
 constructor;intro h;obtain⟨i,hi,e⟩:=List.getElem_of_mem h;exact⟨i,hi,by rw[wz hi,e]⟩;rintro⟨i,hi,rfl⟩;exact kJ hi
theorem all_false {α:Type} [Inhabited α] {l:List α} {i:Nat} {p:α->Bool} (h:i<l.length) (a:p (nth l i)=false):l.all p=false:=by
 rw[zS];exact⟨nth l i,kJ h,by simp[a]⟩
theorem Cs {x:Int} (a: -9223372036854775808<=x) (b:x<=9223372036854775807):kU x:=⟨a,b⟩
end L
namespace BT
theorem cn (k:Nat):(2:Int)^k=((2^k:Nat):Int):=by simp
theorem div_nat (n k:Nat):(n:Int)/2^k=((n/2^k:Nat):Int):=by simp
theorem pow63 {k:Nat} (h:k<=62):2^k<2^63:=Nat.pow_lt_pow_right (by decide) (by omega)
theorem ofInt_nat {n:Nat} (a:n<2^63):(BitVec.ofInt 64 (n:Int)).toNat=n:=by
 simp only[BitVec.toNat_ofInt];omega
theorem wrap_nat {n:Nat} (h:n<2^63):IntKind.i64.wrap (n:Int)=(n:Int):=by
 unfold IntKind.wrap;simp[IntKind.signed,IntKind.bits];omega
theorem wrapU_nat {n:Nat} (h:n<2^63):IntKind.u64.wrap (n:Int)=(n:Int):=by
 unfold IntKind.wrap;simp[IntKind.signed,IntKind.bits];omega
theorem band_nat {a b:Nat} (c:a<2^63) (d:b<2^63):bI (a:Int) (b:Int)=((a&&&b:Nat):Int):=by
 unfold bI;rw[BitVec.toNat_and,ofInt_nat c,ofInt_nat d];exact wrap_nat (kz Nat.and_le_left c)
theorem uand_nat {a b:Nat} (c:a<2^63) (d:b<2^63):y4 (a:Int) (b:Int)=((a&&&b:Nat):Int):=by
 unfold y4;rw[BitVec.toNat_and,ofInt_nat c,ofInt_nat d];exact wrapU_nat (kz Nat.and_le_left c)
theorem bor_nat {a b:Nat} (c:a<2^63) (d:b<2^63):bor (a:Int) (b:Int)=((a|||b:Nat):Int):=by
 unfold bor;rw[BitVec.toNat_or,ofInt_nat c,ofInt_nat d,wrap_nat (Nat.or_lt_two_pow c d)]
def sdiff (a b:Nat):Nat:=a&&&(2^64-(b+1))
theorem sdiff_bit {a b:Nat} (c:a<2^63) (d:b<2^63) (i:Nat):(sdiff a b).testBit i=(a.testBit i&& !b.testBit i):=by
 unfold sdiff;rw[Nat.testBit_and,Nat.testBit_two_pow_sub_succ (by omega)];by_cases hi:i<64;rw[jH hi,km];have:a.testBit i=false:=Nat.testBit_lt_two_pow (zB c (Nat.pow_le_pow_right (by decide) (by omega)));rw[this];simp
theorem bandn_nat {a b:Nat} (c:a<2^63) (d:b<2^63):CX (a:Int) (b:Int)=((sdiff a b:Nat):Int):=by
 unfold CX;rw[BitVec.toNat_and,BitVec.toNat_not,ofInt_nat c,ofInt_nat d];have:2^64-1-b=2^64-(b+1):=(by omega);rw[this];exact wrap_nat (kz Nat.and_le_left c)
def qH (s:Int):Prop:=0<=s/\s<2^62
def FS (s:Int) (p:Nat):Bool:=s.toNat.testBit p
theorem nat_of {s:Int} (h:qH s):∃n:Nat,s=(n:Int)/\n<2^62:=⟨s.toNat,by unfold qH at h;omega,by unfold qH at h;omega⟩
theorem lt63 {n:Nat} (h:n<2^62):n<2^63:=by omega
theorem has_shr {s:Int} (h:qH s) (p:Nat):decide (bI (s/2^p) 1=1)=FS s p:=by
 obtain⟨n,rfl,b⟩:=nat_of h;unfold FS;rw[jm,div_nat];have a:n/2^p<2^63:=kz (Nat.div_le_self _ _) (lt63 b);rw[show(1:Int)=((1:Nat):Int) from rfl,band_nat a (by decide),Nat.and_one_is_mod,Nat.testBit_eq_decide_div_mod_eq];exact decide_eq_decide.2 ⟨fun h=>by omega,fun h=>by omega⟩
theorem has_ushr {s:Int} (h:qH s) (p:Nat):decide (y4 (s/2^p) 1=1)=FS s p:=by
 obtain⟨n,rfl,b⟩:=nat_of h;unfold FS;rw[jm,div_nat];have a:n/2^p<2^63:=kz (Nat.div_le_self _ _) (lt63 b);rw[show(1:Int)=((1:Nat):Int) from rfl,uand_nat a (by decide),Nat.and_one_is_mod,Nat.testBit_eq_decide_div_mod_eq];exact decide_eq_decide.2 ⟨fun h=>by omega,fun h=>by omega⟩
theorem bit_num {s:Int} (h:qH s) (p:Nat):bI (s/2^p) 1=if FS s p=true then 1 else 0:=by
 obtain⟨n,rfl,b⟩:=nat_of h;unfold FS;rw[jm,div_nat];have a:n/2^p<2^63:=kz (Nat.div_le_self _ _) (lt63 b);rw[show(1:Int)=((1:Nat):Int) from rfl,band_nat a (by decide),Nat.and_one_is_mod,Nat.testBit_eq_decide_div_mod_eq]
 split
 rename_i h;have:=ja h;omega;rename_i h;have:¬(n/2^p%2=1):=fun e=>h (jH e);omega
theorem n9 (p:Nat):FS 0 p=false:=by unfold FS;simp
theorem CT (k p:Nat):FS ((2:Int)^k) p=decide (k=p):=by
 unfold FS;rw[cn,jm,Nat.testBit_two_pow]
theorem has_bor {a b:Int} (c:qH a) (d:qH b) (p:Nat):FS (bor a b) p=(FS a p||FS b p):=by
 obtain⟨n,rfl,f⟩:=nat_of c;obtain⟨m,rfl,e⟩:=nat_of d;unfold FS;rw[bor_nat (lt63 f) (lt63 e)];simp only[jm,Nat.testBit_or]
theorem has_bandn {a b:Int} (e:qH a) (f:qH b) (p:Nat):FS (CX a b) p=(FS a p&& !FS b p):=by
 obtain⟨n,rfl,d⟩:=nat_of e;obtain⟨m,rfl,c⟩:=nat_of f;unfold FS;rw[bandn_nat (lt63 d) (lt63 c)];simp only[jm];exact sdiff_bit (lt63 d) (lt63 c) p
theorem bor_set {a b:Int} (e:qH a) (f:qH b):qH (bor a b):=by
 obtain⟨n,rfl,d⟩:=nat_of e;obtain⟨m,rfl,c⟩:=nat_of f;rw[bor_nat (lt63 d) (lt63 c)];have:n|||m<2^62:=Nat.or_lt_two_pow d c;unfold qH;omega
theorem bandn_set {a b:Int} (c:qH a) (d:qH b):qH (CX a b):=by
 obtain⟨n,rfl,f⟩:=nat_of c;obtain⟨m,rfl,e⟩:=nat_of d;rw[bandn_nat (lt63 f) (lt63 e)];have:sdiff n m<=n:=Nat.and_le_left;unfold qH;omega
theorem u7:qH 0:=by unfold qH;omega
theorem lA {k:Nat} (h:k<=61):qH ((2:Int)^k):=by
 rw[cn];have:2^k<2^62:=Nat.pow_lt_pow_right (by decide) (by omega);obtain⟨q,a⟩:∃q,q=2^k:=⟨_,rfl⟩;rw[<-a] at this⊢;unfold qH;omega
theorem ext {a b:Int} (c:qH a) (d:qH b) (h:∀p,FS a p=FS b p):a=b:=by
 obtain⟨n,rfl,f⟩:=nat_of c;obtain⟨m,rfl,e⟩:=nat_of d;have:n=m:=kk (fun i=>by have:=h i;unfold FS at this;simpa using this);rw[this]
theorem has_lt {s:Int} {k:Nat} (c:0<=s) (h:s<2^k) {p:Nat} (b:FS s p=true):p<k:=by
 obtain⟨n,rfl⟩:∃n:Nat,s=(n:Int):=⟨s.toNat,by omega⟩;rw[cn] at h;unfold FS at b;rw[jm] at b;have d:=Nat.ge_two_pow_of_testBit b;rcases Nat.lt_or_ge p k with a|a;exact a;have:=Nat.pow_le_pow_right (n:=2) (by decide) a;omega
theorem lt_of_has {s:Int} {k:Nat} (a:qH s) (h:∀p,FS s p=true->p<k):s<2^k:=by
 obtain⟨n,rfl,b⟩:=nat_of a;rw[cn];have:n<2^k:=Nat.lt_pow_two_of_testBit n (fun i hi=>by
  cases e:n.testBit i with
  |false=>rfl
  |true=>have:=h i (by unfold FS;simpa using e);omega)
 omega
theorem or_two {n p:Nat} (h:n.testBit p=false):n+2^p=n|||2^p:=by
 have f:n=2^(p+1)*(n/2^(p+1))+n%2^(p+1):=(Nat.div_add_mod _ _).symm;have c:n%2^(p+1)<2^p:=by
  have b:n%2^(p+1)<2^(p+1):=Nat.mod_lt _ (Nat.pow_pos (by decide));rcases Nat.lt_or_ge (n%2^(p+1)) (2^p) with a|a
  .exact a
  .exfalso;have:(n%2^(p+1)).testBit p=true:=Nat.testBit_of_two_pow_le_and_two_pow_add_one_gt a b;rw[Nat.testBit_mod_two_pow,h] at this;simp at this
 apply kk;intro i;rw[Nat.testBit_or,Nat.testBit_two_pow];have e:n+2^p=2^(p+1)*(n/2^(p+1))+(2^p+n%2^(p+1)):=(by omega);have g:2^p+n%2^(p+1)<2^(p+1):=zB (Nat.add_lt_add_left c _) (by rw[Nat.pow_succ];omega);rw[e,Nat.testBit_two_pow_mul_add _ g]
 conv=>rhs;rw[f,Nat.testBit_two_pow_mul_add _ (Nat.mod_lt _ (Nat.pow_pos (by decide)))]
 have e2:2^p+n%2^(p+1)=2^p*1+n%2^(p+1):=(by omega);by_cases hi:i<p+1
 .rw[jd hi,jd hi,e2,Nat.testBit_two_pow_mul_add _ c];by_cases d:i<p
  .rw[jd d,zz (by omega),Bool.or_false]
  .have:i=p:=(by omega);subst this;rw[jc d,Nat.sub_self,jH rfl,Bool.or_true];simp
 .rw[jc hi,jc hi,zz (by omega),Bool.or_false]
theorem add_two {s:Int} (b:qH s) {p:Nat} (c:p<=61) (h:FS s p=false):s+2^p=bor s (2^p):=by
 obtain⟨n,rfl,a⟩:=nat_of b;rw[cn,bor_nat (lt63 a) (pow63 (by omega))];unfold FS at h;rw[jm] at h;rw[<-or_two h];omega
def size (s:Int):Int:=(((List.range 62).countP (fun p=>FS s p):Nat):Int)
theorem size_zero:size 0=0:=by
 unfold size;have:(List.range 62).countP (fun p=>FS 0 p)=0:=zT.2 (fun p _=>by rw[n9];simp);rw[this];rfl
theorem size_le (s:Int):0<=size s/\size s<=62:=by
 have:=List.countP_le_length (l:=List.range 62) (p:=fun p=>FS s p);rw[zt] at this;unfold size;omega
theorem has_half {s:Int} (a:qH s) (p:Nat):FS (s/2) p=FS s (p+1):=by
 obtain⟨n,rfl,b⟩:=nat_of a;unfold FS;have:((n:Int)/2).toNat=n/2:=(by omega);rw[this,jm,Nat.testBit_succ]
theorem size_half {s:Int} (d:qH s):size s=s%2+size (s/2):=by
 obtain⟨n,e,i⟩:=nat_of d;have b:FS (s/2) 61=false:=by
  rw[has_half d];subst e;unfold FS;rw[jm];exact Nat.testBit_lt_two_pow i
 have j:(List.range 62)=0::(List.range 61).map (·+1):=by
  rw[show(62:Nat)=61+1 from rfl,List.range_succ_eq_map]
 have c:(List.range 62)=List.range 61++[61]:=(by rw[show(62:Nat)=61+1 from rfl,jN]);have f:(FS s 0=true)↔s%2=1:=by
  subst e;unfold FS;rw[jm,Nat.testBit_zero];simp only[jv];omega
 have g:(List.range 62).countP (fun p=>FS (s/2) p)=(List.range 61).countP (fun p=>FS s (p+1)):=by
  rw[c,zL];simp only[kr,List.countP_nil,b];simp only[has_half d];simp
 unfold size;rw[g]
 conv=>lhs;rw[j]
 rw[kr,List.countP_map];have h:((fun p=>FS s p)∘fun(x:Nat)=>x+1)=fun p=>FS s (p+1):=rfl
 rw[h];by_cases a:FS s 0=true
 .rw[jd a];have:=f.1 a;omega
 .rw[jc a];have:¬s%2=1:=fun e=>a (f.2 e);omega
theorem size_pos {s:Int} (d:qH s):s≠0↔0<size s:=by
 constructor;intro h;obtain⟨n,rfl,c⟩:=nat_of d;obtain⟨i,hi⟩:=Nat.exists_testBit_of_ne_zero (x:=n) (by omega);have b:i<62:=by
  rcases Nat.lt_or_ge i 62 with a|a;exact a;have:=Nat.testBit_lt_two_pow (zB c (Nat.pow_le_pow_right (by decide) a));rw[this] at hi;cases hi
 unfold size;have:0<(List.range 62).countP (fun p=>FS (n:Int) p):=List.countP_pos_iff.2 ⟨i,jp.2 b,by unfold FS;simpa using hi⟩;omega;intro h e;rw[e,size_zero] at h;omega
end BT
namespace BT
theorem uor_nat {a b:Nat} (c:a<2^63) (d:b<2^63):uor (a:Int) (b:Int)=((a|||b:Nat):Int):=by
 unfold uor;rw[BitVec.toNat_or,ofInt_nat c,ofInt_nat d,wrapU_nat (Nat.or_lt_two_pow c d)]
theorem has_uor {a b:Int} (c:qH a) (d:qH b) (p:Nat):FS (uor a b) p=(FS a p||FS b p):=by
 obtain⟨n,rfl,f⟩:=nat_of c;obtain⟨m,rfl,e⟩:=nat_of d;unfold FS;rw[uor_nat (lt63 f) (lt63 e)];simp only[jm,Nat.testBit_or]
theorem uor_set {a b:Int} (e:qH a) (f:qH b):qH (uor a b):=by
 obtain⟨n,rfl,d⟩:=nat_of e;obtain⟨m,rfl,c⟩:=nat_of f;rw[uor_nat (lt63 d) (lt63 c)];have:n|||m<2^62:=Nat.or_lt_two_pow d c;unfold qH;omega
theorem pred_odd (k:Nat):(2*k+1)&&&(2*k+1-1)=2*k:=by
 apply kk;intro i;rw[Nat.testBit_and,Nat.add_sub_cancel];cases i with
 |zero=>simp
 |succ i=>
  rw[Nat.testBit_succ,Nat.testBit_succ];have:(2*k+1)/2=k:=(by omega);have a:(2*k)/2=k:=(by omega);rw[this,a,Bool.and_self]
theorem pred_even (k:Nat) (_:k≠0):(2*k)&&&(2*k-1)=2*(k&&&(k-1)):=by
 apply kk;intro i;rw[Nat.testBit_and];cases i with
 |zero=>simp
 |succ i=>
  rw[Nat.testBit_succ,Nat.testBit_succ,Nat.testBit_succ];have:(2*k)/2=k:=(by omega);have a:(2*k-1)/2=k-1:=(by omega);have b:(2*(k&&&(k-1)))/2=k&&&(k-1):=(by omega);rw[this,a,b,Nat.testBit_and]
theorem size_dbl {k:Nat} (h:k<2^61):size ((2*k:Nat):Int)=size (k:Int):=by
 rw[size_half (s:=((2*k:Nat):Int)) (by unfold qH;omega)];have a:((2*k:Nat):Int)%2=0:=(by omega);have b:((2*k:Nat):Int)/2=(k:Int):=(by omega);rw[a,b];omega
theorem size_odd {k:Nat} (h:k<2^61):size ((2*k+1:Nat):Int)=1+size (k:Int):=by
 rw[size_half (s:=((2*k+1:Nat):Int)) (by unfold qH;omega)];have a:((2*k+1:Nat):Int)%2=1:=(by omega);have b:((2*k+1:Nat):Int)/2=(k:Int):=(by omega);rw[a,b]
theorem pred_nat:∀(n:Nat),n≠0->n<2^62->(n&&&(n-1))<n/\size ((n&&&(n-1):Nat):Int)+1=size (n:Int)
 |n,b,d=>by
  rcases Nat.mod_two_eq_zero_or_one n with e|e
  obtain⟨k,rfl⟩:∃k,n=2*k:=⟨n/2,by omega⟩
  have hk:k≠0:=by omega
  obtain⟨c,a⟩:=pred_nat k hk (by omega)
  rw[pred_even k hk]
  exact⟨by omega,by rw[size_dbl (by omega),size_dbl (by omega)];exact a⟩
  obtain⟨k,rfl⟩:∃k,n=2*k+1:=⟨n/2,by omega⟩
  rw[pred_odd]
  exact⟨by omega,by rw[size_dbl (by omega),size_odd (by omega)];omega⟩
termination_by n=>n
theorem pred {s:Int} (d:qH s) (h:s≠0):qH (y4 s (s-1))/\y4 s (s-1)<s/\size (y4 s (s-1))+1=size s:=by
 obtain⟨n,rfl,a⟩:=nat_of d;have b:n≠0:=(by omega);have e:(n:Int)-1=((n-1:Nat):Int):=(by omega);rw[e,uand_nat (lt63 a) (by omega)];obtain⟨f,c⟩:=pred_nat n b a;exact⟨by unfold qH;omega,by omega,c⟩
end BT
namespace U
def f7 {α:Type} (eq:α->α->Bool) (p:α):List α->List α
 |[]=>[]
 |y::r=>if eq y p=true then f7 eq y r else y::f7 eq y r
def bO {α:Type} (eq:α->α->Bool):List α->List α
 |[]=>[]
 |x::r=>x::f7 eq x r
def jdX {α:Type} (eq:α->α->Bool) (l:List α) (i:Nat):Prop:=1<=i/\i<=l.length/\bO eq (l.take i)=l.take i
def pG {α:Type} (eq:α->α->Bool) (l:List α) (n:Nat):Int:=((bO eq (l.take n)).length:Int)
def QB {α:Type} (eq:α->α->Bool) (l:List α) (i k:Nat) (r:List α):Prop:=1<=k/\i+k<=l.length/\r.length=l.length/\bO eq (l.take (i+k))=r.take (bO eq (l.take (i+k))).length/\r.drop (i+k-1)=l.drop (i+k-1)/\(bO eq (l.take (i+k))).length<i+k
end U
namespace L
theorem nodup_len {α:Type}:∀(a b:List α),a.Nodup->(∀x∈a,x∈b)->a.length<=b.length
 |[],_,_,_=>by simp
 |x::a,b,hn,h=>by
  obtain⟨e,f,rfl⟩:=List.append_of_mem (h x (by simp))
  rw[zy] at hn
  have:=nodup_len a (e++f) hn.2 (fun y d=>by
   have:=h y (by simp[d])
   rw[ju,jk] at this
   rw[ju]
   rcases this with c|c|c
   exact .inl c
   subst c;exact absurd d hn.1
   exact .inr c)
  simp at this⊢
  omega
theorem eK {α:Type} [DecidableEq α]:∀{a b:List α},a.Nodup->b.Nodup->(∀n,n∈a↔n∈b)->a.Perm b
 |[],b,_,_,h=>by
  have:b=[]:=by
   cases b with
   |nil=>rfl
   |cons x r=>exact absurd ((h x).2 (by simp)) (by simp)
  rw[this]
 |x::r,b,ha,hb,h=>by
  have i:x∈b:=(h x).1 (by simp);have f:=List.perm_cons_erase i;refine(List.Perm.cons x (eK (zy.1 ha).2 (hb.erase x) (fun n=> ?_))).trans f.symm;rw[hb.mem_erase_iff];constructor;intro c;exact⟨fun e=>by subst e;exact(zy.1 ha).1 c,(h n).1 (jl _ c)⟩;rintro⟨d,c⟩;rcases jk.1 ((h n).2 c) with e|g;exact absurd e d;exact g
theorem nodup_inj {α β:Type} {f:α->β}:∀{l:List α},(l.map f).Nodup->∀{x y:α},x∈l->y∈l->f x=f y->x=y
 |[],_,_,_,h,_,_=>by simp at h
 |a::r,hn,x,y,hx,hy,e=>by
  simp only[zg,zy] at hn
  rcases jk.1 hx with rfl|c
  rcases jk.1 hy with rfl|b
  rfl
  exact absurd (jG.2 ⟨y,b,e.symm⟩) hn.1
  rcases jk.1 hy with rfl|b
  exact absurd (jG.2 ⟨x,c,e⟩) hn.1
  exact nodup_inj hn.2 c b e
theorem nth_take {α:Type} [Inhabited α] {l:List α} {i n:Nat} (h:i<n):nth (l.take n) i=nth l i:=by
 unfold nth;rw[za,za,jU h]
theorem nth_drop {α:Type} [Inhabited α] {l r:List α} {a n:Nat} (h:l.drop a=r.drop a) (b:a<=n):nth l n=nth r n:=by
 have e:=jP (fun x=>x[n-a]?) h;simp only[zi] at e;rw[show a+(n-a)=n by omega] at e;unfold nth;rw[za,za,e]
theorem CU {α β:Type} [Inhabited α] [Inhabited β] {f:α->β} {l:List α} {i:Nat} (h:i<l.length):nth (l.map f) i=f (nth l i):=by
 rw[wz (by simpa using h),wz h];simp
theorem vM {α:Type} [Inhabited α] {l:List α} {i j:Nat} {x:α} (h:i<l.length):nth (l.set i x) j=if i=j then x else nth l j:=by
 unfold nth;rw[za,za,List.getElem?_set]
 split
 rename_i e;subst e;simp[h];rfl
theorem aV {α:Type} [Inhabited α] {n i:Nat} {x:α} (h:i<n):nth (List.replicate n x) i=x:=by
 unfold nth;rw[za,List.getElem?_replicate,jd h];rfl
theorem ext_nth {α:Type} [Inhabited α] {a b:List α} (h:a.length=b.length) (d:∀i,i<a.length->nth a i=nth b i):a=b:=by
 apply List.ext_getElem h;intro i c e;rw[<-wz c,<-wz e];exact d i c
theorem range_map_nth {α:Type} [Inhabited α] (l:List α):(List.range l.length).map (nth l)=l:=by
 apply ext_nth;simp;intro i hi;rw[CU (by simpa using hi)];congr 1;rw[wz (by simpa using hi)];simp
section
variable {α:Type} [Inhabited α] {eq:α->α->Bool}
theorem compT_snoc (y:α):∀(r:List α) (p:α),f7 eq p (r++[y])=f7 eq p r++(if eq y (nth (p::r) r.length)=true then[] else[y])
 |[],p=>rfl
 |z::r,p=>by
  have e:nth (p::z::r) (z::r).length=nth (z::r) r.length:=rfl
  rw[e]
  simp only[j9,f7]
  split
  exact compT_snoc y r z
  rw[compT_snoc y r z];rfl
theorem comp_snoc (y:α) {l:List α} (h:l≠[]):bO eq (l++[y])=bO eq l++(if eq y (nth l (l.length-1))=true then[] else[y]):=by
 cases l with
 |nil=>exact absurd rfl h
 |cons x r=>
  show x::f7 eq x (r++[y])=_;rw[compT_snoc];have:(x::r).length-1=r.length:=(by simp);rw[this];rfl
theorem comp_take {l:List α} {n:Nat} (b:1<=n) (a:n<l.length):bO eq (l.take (n+1))=bO eq (l.take n)++(if eq (nth l n) (nth l (n-1))=true then[] else[nth l n]):=by
 rw[L.kT a,comp_snoc];have e:(l.take n).length-1=n-1:=(by rw[j0];omega);rw[e,nth_take (by omega)];intro e;have:=jP List.length e;rw[j0,zx] at this;omega
end
theorem comp_short {α:Type} {eq:α->α->Bool} {l:List α} (h:l.length<2):bO eq l=l:=by
 match l,h with
 |[],_=>rfl
 |[x],_=>rfl
theorem comp_len {α:Type} {eq:α->α->Bool} (l:List α):(bO eq l).length<=l.length:=by
 have:∀(r:List α) (p:α),(f7 eq p r).length<=r.length:=by
  intro r
  induction r with
  |nil=>intro p;simp[f7]
  |cons y r a=>
   intro p;unfold f7
   split
   have:=a y;simp;omega;have:=a y;simp;omega
 cases l with
 |nil=>simp[bO]
 |cons x r=>have:=this r x;simp[bO];omega
theorem inv9_next {α:Type} [Inhabited α] {eq:α->α->Bool} {l r:List α} {i k:Nat} (hi:1<=i) (h:QB eq l i k r) (g:i+k<l.length):
 (eq (nth r (i+k)) (nth r (i+k-1))=false->pG eq l (i+(k+1))=pG eq l (i+k)+1/\QB eq l i (k+1) (r.set (pG eq l (i+k)).toNat (nth r (i+k))))/\
 (eq (nth r (i+k)) (nth r (i+k-1))=true->pG eq l (i+(k+1))=pG eq l (i+k)/\QB eq l i (k+1) r):=by
 obtain⟨s,t,j,d,e,p⟩:=h;have o:nth r (i+k)=nth l (i+k):=nth_drop e (by omega);have e2:nth r (i+k-1)=nth l (i+k-1):=nth_drop e (by omega);have a:=comp_take (eq:=eq) (l:=l) (n:=i+k) (by omega) g;rw[show i+k+1=i+(k+1) by omega] at a;have m:r.drop (i+k)=l.drop (i+k):=by
  have:=jP (List.drop 1) e;rw[List.drop_drop,List.drop_drop,show i+k-1+1=i+k by omega] at this;exact this
 rw[o,e2];obtain⟨c,b⟩:∃c,c=bO eq (l.take (i+k)):=⟨_,rfl⟩;rw[<-b] at a d p;have q:(pG eq l (i+k))=(c.length:Int):=(by unfold pG;rw[<-b]);rw[q];refine⟨fun f=> ?_,fun f=> ?_⟩;rw[jc (by rw[f];simp)] at a;refine⟨by unfold pG;rw[a];simp,by omega,by omega,by simpa using j,?_,?_,?_⟩;rw[a];simp only[jm,jK,ze,zx];rw[List.take_add_one,List.getElem?_set_self (by omega)];rw[List.take_set_of_le (by omega),<-d];rfl;rw[show i+(k+1)-1=i+k by omega];simp only[jm];rw[List.drop_set_of_lt (by omega)];exact m;rw[a];simp;omega;rw[jd f,jY] at a;refine⟨by unfold pG;rw[a],by omega,by omega,j,?_,?_,?_⟩;rw[a];exact d;rw[show i+(k+1)-1=i+k by omega];exact m;rw[a];omega
theorem compT_sub {α:Type} {eq:α->α->Bool}:∀(r:List α) (p x:α),x∈f7 eq p r->x∈r
 |[],_,_,h=>by simp[f7] at h
 |y::r,p,x,h=>by
  unfold f7 at h
  split at h
  exact jl _ (compT_sub r y x h)
  rcases jk.1 h with rfl|h
  simp
  exact jl _ (compT_sub r y x h)
theorem comp_sub {α:Type} {eq:α->α->Bool} {l:List α} {x:α} (h:x∈bO eq l):x∈l:=by
 cases l with
 |nil=>simp[bO] at h
 |cons y r=>
  unfold bO at h;rcases jk.1 h with rfl|h;simp;exact jl _ (compT_sub r y x h)
theorem compT_mem {α:Type} [DecidableEq α]:∀(r:List α) (p x:α),x∈r->x=p\/x∈f7 (fun a b=>decide (a=b)) p r
 |y::r,p,x,h=>by
  unfold f7
  rcases jk.1 h with rfl|h
  by_cases e:x=p
  exact .inl e
  rw[jc (by simpa using e)];right;simp
  rcases compT_mem r y x h with rfl|c
  by_cases e:x=p
  exact .inl e
  rw[jc (by simpa using e)];right;simp
  right
  split
  exact c
  exact jl _ c
theorem comp_mem {α:Type} [DecidableEq α] {l:List α} {x:α}:x∈bO (fun a b=>decide (a=b)) l↔x∈l:=by
 refine⟨comp_sub,fun h=> ?_⟩;cases l with
 |nil=>simp at h
 |cons y r=>
  unfold bO;rcases jk.1 h with rfl|h;simp;rcases compT_mem r y x h with rfl|c;simp;exact jl _ c
theorem comp_asc {α:Type} [DecidableEq α] {lt:α->α->Bool}:∀{l:List α},vB lt l->SY lt l->(bO (fun a b=>decide (a=b)) l).Pairwise (fun a b=>lt a b=true):=by
 have i:∀(r:List α) (p:α),vB lt (p::r)->SY lt (p::r)->(p::f7 (fun a b=>decide (a=b)) p r).Pairwise (fun a b=>lt a b=true):=by
  intro r
  induction r with
  |nil=>intro p _ _;exact List.pairwise_singleton _ _
  |cons y r n=>
   intro p f j;have d:=zF.1 j;have k:vB lt (y::r):=f.sub (fun z c=>jl _ c);have hi:=n y k d.2;unfold f7;by_cases e:y=p;rw[jd (by simpa using e)];subst e;exact hi;rw[jc (by simpa using e)];refine zF.2 ⟨fun z c=> ?_,hi⟩;have g:lt p y=true:=by
    cases h:lt p y with
    |true=>rfl
    |false=>exact absurd (f.total p y (by simp) (by simp) h (d.1 y (by simp))).symm e
   rcases jk.1 c with rfl|c;exact g;have m:=compT_sub r y z c;exact f.trans p y z (by simp) (by simp) (by simp[m]) g ((zF.1 hi).1 z c)
 intro l f j;cases l with
 |nil=>exact List.Pairwise.nil
 |cons p r=>exact i r p f j
theorem asc_nodup {α:Type} {lt:α->α->Bool} {l:List α} (hi:∀x,lt x x=false) (h:l.Pairwise (fun a b=>lt a b=true)):l.Nodup:=
 h.imp (fun{a b} h e=>by subst e;rw[hi] at h;cases h)
theorem A8 {α:Type} [Inhabited α] {p:α->Bool} {l:List α} {i:Nat} (h:i<l.length):(l.take (i+1)).filter p=(l.take i).filter p++(if p (nth l i)=true then[nth l i] else[]):=by
 rw[kT h,kg];congr 1;by_cases e:p (nth l i)=true<;>simp[e]
theorem vD {p:Nat->Bool} {n:Nat}:(List.range (n+1)).filter p=(List.range n).filter p++(if p n=true then[n] else[]):=by
 rw[jN,kg];congr 1;by_cases e:p n=true<;>simp[e]
end L
end Go.X
namespace Go.X
open U
abbrev tSp:Ty:= .st [.int,.int]
abbrev tPe:Ty:= .st [.slice .int,.int,.int,.slice .int,.bool,.int]
abbrev tLw:Ty:= .st [.int,.int,.bool]
abbrev tCr:Ty:= .st [.int,.slice tPe,.slice tLw]
abbrev tJb:Ty:= .st [.int,.int,.int,.int,.int,.int]
abbrev tBk:Ty:= .st [tJb,.int,.int,.int]
abbrev tSh:Ty:= .st [.int,.int,.int,.int,.int]
abbrev tDy:Ty:= .st [tCr,.slice (.slice tSp),.slice tBk,.int,.int,.slice tSh]
abbrev SpD:Type:=Int×Int×Unit
abbrev PeD:Type:=List Int×Int×Int×List Int×Bool×Int×Unit
abbrev LwD:Type:=Int×Int×Bool×Unit
abbrev CrD:Type:=Int×List PeD×List LwD×Unit
abbrev JbD:Type:=Int×Int×Int×Int×Int×Int×Unit
abbrev BkD:Type:=JbD×Int×Int×Int×Unit
abbrev ShD:Type:=Int×Int×Int×Int×Int×Unit
abbrev DyD:Type:=CrD×List (List SpD)×List BkD×Int×Int×List ShD×Unit
namespace U
def lo (s:SpD):Int:=s.1
def hi (s:SpD):Int:=s.2.1
def kA (n a b:Int):Bool:=decide (a<=n)&&decide (n<=b)
def lv (p:PeD):List Int:=p.1
def fd (p:PeD):Int:=p.2.1
def cl (p:PeD):Int:=p.2.2.1
def gF (p:PeD):List Int:=p.2.2.2.1
def jfs (p:PeD):Bool:=p.2.2.2.2.1
def fe (p:PeD):Int:=p.2.2.2.2.2.1
def YU (l:LwD):Int:=l.1
def jeg (l:LwD):Int:=l.2.1
def jgr (l:LwD):Bool:=l.2.2.1
def la (c:CrD):Int:=c.1
def kI (c:CrD):List PeD:=c.2.1
def yx (c:CrD):List LwD:=c.2.2.1
def US (j:JbD):Int:=j.1
def NO (j:JbD):Int:=j.2.1
def ja4 (j:JbD):Int:=j.2.2.1
def ja5 (j:JbD):Int:=j.2.2.2.1
def mw (j:JbD):Int:=j.2.2.2.2.1
def jeh (j:JbD):Int:=j.2.2.2.2.2.1
def yY (b:BkD):JbD:=b.1
def jdY (b:BkD):Int:=b.2.1
def yq (b:BkD):Int:=b.2.2.1
def dp (b:BkD):Int:=b.2.2.2.1
def yZ (s:ShD):Int:=s.1
def Kw (s:ShD):Int:=s.2.1
def YV (s:ShD):Int:=s.2.2.1
def bP (s:ShD):Int:=s.2.2.2.1
def au (s:ShD):Int:=s.2.2.2.2.1
def kD (d:DyD):CrD:=d.1
def wG (d:DyD):List (List SpD):=d.2.1
def kH (d:DyD):List BkD:=d.2.2.1
def Nq (d:DyD):Int:=d.2.2.2.1
def R9 (d:DyD):Int:=d.2.2.2.2.1
def qG (d:DyD):List ShD:=d.2.2.2.2.2.1
def vp (d:DyD) (l:List ShD):DyD:=(kD d,wG d,kH d,Nq d,R9 d,l,())
def f8 (L:Int) (p:PeD):Bool:=decide (((lv p).length:Int)=L/\0<=fd p/\fd p<=255/\0<=cl p/\cl p<=255/\(gF p).length<=10/\0<=fe p/\fe p<=1000)&&((lv p).all (fun n=>kA n 0 5)&&(gF p).all (fun n=>kA n 0 99))
def f9 (l:LwD):Bool:=kA (YU l) 1 5&&kA (jeg l) 1 8
def kZ (c:CrD):Bool:=decide (2<=la c/\la c<=5/\(kI c).length<=8/\(yx c).length=4)&&((kI c).all (f8 (la c))&&(yx c).all f9)
def qp (c:CrD) (j:JbD):Bool:=decide (0<=US j/\US j<=la c-1/\0<=NO j/\NO j<=la c-1/\US j≠NO j/\0<=ja4 j/\ja4 j<=99/\0<=ja5 j/\ja5 j<=7/\0<=mw j/\mw j<=3/\1<=jeh j/\jeh j<=8)
def qV (c:CrD) (j:JbD):Int:=if kZ c=false then 30 else if qp c j=false then 31 else 0
def uS (s:SpD):Bool:=decide (0<=lo s/\lo s<=hi s/\hi s<=300)
def bX (n:Nat) (r:List SpD):Bool:=decide (r.length=n)&&r.all uS
def mn (n:Nat) (b:BkD):Bool:=decide (0<=jdY b/\jdY b<=(n:Int)-1/\0<=yq b/\yq b<dp b/\dp b<=1440)
def ic (nb a:Nat) (s:ShD):Bool:=decide (0<=yZ s/\yZ s<=99/\0<=Kw s/\Kw s<=9999/\1<=YV s/\YV s<=2/\0<=bP s/\bP s<=(nb:Int)-1/\0<=au s/\au s<=(a:Int)-1)
def wZ (d:DyD):Bool:=decide ((kH d).length<=4/\1<=(wG d).length/\(wG d).length<=5/\0<=Nq d/\Nq d<=300/\0<=R9 d/\R9 d<=1440/\(qG d).length<=30)&&
 ((wG d).all (bX (wG d).length)&&((kH d).all (mn (wG d).length)&&(qG d).all (ic (kH d).length (kI (kD d)).length)))
def FF (a b:ShD):Bool:=decide (yZ a=yZ b)&& !decide (a=b)
def CQ (l:List ShD) (i:Nat):Bool:=(l.take i).any (FF (nth l i))
def ab (l:List ShD) (n:Nat):Bool:=(List.range n).any (CQ l)
def bY (l:List ShD):Bool:=ab l l.length
def Nr (d:DyD):Bool:=(kH d).all (fun b=>qp (kD d) (yY b))
def gx (d:DyD):Int:=if kZ (kD d)=false then 30 else if Nr d=false then 31 else if wZ d=false then 50 else if bY (qG d)=true then 51 else 0
def Kk (l:List ShD) (i:Nat):Bool:= !((l.take i).any (fun x=>decide (x=nth l i)))
def ja6 (l:List ShD) (n m:Nat):List ShD:=((List.range n).filter (fun i=>decide (yZ (nth l i)=(m:Int))&&Kk l i)).map (nth l)
def YE (l:List ShD) (n:Nat):List ShD:=(List.range n).flatMap (ja6 l l.length)
def FG (l:List ShD):List ShD:=YE l 100
def Ns (p:PeD) (a:Int):Bool:=(gF p).any (fun t=>decide (t=a))
def wH (s n:Int):Bool:=decide (bI (s/2^n.toNat) 1=1)
def gy (c:CrD) (j:JbD) (p:Int):Bool:= !(Ns (nth (kI c) p.toNat) (ja4 j))&&wH (fd (nth (kI c) p.toNat)) (ja5 j)&&wH (cl (nth (kI c) p.toNat)) (mw j)
def bk (d:DyD) (b:Int):BkD:=nth (kH d) b.toNat
def jdZ (d:DyD) (a b:Int):Int:=hi (nth (nth (wG d) (jdY (bk d a)).toNat) (jdY (bk d b)).toNat)
def dQ (d:DyD) (a b:Int):Bool:=decide (yq (bk d a)<yq (bk d b)\/(yq (bk d a)=yq (bk d b)/\a<b))
def cR (d:DyD) (a b:Int):Int:=yq (bk d b)-dp (bk d a)-Nq d-jdZ d a b
def nV (d:DyD) (a b:Int):Bool:=if dQ d b a=true then decide (0<=cR d b a) else decide (0<=cR d a b)
def Cg (d:DyD) (l:List Int):Int:=(l.map (fun b=>dp (bk d b)-yq (bk d b))).foldl (·+·) 0
def jft (d:DyD) (l:List Int):Bool:=(List.range l.length).all (fun i=>(l.take i).all (fun b=>nV d (nth l i) b))
def vl (d:DyD) (p:Int) (l:List Int):Bool:=l.all (fun b=>gy (kD d) (yY (bk d b)) p)&&(jft d l&&decide (Cg d l<=R9 d))
def gm (a b:ShD):Bool:=decide (Kw b<Kw a\/(Kw a=Kw b/\yZ b<yZ a))
def CR (l:List ShD) (s:ShD):Bool:=decide (YV s=1)&& !(l.any (fun t=>decide (bP t=bP s)&&decide (au t=au s)&&gm t s))
def jd0 (a b:ShD):Bool:=gm b a
def QC (t:List Int) (p:Int) (n:Nat):List Int:=((List.range n).filter (fun b=>wH (nth t b) p)).map (fun(b:Nat)=>(b:Int))
def on (t:List Int) (p:Int):List Int:=QC t p t.length
def H8 (d:DyD) (x:List Int×List Int) (s:ShD):List Int×List Int:=
 if vl d (au s) (on x.1 (au s)++[bP s])=true then(x.1.set (bP s).toNat (nth x.1 (bP s).toNat+2^(au s).toNat),x.2) else(x.1,x.2++[yZ s])
def jfu (c:CrD) (t:Int) (d a b:Int):Bool:=(List.range (kI c).length).any (fun i=>wH t (i:Int)&&decide (d<=nth (lv (nth (kI c) i)) a.toNat)&&decide (d<=nth (lv (nth (kI c) i)) b.toNat))
def ig (c:CrD) (j:JbD):LwD:=nth (yx c) (mw j).toNat
end U
inductive Rch (J:Nat->Nat->Bool) (n s:Nat):Nat->Prop where
 |base:Rch J n s s
 |step {a b:Nat}:Rch J n s a->b<n->J a b=true->Rch J n s b
theorem Rch.lt {J:Nat->Nat->Bool} {n s t:Nat} (a:s<n) (h:Rch J n s t):t<n:=by
 cases h with
 |base=>exact a
 |step _ h _=>exact h
theorem Rch.trans {J:Nat->Nat->Bool} {n s t u:Nat} (a:Rch J n s t) (b:Rch J n t u):Rch J n s u:=by
 induction b with
 |base=>exact a
 |step _ c d e=>exact .step e c d
theorem Rch.symm {J:Nat->Nat->Bool} {n s t:Nat} (c:∀a b,J a b=J b a) (f:s<n) (h:Rch J n s t):Rch J n t s:=by
 induction h with
 |base=>exact .base
 |step d i e g=>
  rename_i a b;have:Rch J n b a:= .step .base (d.lt f) (by rw[c];exact e);exact this.trans g
theorem Rch.closed {J:Nat->Nat->Bool} {n s t:Nat} {S:Nat->Prop} (i:s<n) (c:S s) (f:∀a b,a<n->S a->b<n->J a b=true->S b) (h:Rch J n s t):S t:=by
 induction h with
 |base=>exact c
 |step d e g j=>exact f _ _ (d.lt i) j e g
namespace U
def ja7 (J:Nat->Nat->Bool) (r a:Nat) (out:List Int) (b:Nat):List Int:=if nth out a=(r:Int)/\nth out b<0/\J a b=true then out.set b ((r:Int)+1) else out
def jgs (J:Nat->Nat->Bool) (r a:Nat) (out:List Int) (k:Nat):List Int:=(List.range k).foldl (ja7 J r a) out
def jgt (J:Nat->Nat->Bool) (n r:Nat) (out:List Int) (k:Nat):List Int:=(List.range k).foldl (fun o a=>jgs J r a o n) out
def yC (n s:Nat):List Int:=(List.replicate n (-1:Int)).set s 0
def Ch (J:Nat->Nat->Bool) (n s k:Nat):List Int:=(List.range k).foldl (fun o r=>jgt J n r o n) (yC n s)
def uT (J:Nat->Nat->Bool) (q:Nat) (x:List Int×List Int) (b:Nat):List Int×List Int:=if nth x.1 b<0/\J q b=true then(x.1.set b (nth x.1 q+1),x.2++[(b:Int)]) else x
def uU (J:Nat->Nat->Bool) (q:Nat) (x:List Int×List Int) (k:Nat):List Int×List Int:=(List.range k).foldl (uT J q) x
def ac (J:Nat->Nat->Bool) (n:Nat) (x:List Int×List Int):List Int×List Int:=match x.2 with
 |[]=>x
 |q::_=>((uU J q.toNat x n).1,(uU J q.toNat x n).2.drop 1)
def ax (J:Nat->Nat->Bool) (n s:Nat):Nat->List Int×List Int
 |0=>(yC n s,[(s:Int)])
 |k+1=>ac J n (ax J n s k)
def jfv (J:Nat->Nat->Bool) (n s:Nat):List Int:=(ax J n s (n+1)).1
end U
theorem Ef (n s:Nat):(yC n s).length=n:=by unfold yC;simp
theorem Eg {n s x:Nat} (a:s<n) (b:x<n):nth (yC n s) x=if s=x then 0 else-1:=by
 unfold yC;rw[L.vM (by simpa using a),L.aV b]
structure UQ (J:Nat->Nat->Bool) (n s r a b:Nat) (out:List Int):Prop where
 len:out.length=n
 val:∀x,x<n->nth out x= -1\/(0<=nth out x/\nth out x<=(r:Int)+1)
 top:(a=0/\b=0)->∀x,x<n->nth out x<=(r:Int)
 zero:0<=nth out s
 rch:∀x,x<n->0<=nth out x->Rch J n s x
 lev:∀x,x<n->0<nth out x->∃y,y<n/\nth out y=nth out x-1
 cls:∀x y,x<n->y<n->0<=nth out x->(nth out x<(r:Int)\/(nth out x=(r:Int)/\(x<a\/(x=a/\y<b))))->J x y=true->0<=nth out y
theorem Wk {J:Nat->Nat->Bool} {n s r a b:Nat} {out:List Int} (_:s<n) (t:a<n) (u:b<n) (h:UQ J n s r a b out):UQ J n s r a (b+1) (ja7 J r a out b):=by
 unfold ja7
 split
 rename_i q;obtain⟨c1,c2,v⟩:=q;have p:b<out.length:=(by rw[h.len];exact u);have c:∀j,nth (out.set b ((r:Int)+1)) j=if b=j then(r:Int)+1 else nth out j:=fun j=>L.vM p
 have o:b≠a:=fun e=>by subst e;omega
 refine⟨by simpa using h.len,fun x g=> ?_,fun e=>by omega,?_,fun x g f=> ?_,fun x g f=> ?_,fun x y g k f d l=> ?_⟩;rw[c];split;right;omega;exact h.val x g;rw[c];split;omega;exact h.zero;rw[c] at f
 split at f
 rename_i e;subst e;exact .step (h.rch a t (by omega)) u v;exact h.rch x g f;rw[c] at f⊢
 split at f
 rename_i e;subst e;rw[jd rfl];exact⟨a,t,by rw[c,jc o];omega⟩;rename_i e;rw[jc e];obtain⟨y,k,e2⟩:=h.lev x g f;refine⟨y,k,?_⟩;rw[c,jc (fun e=>by subst e;omega)];exact e2;rw[c] at f d⊢
 split
 omega;rename_i z
 split at f
 rename_i e;rw[jd e] at d;omega;rename_i e;rw[jc e] at d;refine h.cls x y g k f ?_ l;rcases d with d|⟨d,i|⟨i,w⟩⟩;exact .inl d;exact .inr ⟨d,.inl i⟩;exact .inr ⟨d,.inr ⟨i,by omega⟩⟩;rename_i q;refine⟨h.len,h.val,fun e=>by omega,h.zero,h.rch,h.lev,fun x y g k f d l=> ?_⟩;rcases d with d|⟨d,i|⟨i,w⟩⟩;exact h.cls x y g k f (.inl d) l;exact h.cls x y g k f (.inr ⟨d,.inl i⟩) l;by_cases e:y=b;subst e;subst i;rcases Int.lt_or_le (nth out y) 0 with m|m;exact absurd ⟨d,m,l⟩ q;exact m;exact h.cls x y g k f (.inr ⟨d,.inr ⟨i,by omega⟩⟩) l
theorem jbx {J:Nat->Nat->Bool} {n s r a:Nat} {out:List Int} (c:s<n) (b:a<n) (h:UQ J n s r a 0 out):∀k,k<=n->UQ J n s r a k (jgs J r a out k)
 |0,_=>h
 |k+1,hk=>by
  have:=Wk c b (show k<n by omega) (jbx c b h k (by omega))
  unfold jgs at this⊢
  rw[jN,jz];exact this
theorem jcT {J:Nat->Nat->Bool} {n s r a:Nat} {out:List Int} (_:0<n) (h:UQ J n s r a n out):UQ J n s r (a+1) 0 out:=by
 refine⟨h.len,h.val,fun e=>by omega,h.zero,h.rch,h.lev,fun x y i c d b g=>h.cls x y i c d ?_ g⟩;rcases b with b|⟨b,f|⟨f,j⟩⟩;exact .inl b;by_cases e:x=a;exact .inr ⟨b,.inr ⟨e,c⟩⟩;exact .inr ⟨b,.inl (by omega)⟩;omega
theorem jby {J:Nat->Nat->Bool} {n s r:Nat} {out:List Int} (a:s<n) (h:UQ J n s r 0 0 out):∀k,k<=n->UQ J n s r k 0 (jgt J n r out k)
 |0,_=>h
 |k+1,hk=>by
  have:=jcT (by omega) (jbx a (show k<n by omega) (jby a h k (by omega)) n (jj _))
  unfold jgt at this⊢
  rw[jN,jz];exact this
theorem jcU {J:Nat->Nat->Bool} {n s r:Nat} {out:List Int} (h:UQ J n s r n 0 out):UQ J n s (r+1) 0 0 out:=by
 refine⟨h.len,fun x a=> ?_,fun _ x a=> ?_,h.zero,h.rch,h.lev,fun x y a i d b g=>h.cls x y a i d ?_ g⟩;rcases h.val x a with e|⟨c,e2⟩;exact .inl e;exact .inr ⟨c,by omega⟩;rcases h.val x a with e|⟨c,e2⟩<;>omega
 rcases b with b|⟨b,f|⟨f,j⟩⟩;by_cases e:nth out x=(r:Int);exact .inr ⟨e,.inl a⟩;exact .inl (by omega);omega;omega
theorem jbz {J:Nat->Nat->Bool} {n s:Nat} (c:s<n):∀k,UQ J n s k 0 0 (Ch J n s k)
 |0=>by
  have hi:∀x,x<n->nth (Ch J n s 0) x=if s=x then 0 else-1:=fun x a=>Eg c a
  refine⟨Ef n s,fun x a=> ?_,fun _ x a=> ?_,by rw[hi s c,jd rfl];omega,fun x a b=> ?_,fun x a b=> ?_,fun x y a g b f d=> ?_⟩
  rw[hi x a];split<;>simp
  rw[hi x a];split<;>simp
  rw[hi x a] at b
  split at b
  rename_i e;subst e;exact .base
  omega
  rw[hi x a] at b;split at b<;>omega
  omega
 |k+1=>by
  have:=jcU (jby c (jbz (J:=J) c k) n (jj _))
  unfold Ch at this⊢
  rw[jN,jz];exact this
theorem Wl {J:Nat->Nat->Bool} {n s r a b:Nat} {out:List Int} (h:UQ J n s r a b out):∀(k:Nat) x,x<n->nth out x=(k:Int)->∀j,j<=k->∃y,y<n/\nth out y=(j:Int)
 |0,x,c,e,j,d=>⟨x,c,by rw[e];omega⟩
 |k+1,x,c,e,j,d=>by
  by_cases f:j=k+1
  exact⟨x,c,by rw[e];omega⟩
  obtain⟨y,g,e2⟩:=h.lev x c (by omega)
  exact Wl h k y g (by rw[e2];omega) j (by omega)
theorem jeK {J:Nat->Nat->Bool} {n s x:Nat} (o:s<n) (u:x<n):nth (Ch J n s n) x<0↔¬Rch J n s x:=by
 have h:=jbz (J:=J) o n;have i:∀y,y<n->nth (Ch J n s n) y<(n:Int):=by
  intro y p;have c:=h.top ⟨rfl,rfl⟩ y p;rcases Int.lt_or_le (nth (Ch J n s n) y) (n:Int) with l|l;exact l;exfalso;have e:nth (Ch J n s n) y=(n:Int):=(by omega);have d:=Wl h n y p e;have:=L.nodup_len ((List.range (n+1)).map (fun(j:Nat)=>(j:Int))) (Ch J n s n) (List.Pairwise.map _ (fun a b f=>by intro e2;exact f (by omega)) List.nodup_range) (fun z v=>by
   obtain⟨j,g,rfl⟩:=jG.1 v;obtain⟨w,t,q⟩:=d j (by have:=jp.1 g;omega);rw[<-q];exact L.kJ (by rw[h.len];exact t))
  rw[h.len] at this;simp at this;omega
 constructor;intro A k;have:=k.closed (S:=fun y=>0<=nth (Ch J n s n) y) o h.zero (fun a b m c r g=>h.cls a b m r c (.inl (i a m)) g);have this:0<=nth (Ch J n s n) x:=this;omega;intro k;rcases Int.lt_or_le (nth (Ch J n s n) x) 0 with c|c;exact c;exact absurd (h.rch x u c) k
def Lp (out:List Int):Nat:=out.countP (fun z=>decide (z<0))
theorem I0:∀{out:List Int} {b:Nat} {v:Int},b<out.length->nth out b<0->0<=v->Lp (out.set b v)+1=Lp out
 |[],b,v,h,_,_=>by simp at h
 |z::r,0,v,_,a,h2=>by
  have a:z<0:=a
  unfold Lp
  rw[List.set_cons_zero,kr,kr,jc (by simpa using h2),jd (by simpa using a)]
 |z::r,b+1,v,h,a,h2=>by
  have:=I0 (out:=r) (b:=b) (v:=v) (by simpa using h) a h2
  unfold Lp at this⊢
  rw[List.set_cons_succ,kr,kr]
  omega
structure jgb (J:Nat->Nat->Bool) (n s:Nat) (ex:Nat->Nat->Prop) (x:List Int×List Int):Prop where
 len:x.1.length=n
 low:∀y,y<n->-1<=nth x.1 y/\nth x.1 y<=(n:Int)*2
 zero:0<=nth x.1 s
 rch:∀y,y<n->0<=nth x.1 y->Rch J n s y
 que:∀q,q∈x.2->0<=q/\q<(n:Int)/\0<=nth x.1 q.toNat
 cls:∀y z,y<n->z<n->0<=nth x.1 y->(y:Int)∉x.2\/ex y z->J y z=true->0<=nth x.1 z
def OU (n:Nat) (x:List Int×List Int):Prop:=∀y,y<n->nth x.1 y+(Lp x.1:Int)<=(n:Int)-1
theorem HJ (J:Nat->Nat->Bool) (q:Nat) (x:List Int×List Int) (k:Nat):uU J q x (k+1)=uT J q (uU J q x k) k:=by
 unfold uU;rw[jN,jz];rfl
structure InI (J:Nat->Nat->Bool) (n s q k:Nat) (x0 x:List Int×List Int):Prop where
 i:jgb J n s (fun y z=>y=q/\z<k) x
 le:OU n x
 mu:Lp x.1+x.2.length=Lp x0.1+x0.2.length
 pre:∃l,x.2=x0.2++l
 keep:∀y,y<n->0<=nth x0.1 y->nth x.1 y=nth x0.1 y
theorem jcV {J:Nat->Nat->Bool} {n s q k:Nat} {x0 x:List Int×List Int} (M:s<n) (p:q<n) (w:0<=nth x0.1 q) (hk:k<n) (h:InI J n s q k x0 x):InI J n s q (k+1) x0 (uT J q x k):=by
 have G:nth x.1 q=nth x0.1 q:=h.keep q p w;unfold uT
 split
 rename_i t;obtain⟨c1,c2⟩:=t;have m:k<x.1.length:=(by rw[h.i.len];exact hk);have b:∀j,nth (x.1.set k (nth x.1 q+1)) j=if k=j then nth x.1 q+1 else nth x.1 j:=fun j=>L.vM m
 have E:=I0 (v:=nth x.1 q+1) m c1 (by omega);have F:=h.le q p;have u:k≠q:=fun e=>by subst e;omega
 obtain⟨l,C⟩:=h.pre;refine⟨⟨by simpa using h.i.len,fun y d=> ?_,?_,fun y d c=> ?_,fun z f=> ?_,fun y z d f c a g=> ?_⟩,fun y d=> ?_,?_,⟨l++[(k:Int)],by simp only[C,jJ]⟩,fun y d c=> ?_⟩;simp only;rw[b];split;have:=h.i.low q p;omega;exact h.i.low y d;simp only;rw[b];split;omega;exact h.i.zero;simp only at c⊢;rw[b] at c
 split at c
 rename_i e;subst e;exact .step (h.i.rch q p (by omega)) hk c2;exact h.i.rch y d c;simp only at f⊢;rcases ju.1 f with f|f;obtain⟨H,I,K⟩:=h.i.que z f;refine⟨H,I,?_⟩;rw[b];split;omega;exact K;simp at f;subst f;refine⟨by omega,by omega,?_⟩;rw[jm,b,jd rfl];omega;simp only at c a⊢;rw[b] at c⊢
 split
 omega;rename_i B;by_cases e:k=y;subst e;rcases a with a|⟨a,_⟩;exact absurd (jg _ (by simp)) a;exact absurd a u;rw[jc e] at c;refine h.i.cls y z d f c ?_ g;rcases a with a|⟨o,A⟩;exact .inl (fun D=>a (jh _ D));exact .inr ⟨o,by omega⟩;simp only;rw[b];split;omega;have:=h.le y d;omega;have:=h.mu;simp only[jK,ze,zx];omega;have:=h.keep y d c;simp only;rw[b,jc (fun e=>by subst e;omega)];exact this;rename_i t;refine⟨⟨h.i.len,h.i.low,h.i.zero,h.i.rch,h.i.que,fun y z d f c a g=> ?_⟩,h.le,h.mu,h.pre,h.keep⟩;rcases a with a|⟨o,A⟩;exact h.i.cls y z d f c (.inl a) g;by_cases e:z=k;subst e;subst o;rcases Int.lt_or_le (nth x.1 z) 0 with r|r;exact absurd ⟨r,g⟩ t;exact r;exact h.i.cls y z d f c (.inr ⟨o,by omega⟩) g
theorem Wm {J:Nat->Nat->Bool} {n s q:Nat} {x:List Int×List Int} (e:s<n) (d:q<n) (b:0<=nth x.1 q) (hi:jgb J n s (fun _ _=>False) x) (a:OU n x):∀k,k<=n->InI J n s q k x (uU J q x k)
 |0,_=>⟨⟨hi.len,hi.low,hi.zero,hi.rch,hi.que,fun y z i j f c g=>hi.cls y z i j f (by rcases c with h|⟨_,h⟩;exact .inl h;omega) g⟩,a,rfl,⟨[],by simp[uU]⟩,fun _ _ _=>rfl⟩
 |k+1,hk=>by rw[HJ];exact jcV e d b (by omega) (Wm e d b hi a k (by omega))
structure jee (J:Nat->Nat->Bool) (n s:Nat) (x:List Int×List Int):Prop where
 i:jgb J n s (fun _ _=>False) x
 le:OU n x
theorem ZF {J:Nat->Nat->Bool} {n s:Nat} {x:List Int×List Int} (k:s<n) (h:jee J n s x):jee J n s (ac J n x)/\(x.2≠[]->Lp (ac J n x).1+(ac J n x).2.length+1=Lp x.1+x.2.length):=by
 obtain⟨st,o⟩:=x;cases o with
 |nil=>exact⟨h,fun h=>absurd rfl h⟩
 |cons q r=>
  obtain⟨p,t,m⟩:=h.i.que q (by simp);have hi:=Wm k (q:=q.toNat) (by omega) m h.i h.le n (jj _);obtain⟨l,d⟩:=hi.pre;have e2:(ac J n (st,q::r))=((uU J q.toNat (st,q::r) n).1,r++l):=by
   show((uU J q.toNat (st,q::r) n).1,(uU J q.toNat (st,q::r) n).2.drop 1)=_;rw[d];rfl
  rw[e2];have b:=hi.mu;rw[d] at b;refine⟨⟨⟨hi.i.len,hi.i.low,hi.i.zero,hi.i.rch,fun z c=>hi.i.que z (by rw[d];simp only at c⊢;exact jl _ c),fun y z j c f a g=> ?_⟩,hi.le⟩,fun _=> ?_⟩;rcases a with a|a;by_cases e:y=q.toNat;exact hi.i.cls y z j c f (.inr ⟨e,c⟩) g;refine hi.i.cls y z j c f (.inl ?_) g;rw[d];intro b;rcases jk.1 b with e2|b;omega;exact a b;exact a.elim;simp only[j9,ze] at b⊢;omega
theorem Rw {J:Nat->Nat->Bool} {n s:Nat} (f:s<n):jee J n s (ax J n s 0)/\Lp (ax J n s 0).1+(ax J n s 0).2.length=n:=by
 have hi:∀x,x<n->nth (yC n s) x=if s=x then 0 else-1:=fun x i=>Eg f i
 have h:Lp (yC n s)+1=n:=by
  have:=I0 (out:=List.replicate n (-1:Int)) (b:=s) (v:=0) (by simpa using f) (by rw[L.aV f];decide) (by decide);unfold yC;rw[this];unfold Lp;rw[List.countP_replicate];simp
 refine⟨⟨⟨Ef n s,fun y d=> ?_,?_,fun y d c=> ?_,fun q g=> ?_,fun y z d k c a j=> ?_⟩,fun y d=> ?_⟩,?_⟩;show-1<=nth (yC n s) y/\_;rw[show nth (ax J n s 0).1 y=_ from hi y d,hi y d];split<;>omega
 show 0<=nth (yC n s) s;rw[hi s f,jd rfl];omega;have c:0<=nth (yC n s) y:=c;rw[hi y d] at c
 split at c
 rename_i e;subst e;exact .base;omega;have g:q∈[(s:Int)]:=g;simp at g;subst g;refine⟨by omega,by omega,?_⟩;show 0<=nth (yC n s) (s:Int).toNat;rw[jm,hi s f,jd rfl];omega;have c:0<=nth (yC n s) y:=c;rw[hi y d] at c
 split at c
 rename_i e;subst e;rcases a with a|a;exact absurd (show(s:Int)∈[(s:Int)] by simp) a;exact a.elim;omega;show nth (yC n s) y+(Lp (yC n s):Int)<=(n:Int)-1;rw[hi y d];split<;>omega
 show Lp (yC n s)+1=n;exact h
theorem Eh {J:Nat->Nat->Bool} {n s:Nat} (b:s<n):∀k,jee J n s (ax J n s k)/\((ax J n s k).2=[]\/Lp (ax J n s k).1+(ax J n s k).2.length+k=n)
 |0=>⟨(Rw b).1,.inr (Rw b).2⟩
 |k+1=>by
  obtain⟨d,a⟩:=Eh b k
  obtain⟨f,g⟩:=ZF b d
  refine⟨f,?_⟩
  by_cases e:(ax J n s k).2=[]
  left
  show(ac J n (ax J n s k)).2=[]
  unfold ac
  split
  exact e
  rename_i c;rw[e] at c;cases c
  right
  have:=g e
  rcases a with a|a
  exact absurd a e
  show Lp (ac J n (ax J n s k)).1+(ac J n (ax J n s k)).2.length+(k+1)=n
  omega
theorem jcW {J:Nat->Nat->Bool} {n s:Nat} (a:s<n):(ax J n s (n+1)).2=[]:=by
 rcases(Eh (J:=J) a (n+1)).2 with h|h;exact h;omega
theorem ZG {J:Nat->Nat->Bool} {n s k:Nat} (h:(ax J n s k).2=[]):∀m,k<=m->ax J n s m=ax J n s k:=by
 intro m c
 induction m with
 |zero=>have:k=0:=by omega
        subst this;rfl
 |succ m b=>
  by_cases e:k=m+1;rw[e];have e2:=b (by omega);show ac J n (ax J n s m)=_;rw[e2];unfold ac
  split
  rfl;rename_i a;rw[h] at a;cases a
theorem jeL {J:Nat->Nat->Bool} {n s x:Nat} (e:s<n) (l:x<n):nth (jfv J n s) x<0↔¬Rch J n s x:=by
 have h:=(Eh (J:=J) e (n+1)).1;have j:=jcW (J:=J) e;constructor;intro m d;have:=d.closed (S:=fun y=>0<=nth (jfv J n s) y) e h.i.zero (fun a b f c g k=>h.i.cls a b f g c (.inl (by rw[j];simp)) k);have this:0<=nth (jfv J n s) x:=this;omega;intro d;rcases Int.lt_or_le (nth (jfv J n s) x) 0 with c|c;exact c;exact absurd (h.i.rch x l c) d
theorem jcX {J:Nat->Nat->Bool} {n a b:Nat} (e:∀x y,J x y=J y x) (c:a<n) (d:b<n):nth (Ch J n a n) b<0↔nth (jfv J n b) a<0:=by
 rw[jeK c d,jeL d c];exact not_congr ⟨fun h=>h.symm e c,fun h=>h.symm e d⟩
namespace U
def yO {α:Type} (p:α->Bool) (l:List α):Int:=match l.findIdx? p with|some i=>(i:Int)|none=> -1
def kC {α:Type} (F:α×Unit->Bool×Unit) (g:α):Bool:=(F (g,())).1
end U
def gfb (t:Ty) (σ:St) (s:Nat):(Ty.st [t]).Data->(Ty.st [.bool]).Data:=gfn [t] [.bool] σ s
theorem vo:∀(l:List Prop) {k:Prop},kV l->k->asks l k
 |[],_,_,hk=>hk
 |_::r,_,h,hk=>⟨h.1,vo r h.2 hk⟩
theorem yp {α:Type} [Inhabited α] {l:List α} {p:α->Bool} {i:Nat} (h:i<l.length) (a:∀b:Nat,b<i->p (nth l b)=false) (c:p (nth l i)=true):yO p l=i:=by
 have:l.findIdx? p=some i:=by
  rw[ke];refine⟨h,by rw[<-L.wz h];exact c,fun j d=> ?_⟩;have:=a j d;rw[L.wz (by omega)] at this;simp[this]
 unfold yO;rw[this]
theorem qW {α:Type} [Inhabited α] {l:List α} {p:α->Bool} {i:Nat} (h:l.length<=i) (a:∀b:Nat,b<i->p (nth l b)=false):yO p l= -1:=by
 have:l.findIdx? p=none:=by
  rw[List.findIdx?_eq_none_iff];intro x c;obtain⟨k,hk,rfl⟩:=L.mem_iff.1 c;exact a k (by omega)
 unfold yO;rw[this]
theorem iV {α:Type} (p:α->Bool) (l:List α):decide (0<=yO p l)=l.any p:=by
 rw[j8];unfold yO;simp only[jv]
 split
 rename_i i e;rw[ke] at e;obtain⟨h,a,_⟩:=e;exact⟨fun _=>zh.2 ⟨_,List.getElem_mem h,a⟩,fun _=>by omega⟩;rename_i e;rw[List.findIdx?_eq_none_iff] at e;refine⟨fun h=>by omega,fun h=> ?_⟩;obtain⟨x,b,a⟩:=zh.1 h;have:=e x b;exact absurd (a.symm.trans this) (by simp)
theorem tK {α:Type} (F:α×Unit->Bool×Unit) (l:List α):(!l.any (kC fun(x:α×Unit)=>(!kC F x.fst,())))=l.all (kC F):=by
 induction l with
 |nil=>rfl
 |cons a r b=>
  simp only[List.any_cons,List.all_cons,Bool.not_or,b];have:(!kC (fun(x:α×Unit)=>(!kC F x.fst,())) a)=kC F a:=by
   show(!(!kC F a))=_;rw[Bool.not_not]
  rw[this]
open Go.Proofs
namespace U
def uV (s n:Int):Bool:=decide (y4 (s/2^n.toNat) 1=1)
def jei (b:Bool):Int:=if b=true then 1 else 0
def Nt (c:CrD) (f g:Int->Bool) (p:PeD):Bool:=((((((decide (((lv p).length:Int)=la c)&&(lv p).all f)&&kA (fd p) 0 255)&&kA (cl p) 0 255)&&decide (((gF p).length:Int)<=10))&&(gF p).all g)&&kA (fe p) 0 1000)
end U
def OV:wD:=⟨[.val .int,.val .int,.val .int],[.bool],false,fun _=>[],fun d=>(kA d.1 d.2.1 d.2.2.1,())⟩
def OW:Prop:=∀(d:Int×Int×Int×Unit),(decide (d.2.1<=d.1)&&decide (d.1<=d.2.2.1),())=(kA d.1 d.2.1 d.2.2.1,())
def m0:wD:=⟨[.val (.uint .u64),.val .int],[.bool],false,fun d=>[0<=d.2.1,d.2.1<=64],fun d=>(uV d.1 d.2.1,())⟩
def Lq:Prop:=∀(d:Int×Int×Unit),0<=d.2.1->d.2.1<=64->0<=d.2.1/\d.2.1<=64/\(decide (y4 (d.1/(2:Int)^d.2.1.toNat) (1:Int)=1),())=(uV d.1 d.2.1,())
def yW:wD:=⟨[.val (.uint .u64)],[.int],false,fun d=>[BT.qH d.1],fun d=>(BT.size d.1,())⟩
def I1:Ann:=fun r=>match r with
 |1=>some fun σ=>{X:=Int×Int,sl:=fun x=>[(0,.dat (.uint .u64) x.1),(2,.dat .int x.2)],ob:=fun _=>[],inv:=fun x=>BT.qH x.1/\x.2+BT.size x.1=BT.size (gd (.uint .u64) σ 0),mu:=fun x=>x.1.toNat}
 |_=>none
def I2:Prop:=∀(d:Int×Unit),BT.qH d.1->(∃(x:Int×Int),((d.1=x.1/\0=x.2/\True)/\True)/\BT.qH x.1/\x.2+BT.size x.1=BT.size d.1)/\∀(x:Int×Int),BT.qH x.1/\x.2+BT.size x.1=BT.size d.1->(decide (x.1≠0)=true->kU (x.2+1)/\0<=x.1-1/\x.1-1<=18446744073709551615/\∃(a:Int×Int),((y4 x.1 (x.1-1)=a.1/\x.2+1=a.2/\True)/\True)/\(BT.qH a.1/\a.2+BT.size a.1=BT.size d.1)/\a.1.toNat<x.1.toNat)/\(decide (x.1≠0)=false->(x.2,())=(BT.size d.1,()))
def SZ:wD:=⟨[.val .bool],[.int],false,fun _=>[],fun d=>(jei d.1,())⟩
def S0:Prop:=∀(d:Bool×Unit),(d.1=true->((1:Int),())=(jei d.1,()))/\(d.1=false->((0:Int),())=(jei d.1,()))
def rA:wD:=⟨[.val (.slice .int),.fn [.int] [.bool]],[.int],false,fun d=>[∀g∈d.1,kV (d.2.1.pre (g,()))],fun d=>(yO (kC (α:=Int) d.2.1.F) d.1,())⟩
def rB:Ann:=fun r=>match r with
 |2=>some fun σ=>{X:=Nat,sl:=fun i=>[(8,.dat .int (i:Int))],ob:=fun _=>[],inv:=fun i=>i<=(gd (.slice .int) σ 0).length/\∀b:Nat,b<i->kC (gfb .int σ 1) (nth (gd (.slice .int) σ 0) b)=false,mu:=fun i=>(gd (.slice .int) σ 0).length-i}
 |_=>none
def rC:Prop:=∀(d:List Int×FnD [Ty.int] [Ty.bool]×Unit),(∀(g:Int),g∈d.1->kV (d.2.1.1 (g,())))->d.1.length<4611686018427387904->(∃(x:Nat),((0=(x:Int)/\True)/\True)/\x<=d.1.length/\∀(b:Nat),b<x->kC d.2.1.2 (nth d.1 b)=false)/\∀(x:Nat),(x<=d.1.length/\∀(b:Nat),b<x->kC d.2.1.2 (nth d.1 b)=false)->(decide ((x:Int)<d.1.length)=true->0<=(x:Int)/\(x:Int)<d.1.length/\asks (d.2.1.1 (nth d.1 (x:Int).toNat,())) (((d.2.1.2 (nth d.1 (x:Int).toNat,())).1=true->((x:Int),())=(yO (kC d.2.1.2) d.1,()))/\((d.2.1.2 (nth d.1 (x:Int).toNat,())).1=false->kU ((x:Int)+1)/\∃(a:Nat),(((x:Int)+1=(a:Int)/\True)/\True)/\(a<=d.1.length/\∀(b:Nat),b<a->kC d.2.1.2 (nth d.1 b)=false)/\d.1.length-a<d.1.length-x)))/\(decide ((x:Int)<d.1.length)=false->((-1:Int),())=(yO (kC d.2.1.2) d.1,()))
def lV:wD:=⟨[.val (.slice .int),.fn [.int] [.bool]],[.bool],false,fun d=>[∀g∈d.1,kV (d.2.1.pre (g,()))],fun d=>(d.1.any (kC (α:=Int) d.2.1.F),())⟩
def lW:Prop:=∀(d:List Int×FnD [Ty.int] [Ty.bool]×Unit),(∀(g:Int),g∈d.1->kV (d.2.1.1 (g,())))->(∀(g:Int),g∈d.1->kV (d.2.1.1 (g,())))/\(decide (0<=yO (kC d.2.1.2) d.1),())=(d.1.any (kC d.2.1.2),())
def rD:wD:=⟨[.val (.slice tLw),.fn [tLw] [.bool]],[.int],false,fun d=>[∀g∈d.1,kV (d.2.1.pre (g,()))],fun d=>(yO (kC (α:=LwD) d.2.1.F) d.1,())⟩
def rE:Ann:=fun r=>match r with
 |2=>some fun σ=>{X:=Nat,sl:=fun i=>[(8,.dat .int (i:Int))],ob:=fun _=>[],inv:=fun i=>i<=(gd (.slice tLw) σ 0).length/\∀b:Nat,b<i->kC (gfb tLw σ 1) (nth (gd (.slice tLw) σ 0) b)=false,mu:=fun i=>(gd (.slice tLw) σ 0).length-i}
 |_=>none
def rF:Prop:=∀(d:List LwD×FnD [tLw] [Ty.bool]×Unit),(∀(g:LwD),g∈d.1->kV (d.2.1.1 (g,())))->d.1.length<4611686018427387904->(∃(x:Nat),((0=(x:Int)/\True)/\True)/\x<=d.1.length/\∀(b:Nat),b<x->kC d.2.1.2 (nth d.1 b)=false)/\∀(x:Nat),(x<=d.1.length/\∀(b:Nat),b<x->kC d.2.1.2 (nth d.1 b)=false)->(decide ((x:Int)<d.1.length)=true->0<=(x:Int)/\(x:Int)<d.1.length/\asks (d.2.1.1 (nth d.1 (x:Int).toNat,())) (((d.2.1.2 (nth d.1 (x:Int).toNat,())).1=true->((x:Int),())=(yO (kC d.2.1.2) d.1,()))/\((d.2.1.2 (nth d.1 (x:Int).toNat,())).1=false->kU ((x:Int)+1)/\∃(a:Nat),(((x:Int)+1=(a:Int)/\True)/\True)/\(a<=d.1.length/\∀(b:Nat),b<a->kC d.2.1.2 (nth d.1 b)=false)/\d.1.length-a<d.1.length-x)))/\(decide ((x:Int)<d.1.length)=false->((-1:Int),())=(yO (kC d.2.1.2) d.1,()))
def lX:wD:=⟨[.val (.slice tLw),.fn [tLw] [.bool]],[.bool],false,fun d=>[∀g∈d.1,kV (d.2.1.pre (g,()))],fun d=>(d.1.any (kC (α:=LwD) d.2.1.F),())⟩
def lY:Prop:=∀(d:List LwD×FnD [tLw] [Ty.bool]×Unit),(∀(g:LwD),g∈d.1->kV (d.2.1.1 (g,())))->(∀(g:LwD),g∈d.1->kV (d.2.1.1 (g,())))/\(decide (0<=yO (kC d.2.1.2) d.1),())=(d.1.any (kC d.2.1.2),())
def lZ:wD:=⟨[.val (.slice tPe),.fn [tPe] [.bool]],[.int],false,fun d=>[∀g∈d.1,kV (d.2.1.pre (g,()))],fun d=>(yO (kC (α:=PeD) d.2.1.F) d.1,())⟩
def l4:Ann:=fun r=>match r with
 |2=>some fun σ=>{X:=Nat,sl:=fun i=>[(8,.dat .int (i:Int))],ob:=fun _=>[],inv:=fun i=>i<=(gd (.slice tPe) σ 0).length/\∀b:Nat,b<i->kC (gfb tPe σ 1) (nth (gd (.slice tPe) σ 0) b)=false,mu:=fun i=>(gd (.slice tPe) σ 0).length-i}
 |_=>none
def l5:Prop:=∀(d:List PeD×FnD [tPe] [Ty.bool]×Unit),(∀(g:PeD),g∈d.1->kV (d.2.1.1 (g,())))->d.1.length<4611686018427387904->(∃(x:Nat),((0=(x:Int)/\True)/\True)/\x<=d.1.length/\∀(b:Nat),b<x->kC d.2.1.2 (nth d.1 b)=false)/\∀(x:Nat),(x<=d.1.length/\∀(b:Nat),b<x->kC d.2.1.2 (nth d.1 b)=false)->(decide ((x:Int)<d.1.length)=true->0<=(x:Int)/\(x:Int)<d.1.length/\asks (d.2.1.1 (nth d.1 (x:Int).toNat,())) (((d.2.1.2 (nth d.1 (x:Int).toNat,())).1=true->((x:Int),())=(yO (kC d.2.1.2) d.1,()))/\((d.2.1.2 (nth d.1 (x:Int).toNat,())).1=false->kU ((x:Int)+1)/\∃(a:Nat),(((x:Int)+1=(a:Int)/\True)/\True)/\(a<=d.1.length/\∀(b:Nat),b<a->kC d.2.1.2 (nth d.1 b)=false)/\d.1.length-a<d.1.length-x)))/\(decide ((x:Int)<d.1.length)=false->((-1:Int),())=(yO (kC d.2.1.2) d.1,()))
def dZ:wD:=⟨[.val (.slice tPe),.fn [tPe] [.bool]],[.bool],false,fun d=>[∀g∈d.1,kV (d.2.1.pre (g,()))],fun d=>(d.1.any (kC (α:=PeD) d.2.1.F),())⟩
def d4:Prop:=∀(d:List PeD×FnD [tPe] [Ty.bool]×Unit),(∀(g:PeD),g∈d.1->kV (d.2.1.1 (g,())))->(∀(g:PeD),g∈d.1->kV (d.2.1.1 (g,())))/\(decide (0<=yO (kC d.2.1.2) d.1),())=(d.1.any (kC d.2.1.2),())
def Bc:wD:=⟨[.val .int,.rfn [.int] [.bool]],[.bool],false,fun d=>[kV (d.2.1.pre (d.1,()))],fun d=>(!(kC (α:=Int) d.2.1.F d.1),())⟩
def Bd:Prop:=∀(d:Int×FnD [Ty.int] [Ty.bool]×Unit),kV (d.2.1.1 (d.1,()))->asks (d.2.1.1 (d.1,())) ((!(d.2.1.2 (d.1,())).1,())=(!kC d.2.1.2 d.1,()))
def F9:wD:=⟨[.val (.slice .int),.fn [.int] [.bool]],[.bool],false,fun d=>[∀g∈d.1,kV (d.2.1.pre (g,()))],fun d=>(d.1.all (kC (α:=Int) d.2.1.F),())⟩
def Ga:Prop:=∀(d:List Int×FnD [Ty.int] [Ty.bool]×Unit),(∀(g:Int),g∈d.1->kV (d.2.1.1 (g,())))->(∀(g:Int),g∈d.1->kV [kV (d.2.1.1 (g,()))])/\(!d.1.any (kC fun(a:Int×Unit)=>(!kC d.2.1.2 a.1,())),())=(d.1.all (kC d.2.1.2),())
def Be:wD:=⟨[.val tLw,.rfn [tLw] [.bool]],[.bool],false,fun d=>[kV (d.2.1.pre (d.1,()))],fun d=>(!(kC (α:=LwD) d.2.1.F d.1),())⟩
def Bf:Prop:=∀(d:LwD×FnD [tLw] [Ty.bool]×Unit),kV (d.2.1.1 (d.1,()))->asks (d.2.1.1 (d.1,())) ((!(d.2.1.2 (d.1,())).1,())=(!kC d.2.1.2 d.1,()))
def Gb:wD:=⟨[.val (.slice tLw),.fn [tLw] [.bool]],[.bool],false,fun d=>[∀g∈d.1,kV (d.2.1.pre (g,()))],fun d=>(d.1.all (kC (α:=LwD) d.2.1.F),())⟩
def Gc:Prop:=∀(d:List LwD×FnD [tLw] [Ty.bool]×Unit),(∀(g:LwD),g∈d.1->kV (d.2.1.1 (g,())))->(∀(g:LwD),g∈d.1->kV [kV (d.2.1.1 (g,()))])/\(!d.1.any (kC fun(a:LwD×Unit)=>(!kC d.2.1.2 a.1,())),())=(d.1.all (kC d.2.1.2),())
def rG:wD:=⟨[.val tPe,.rfn [tPe] [.bool]],[.bool],false,fun d=>[kV (d.2.1.pre (d.1,()))],fun d=>(!(kC (α:=PeD) d.2.1.F d.1),())⟩
def rH:Prop:=∀(d:PeD×FnD [tPe] [Ty.bool]×Unit),kV (d.2.1.1 (d.1,()))->asks (d.2.1.1 (d.1,())) ((!(d.2.1.2 (d.1,())).1,())=(!kC d.2.1.2 d.1,()))
def xt:wD:=⟨[.val (.slice tPe),.fn [tPe] [.bool]],[.bool],false,fun d=>[∀g∈d.1,kV (d.2.1.pre (g,()))],fun d=>(d.1.all (kC (α:=PeD) d.2.1.F),())⟩
def xu:Prop:=∀(d:List PeD×FnD [tPe] [Ty.bool]×Unit),(∀(g:PeD),g∈d.1->kV (d.2.1.1 (g,())))->(∀(g:PeD),g∈d.1->kV [kV (d.2.1.1 (g,()))])/\(!d.1.any (kC fun(a:PeD×Unit)=>(!kC d.2.1.2 a.1,())),())=(d.1.all (kC d.2.1.2),())
def Lr:wD:=⟨[.val .int],[.bool],false,fun _=>[],fun d=>(kA d.1 0 5,())⟩
def Ls:Prop:=∀(d:Int×Unit),(kA d.1 (0:Int) (5:Int),())=(kA d.1 (0:Int) (5:Int),())
def Lt:wD:=⟨[.val .int],[.bool],false,fun _=>[],fun d=>(kA d.1 0 99,())⟩
def Lu:Prop:=∀(d:Int×Unit),(kA d.1 (0:Int) (99:Int),())=(kA d.1 (0:Int) (99:Int),())
def Lw:wD:=⟨[.val tPe,.ref tCr,.rfn [.int] [.bool],.rfn [.int] [.bool]],[.bool],false,fun d=>[∀g∈U.lv d.1,kV (d.2.2.1.pre (g,())),∀g∈gF d.1,kV (d.2.2.2.1.pre (g,()))],fun d=>(Nt d.2.1 (kC d.2.2.1.F) (kC d.2.2.2.1.F) d.1,())⟩
def Lx:Prop:=∀(d:PeD×CrD×FnD [Ty.int] [Ty.bool]×FnD [Ty.int] [Ty.bool]×Unit),(∀(g:Int),g∈U.lv d.1->kV (d.2.2.1.1 (g,())))->(∀(g:Int),g∈gF d.1->kV (d.2.2.2.1.1 (g,())))->d.1.1.length<4611686018427387904->(decide ((d.1.1.length:Int)=d.2.1.1)=true->∀(g:Int),g∈d.1.1->kV (d.2.2.1.1 (g,())))/\(((decide ((d.1.1.length:Int)=d.2.1.1)&&d.1.1.all (kC d.2.2.1.2)&&kA d.1.2.1 (0:Int) (255:Int)&&kA d.1.2.2.1 (0:Int) (255:Int))=true->d.1.2.2.2.1.length<4611686018427387904)->((decide ((d.1.1.length:Int)=d.2.1.1)&&d.1.1.all (kC d.2.2.1.2)&&kA d.1.2.1 (0:Int) (255:Int)&&kA d.1.2.2.1 (0:Int) (255:Int)&&decide ((d.1.2.2.2.1.length:Int)<=10))=true->∀(g:Int),g∈d.1.2.2.2.1->kV (d.2.2.2.1.1 (g,())))/\(decide ((d.1.1.length:Int)=d.2.1.1)&&d.1.1.all (kC d.2.2.1.2)&&kA d.1.2.1 (0:Int) (255:Int)&&kA d.1.2.2.1 (0:Int) (255:Int)&&decide ((d.1.2.2.2.1.length:Int)<=10)&&d.1.2.2.2.1.all (kC d.2.2.2.1.2)&&kA d.1.q4.2.1 (0:Int) (1000:Int),())=(Nt d.2.1 (kC d.2.2.1.2) (kC d.2.2.2.1.2) d.1,()))
def Ly:wD:=⟨[.val tLw],[.bool],false,fun _=>[],fun d=>(f9 d.1,())⟩
def Lz:Prop:=∀(d:LwD×Unit),(kA d.1.1 (1:Int) (5:Int)&&kA d.1.2.1 (1:Int) (8:Int),())=(f9 d.1,())
def LA:wD:=⟨[.val .int,.ref tCr],[.bool],false,fun d=>[kU (U.la d.2.1-1)],fun d=>(kA d.1 0 (U.la d.2.1-1),())⟩
def LB:Prop:=∀(d:Int×CrD×Unit),kU (U.la d.2.1-1)->kU (d.2.1.1-1)/\(kA d.1 (0:Int) (d.2.1.1-1),())=(kA d.1 (0:Int) (U.la d.2.1-1),())
def S1:wD:=⟨[.val tCr,.val tJb],[.int],false,fun _=>[],fun d=>(qV d.1 d.2.1,())⟩
abbrev jkG (d:CrD×JbD×Unit):=(!kA d.2.1.1 (0:Int) (U.la d.1-1)|| !kA d.2.1.2.1 (0:Int) (U.la d.1-1)||decide (d.2.1.1=d.2.1.2.1)|| !kA d.2.1.2.2.1 (0:Int) (99:Int)|| !kA d.2.1.2.2.2.1 (0:Int) (7:Int)|| !kA d.2.1.q4.1 (0:Int) (3:Int)|| !kA d.2.1.q4.2.1 (1:Int) (8:Int))
abbrev ji3 (d:CrD×JbD×Unit):=(8<(d.1.2.1.length:Int))
abbrev jkH:=(kC fun(a:LwD×Unit)=>(f9 a.1,()))
def S2:Prop:=∀(d:CrD×JbD×Unit),((!!kA d.1.1 (2:Int) (5:Int))=true->d.1.2.1.length<4611686018427387904)->((!(!kA d.1.1 (2:Int) (5:Int)||decide (ji3 d)))=true->∀(g:PeD),g∈d.1.2.1->kV [∀(c:Int),c∈U.lv g->kV [],∀(c:Int),c∈gF g->kV []])/\(((!(!kA d.1.1 (2:Int) (5:Int)||decide (ji3 d)|| !d.1.2.1.all (kC fun(b:PeD×Unit)=>(Nt d.1 (kC fun(b:Int×Unit)=>(kA b.1 (0:Int) (5:Int),())) (kC fun(b:Int×Unit)=>(kA b.1 (0:Int) (99:Int),())) b.1,()))))=true->d.1.2.2.1.length<4611686018427387904)->((!(!kA d.1.1 (2:Int) (5:Int)||decide (ji3 d)|| !d.1.2.1.all (kC fun(a:PeD×Unit)=>(Nt d.1 (kC fun(a:Int×Unit)=>(kA a.1 (0:Int) (5:Int),())) (kC fun(a:Int×Unit)=>(kA a.1 (0:Int) (99:Int),())) a.1,()))||decide ((d.1.2.2.1.length:Int)≠4)))=true->∀(g:LwD),g∈d.1.2.2.1->kV [])/\((!kA d.1.1 (2:Int) (5:Int)||decide (ji3 d)|| !d.1.2.1.all (kC fun(a:PeD×Unit)=>(Nt d.1 (kC fun(a:Int×Unit)=>(kA a.1 (0:Int) (5:Int),())) (kC fun(a:Int×Unit)=>(kA a.1 (0:Int) (99:Int),())) a.1,()))||decide ((d.1.2.2.1.length:Int)≠4)|| !d.1.2.2.1.all jkH)=true->((30:Int),())=(qV d.1 d.2.1,()))/\((!kA d.1.1 (2:Int) (5:Int)||decide (ji3 d)|| !d.1.2.1.all (kC fun(a:PeD×Unit)=>(Nt d.1 (kC fun(a:Int×Unit)=>(kA a.1 (0:Int) (5:Int),())) (kC fun(a:Int×Unit)=>(kA a.1 (0:Int) (99:Int),())) a.1,()))||decide ((d.1.2.2.1.length:Int)≠4)|| !d.1.2.2.1.all jkH)=false->kU (U.la d.1-1)/\((!!kA d.2.1.1 (0:Int) (U.la d.1-1))=true->kU (U.la d.1-1))/\((jkG d)=true->((31:Int),())=(qV d.1 d.2.1,()))/\((jkG d)=false->((0:Int),())=(qV d.1 d.2.1,()))))
theorem S3:OW:=by
 intro d;rfl
theorem gB:wN PR 114 OV:=wt S3 Tryz.func114 kcN koN
theorem OX:Lq:=by
 intro d a b;exact⟨a,b,rfl⟩
theorem LC:wN PR 173 m0:=wt OX Tryz.func173 kcN koN
theorem LD:I2:=by
 rintro⟨s,⟨⟩⟩ e;refine⟨⟨(s,0),⟨⟨rfl,rfl,tZ⟩,tZ⟩,e,by simp⟩,?_⟩;rintro⟨x,n⟩ ⟨a,b⟩;have a:BT.qH x:=a;have g:=BT.size_le s;have f:=BT.size_le x;refine⟨fun h=> ?_,fun h=> ?_⟩;have h:x≠0:=ja h;obtain⟨d,i,j⟩:=BT.pred a h;have c:=a;unfold BT.qH at c;simp only at b⊢;exact⟨iZ6,by omega,by omega,(y4 x (x-1),n+1),⟨⟨rfl,rfl,tZ⟩,tZ⟩,⟨d,(by omega:n+1+BT.size (y4 x (x-1))=BT.size s)⟩,(by unfold BT.qH at d;omega:(y4 x (x-1)).toNat<x.toNat)⟩;have h:x=0:=(by simpa using h);subst h;simp only[BT.size_zero] at b;simp only at b⊢;rw[show n=BT.size s by omega]
theorem I3:wN PR 116 yW:=vZ I1 LD Tryz.func116 kcN koN
theorem Wn:S0:=by
 rintro⟨b,⟨⟩⟩;exact⟨fun h=>by simp only at h;subst h;rfl,fun h=>by simp only at h;subst h;rfl⟩
theorem S4:wN PR 110 SZ:=wt Wn Tryz.func110 kcN koN
theorem tL:rC:=by
 rintro⟨l,f,⟨⟩⟩ a g;refine⟨⟨0,⟨⟨rfl,tZ⟩,tZ⟩,jt _,fun b c=>by omega⟩,fun i hi=>⟨fun h=> ?_,fun h=> ?_⟩⟩;have h:i<l.length:=(by simpa using h);simp only[jm] at*;refine⟨by omega,by omega,vo _ (a _ (L.kJ h)) ⟨fun c=> ?_,fun c=>⟨iZ6,i+1,⟨⟨by simp,tZ⟩,tZ⟩,⟨by omega,fun b d=> ?_⟩,by omega⟩⟩⟩;rw[yp (p:=kC (α:=Int) f.F) h hi.2 c];by_cases e:b=i;subst e;exact c;exact hi.2 b (by omega);have h:l.length<=i:=(by simpa using h);rw[qW (p:=kC (α:=Int) f.F) h hi.2]
theorem rI:wN PR 121 rA:=vZ rB tL Tryz.func121 kcN koN
theorem m9:lW:=by
 rintro⟨l,f,⟨⟩⟩ a;refine⟨a,?_⟩;exact jP (·,()) (iV (kC (α:=Int) f.F) l)
theorem yw:wN PR 80 lV:=wt m9 Tryz.func80 (kcC rI kcN) koN
theorem tM:rF:=by
 rintro⟨l,f,⟨⟩⟩ a g;refine⟨⟨0,⟨⟨rfl,tZ⟩,tZ⟩,jt _,fun b c=>by omega⟩,fun i hi=>⟨fun h=> ?_,fun h=> ?_⟩⟩;have h:i<l.length:=(by simpa using h);simp only[jm] at*;refine⟨by omega,by omega,vo _ (a _ (L.kJ h)) ⟨fun c=> ?_,fun c=>⟨iZ6,i+1,⟨⟨by simp,tZ⟩,tZ⟩,⟨by omega,fun b d=> ?_⟩,by omega⟩⟩⟩;rw[yp (p:=kC (α:=LwD) f.F) h hi.2 c];by_cases e:b=i;subst e;exact c;exact hi.2 b (by omega);have h:l.length<=i:=(by simpa using h);rw[qW (p:=kC (α:=LwD) f.F) h hi.2]
theorem rJ:wN PR 206 rD:=vZ rE tM Tryz.func206 kcN koN
theorem na:lY:=by
 rintro⟨l,f,⟨⟩⟩ a;refine⟨a,?_⟩;exact jP (·,()) (iV (kC (α:=LwD) f.F) l)
theorem l6:wN PR 190 lX:=wt na Tryz.func190 (kcC rJ kcN) koN
theorem nc:l5:=by
 rintro⟨l,f,⟨⟩⟩ a g;refine⟨⟨0,⟨⟨rfl,tZ⟩,tZ⟩,jt _,fun b c=>by omega⟩,fun i hi=>⟨fun h=> ?_,fun h=> ?_⟩⟩;have h:i<l.length:=(by simpa using h);simp only[jm] at*;refine⟨by omega,by omega,vo _ (a _ (L.kJ h)) ⟨fun c=> ?_,fun c=>⟨iZ6,i+1,⟨⟨by simp,tZ⟩,tZ⟩,⟨by omega,fun b d=> ?_⟩,by omega⟩⟩⟩;rw[yp (p:=kC (α:=PeD) f.F) h hi.2 c];by_cases e:b=i;subst e;exact c;exact hi.2 b (by omega);have h:l.length<=i:=(by simpa using h);rw[qW (p:=kC (α:=PeD) f.F) h hi.2]
theorem l7:wN PR 205 lZ:=vZ l4 nc Tryz.func205 kcN koN
theorem fB:d4:=by
 rintro⟨l,f,⟨⟩⟩ a;refine⟨a,?_⟩;exact jP (·,()) (iV (kC (α:=PeD) f.F) l)
theorem d6:wN PR 188 dZ:=wt fB Tryz.func188 (kcC l7 kcN) koN
theorem Ei:Bd:=by
 intro d h;exact vo _ h rfl
theorem Bg:wN PR 187 Bc:=wt Ei Tryz.func187 kcN koN
theorem I4:Ga:=by
 intro d h;exact⟨fun g a=>⟨h g a,tZ⟩,jP (·,()) (tK d.snd.fst.2 d.fst)⟩
theorem Gd:wN PR 141 F9:=wt I4 Tryz.func141 (kcC yw (kcC Bg kcN)) koN
theorem Ej:Bf:=by
 intro d h;exact vo _ h rfl
theorem Bh:wN PR 191 Be:=wt Ej Tryz.func191 kcN koN
theorem I5:Gc:=by
 intro d h;exact⟨fun g a=>⟨h g a,tZ⟩,jP (·,()) (tK d.snd.fst.2 d.fst)⟩
theorem Ge:wN PR 145 Gb:=wt I5 Tryz.func145 (kcC l6 (kcC Bh kcN)) koN
theorem tN:rH:=by
 intro d h;exact vo _ h rfl
theorem rK:wN PR 189 rG:=wt tN Tryz.func189 kcN koN
theorem Bj:xu:=by
 intro d h;exact⟨fun g a=>⟨h g a,tZ⟩,jP (·,()) (tK d.snd.fst.2 d.fst)⟩
theorem xv:wN PR 144 xt:=wt Bj Tryz.func144 (kcC d6 (kcC rK kcN)) koN
theorem OY:Ls:=fun _=>rfl
theorem LF:wN PR 138 Lr:=wt OY Tryz.func138 (kcC gB kcN) koN
theorem OZ:Lu:=fun _=>rfl
theorem LG:wN PR 139 Lt:=wt OZ Tryz.func139 (kcC gB kcN) koN
theorem O0:Lx:=by
 unfold Lx Prod.q4;rintro⟨p,c,f,g,⟨⟩⟩ a b _;exact⟨fun _=>a,fun _=>⟨fun _=>b,rfl⟩⟩
theorem LH:wN PR 140 Lw:=wt O0 Tryz.func140 (kcC gB (kcC Gd kcN)) koN
theorem O1:Lz:=fun _=>rfl
theorem LI:wN PR 142 Ly:=wt O1 Tryz.func142 (kcC gB kcN) koN
theorem O2:LB:=fun _ h=>⟨h,rfl⟩
theorem LJ:wN PR 143 LA:=wt O2 Tryz.func143 (kcC gB kcN) koN
theorem jcY (c:CrD) (p:PeD):Nt c (fun x=>kA x 0 5) (fun x=>kA x 0 99) p=f8 (U.la c) p:=by
 rw[j8];simp only[Nt,f8,kA,ji,jv];constructor;rintro⟨⟨⟨⟨⟨⟨e,f⟩,a⟩,b⟩,k⟩,i⟩,d⟩;exact⟨⟨e,a.1,a.2,b.1,b.2,by omega,d.1,d.2⟩,f,i⟩;rintro⟨⟨e,a,g,b,h,k,d,j⟩,f,i⟩;exact⟨⟨⟨⟨⟨⟨e,f⟩,a,g⟩,b,h⟩,by omega⟩,i⟩,d,j⟩
theorem jcZ (c:CrD):(((((!kA c.1 2 5||decide (8<((c.2.1.length:Nat):Int)))|| !c.2.1.all (f8 (U.la c)))||decide (((c.2.2.1.length:Nat):Int)≠4))|| !c.2.2.1.all f9))= !kZ c:=by
 unfold kZ;show _= !(decide (2<=c.1/\c.1<=5/\c.2.1.length<=8/\c.2.2.1.length=4)&&(c.2.1.all (f8 (U.la c))&&c.2.2.1.all f9));cases c.2.1.all (f8 (U.la c))<;>cases c.2.2.1.all f9<;>simp only[kA,Bool.not_true,Bool.not_false,Bool.or_true,Bool.or_false,Bool.and_true,kh,Bool.true_or]
 rw[j8];simp only[zG,jV,Bool.and_eq_false_iff,jv,jI];omega
theorem jeM (c:CrD) (j:JbD):((((((!kA j.1 0 (U.la c-1)|| !kA j.2.1 0 (U.la c-1))||decide (j.1=j.2.1))|| !kA j.2.2.1 0 99)|| !kA j.2.2.2.1 0 7)|| !kA j.2.2.2.2.1 0 3)|| !kA j.2.2.2.2.2.1 1 8)= !qp c j:=by
 have key:(qp c j=false)↔¬(0<=j.1/\j.1<=U.la c-1/\0<=j.2.1/\j.2.1<=U.la c-1/\j.1≠j.2.1/\0<=j.2.2.1/\j.2.2.1<=99/\0<=j.2.2.2.1/\j.2.2.2.1<=7/\0<=j.2.2.2.2.1/\j.2.2.2.2.1<=3/\1<=j.2.2.2.2.2.1/\j.2.2.2.2.2.1<=8):=by
  unfold qp;exact jI
 rw[j8,jV,key];simp only[kA,zG,jV,Bool.and_eq_false_iff,jv,jI];omega
theorem Wo:S2:=by
 unfold S2 jkH ji3 jkG Prod.q4;rintro⟨c,j,⟨⟩⟩;have f:∀p,kC (fun(x:PeD×Unit)=>(Nt c (kC fun(x:Int×Unit)=>(kA x.fst 0 5,())) (kC fun(x:Int×Unit)=>(kA x.fst 0 99,())) x.fst,())) p=f8 (U.la c) p:=fun p=>jcY c p
 have e2:(kC fun(x:LwD×Unit)=>(f9 x.fst,()))=f9:=rfl;have d:=jcZ c;have e:=jeM c j;intro _;refine⟨fun _ g _=>⟨fun _ _=>tZ,fun _ _=>tZ,tZ⟩,fun _=> ?_⟩;simp only at d e⊢;rw[funext f,e2,d,e];refine⟨fun _ _ _=>tZ,fun h=> ?_,fun h=> ?_⟩;have h:kZ c=false:=(by simpa using h);unfold qV;rw[jd h];have h:kZ c=true:=(by simpa using h);have i:2<=U.la c/\U.la c<=5:=by
  unfold kZ at h;simp only[ji,jv] at h;exact⟨h.1.1,h.1.2.1⟩
 have b:kU (U.la c-1):=iZ6;refine⟨b,fun _=>b,fun a=> ?_,fun a=> ?_⟩;have a:qp c j=false:=(by simpa using a);unfold qV;rw[jc (by rw[h];simp),jd a];have a:qp c j=true:=(by simpa using a);unfold qV;rw[jc (by rw[h];simp),jc (by rw[a];simp)]
theorem HK:wN PR 95 S1:=wt Wo Tryz.func95 (kcC gB (kcC xv (kcC Ge (kcC LF (kcC LG (kcC LH (kcC LI (kcC LJ kcN)))))))) koN
abbrev tTk:Ty:= .st [tCr,tJb,tLw]
abbrev TkD:Type:=CrD×JbD×LwD×Unit
namespace U
def tk (o:Option TkD):TkD:=wg (Ty.dflt tTk) o
def tc (t:TkD):CrD:=t.1
def tj (t:TkD):JbD:=t.2.1
def tl (t:TkD):LwD:=t.2.2.1
def H9 (c:CrD) (j:JbD):Option TkD:=if qV c j=0 then some (c,j,ig c j,()) else none
def cS (t:TkD):Prop:=kZ (tc t)=true/\qp (tc t) (tj t)=true/\tl t=ig (tc t) (tj t)
def UF (a b c:Bool):Int:=jei a+2*jei b+4*jei c
def vU (t:TkD) (p:PeD):Int:=UF (Ns p (ja4 (tj t))) (!wH (fd p) (ja5 (tj t))) (!wH (cl p) (mw (tj t)))
def uW (t:TkD) (p:PeD):List (Int×Int):=[(0,jei (!Ns p (ja4 (tj t)))),(1,bI (fd p/2^(ja5 (tj t)).toNat) 1),(2,bI (cl p/2^(mw (tj t)).toNat) 1)]
def bD (all left:List (Int×Int)) (out:Int):Prop:=BT.qH out/\left.Nodup/\(∀e∈left,e∈all)/\∀p:Nat,BT.FS out p=true↔∃e∈all,e∉left/\e.2=0/\e.1.toNat=p
def yM (t:TkD) (s:Int) (n:Nat):List (Int×PeD×Unit):=((List.range n).filter (fun(i:Nat)=>uV s (i:Int))).map (fun(i:Nat)=>((i:Int),nth (kI (tc t)) i,()))
def A3 (t:TkD) (s:Int):List (Int×PeD×Unit):=yM t s (kI (tc t)).length
def jn (t:TkD) (a b:Int) (x:Int×PeD×Unit):Bool:=decide (YU (tl t)<=min (nth (lv x.2.1) a.toNat) (nth (lv x.2.1) b.toNat))
def nW (t:TkD) (s a b:Int):Bool:=(A3 t s).any (jn t a b)
def ae (t:TkD) (a b:Int) (q:List (Int×PeD×Unit)):Bool:=match q.getLast? with|some x=>jn t a b x|none=>false
end U
def Ek:wD:=⟨[.val (.slice .int),.val .int],[.int],false,fun _=>[],fun d=>(yO (fun x=>decide (x=d.2.1)) d.1,())⟩
def El:Ann:=fun r=>match r with
 |2=>some fun σ=>{X:=Nat,sl:=fun i=>[(8,.dat .int (i:Int))],ob:=fun _=>[],inv:=fun i=>i<=(gd (.slice .int) σ 0).length/\∀b:Nat,b<i->decide (nth (gd (.slice .int) σ 0) b=gd .int σ 1)=false,mu:=fun i=>(gd (.slice .int) σ 0).length-i}
 |_=>none
def Em:Prop:=∀(d:List Int×Int×Unit),d.1.length<4611686018427387904->(∃(x:Nat),((0=(x:Int)/\True)/\True)/\x<=d.1.length/\∀(b:Nat),b<x->decide (nth d.1 b=d.2.1)=false)/\∀(x:Nat),(x<=d.1.length/\∀(b:Nat),b<x->decide (nth d.1 b=d.2.1)=false)->(decide ((x:Int)<d.1.length)=true->0<=(x:Int)/\(x:Int)<d.1.length/\(decide (d.2.1=nth d.1 (x:Int).toNat)=true->((x:Int),())=(yO (fun(c:Int)=>decide (c=d.2.1)) d.1,()))/\(decide (d.2.1=nth d.1 (x:Int).toNat)=false->kU ((x:Int)+1)/\∃(a:Nat),(((x:Int)+1=(a:Int)/\True)/\True)/\(a<=d.1.length/\∀(b:Nat),b<a->decide (nth d.1 b=d.2.1)=false)/\d.1.length-a<d.1.length-x))/\(decide ((x:Int)<d.1.length)=false->((-1:Int),())=(yO (fun(c:Int)=>decide (c=d.2.1)) d.1,()))
def tO:wD:=⟨[.val (.slice .int),.val .int],[.bool],false,fun _=>[],fun d=>(d.1.any (fun x=>decide (x=d.2.1)),())⟩
def tP:Prop:=∀(d:List Int×Int×Unit),(decide (0<=yO (fun(a:Int)=>decide (a=d.2.1)) d.1),())=(d.1.any fun(b:Int)=>decide (b=d.2.1),())
def Wp:wD:=⟨[.val tCr,.val tJb],[.ptr tTk,.int],false,fun _=>[],fun d=>(H9 d.1 d.2.1,qV d.1 d.2.1,())⟩
def Wq:Prop:=∀(d:CrD×JbD×Unit),(decide (qV d.1 d.2.1≠0)=true->(none,qV d.1 d.2.1,())=(H9 d.1 d.2.1,qV d.1 d.2.1,()))/\(decide (qV d.1 d.2.1≠0)=false->0<=d.2.1.q4.1/\d.2.1.q4.1<(d.1.2.2.1.length:Int)/\(some (d.1,d.2.1,nth d.1.2.2.1 d.2.1.q4.1.toNat,()),(0:Int),())=(H9 d.1 d.2.1,qV d.1 d.2.1,()))
def LM (d:PD [.ref (.ptr tTk),.ref (.uint .u64)]) (xs:List (Ty.st [.int,tPe]).Data):Prop:=xs=A3 (U.tk d.1) d.2.1
def S5 (d:PD [.ref (.ptr tTk),.ref (.uint .u64)]):CE (YS [.int,tPe]):=fun r=>match r with
 |1=>some fun _ _=>{X:=Nat,sl:=fun i=>[(12,.dat .int (i:Int))],ob:=fun _=>[],ys:=fun i=>(yM (U.tk d.1) d.2.1 i,true),inv:=fun i=>i<=(kI (U.tc (U.tk d.1))).length,mu:=fun i=>(kI (U.tc (U.tk d.1))).length-i}
 |_=>none
abbrev ji4 (d:Option (CrD×JbD×LwD×Unit)×Int×Unit):=(wg (((0:Int),[],[],()),((0:Int),(0:Int),(0:Int),(0:Int),(0:Int),(0:Int),()),((0:Int),(0:Int),false,()),()) d.1)
abbrev jhH (d:Option (CrD×JbD×LwD×Unit)×Int×Unit):=(kI (U.tc (U.tk d.1)))
abbrev ji5 (x:Nat)(d:Option (CrD×JbD×LwD×Unit)×Int×Unit):=((x:Int),nth (ji4 d).1.2.1 (x:Int).toNat,())
abbrev jj2 (x:Nat)(a:Nat):=(((x:Int)+1=(a:Int)/\True)/\True)
def cI:Prop:=∀(d:Option (CrD×JbD×LwD×Unit)×Int×Unit) (l:Nat),d.1.isSome=true->(jhH d).length<=60->d.1.isSome=true/\((ji4 d).1.2.1.length<4611686018427387904->(∃(x:Nat),((0=(x:Int)/\True)/\True)/\([],true)=(yM (U.tk d.1) d.2.1 x,true)/\x<=(jhH d).length)/\∀(x:Nat),x<=(jhH d).length->(decide ((x:Int)<(ji4 d).1.2.1.length)=true->0<=(x:Int)/\(x:Int)<(ji4 d).1.2.1.length/\0<=(x:Int)/\(x:Int)<=64/\(uV d.2.1 (x:Int)=true->l=l/\(∃(rest:List (Int×PeD×Unit)),yM (U.tk d.1) d.2.1 x++[(ji5 x d)]++rest=A3 (U.tk d.1) d.2.1)/\(((uV d.2.1 (x:Int)&& !true)=true->true=true->yM (U.tk d.1) d.2.1 x++[(ji5 x d)]=A3 (U.tk d.1) d.2.1)/\((uV d.2.1 (x:Int)&& !true)=false->kU ((x:Int)+1)/\∃(a:Nat),(jj2 x a)/\(yM (U.tk d.1) d.2.1 x++[(ji5 x d)],true)=(yM (U.tk d.1) d.2.1 a,true)/\a<=(jhH d).length/\(jhH d).length-a<(jhH d).length-x))/\((uV d.2.1 (x:Int)&& !false)=true->false=true->yM (U.tk d.1) d.2.1 x++[(ji5 x d)]=A3 (U.tk d.1) d.2.1)/\((uV d.2.1 (x:Int)&& !false)=false->kU ((x:Int)+1)/\∃(a:Nat),(jj2 x a)/\(yM (U.tk d.1) d.2.1 x++[(ji5 x d)],false)=(yM (U.tk d.1) d.2.1 a,true)/\a<=(jhH d).length/\(jhH d).length-a<(jhH d).length-x))/\(uV d.2.1 (x:Int)=false->((uV d.2.1 (x:Int)&& !false)=true->true=true->yM (U.tk d.1) d.2.1 x=A3 (U.tk d.1) d.2.1)/\((uV d.2.1 (x:Int)&& !false)=false->kU ((x:Int)+1)/\∃(a:Nat),(jj2 x a)/\(yM (U.tk d.1) d.2.1 x,true)=(yM (U.tk d.1) d.2.1 a,true)/\a<=(jhH d).length/\(jhH d).length-a<(jhH d).length-x)))/\(decide ((x:Int)<(ji4 d).1.2.1.length)=false->true=true->yM (U.tk d.1) d.2.1 x=A3 (U.tk d.1) d.2.1))
theorem l8:(Zw (ctx 28 [(173,m0)] []) (wK Tryz.f172) [.int,tPe] [.ref (.ptr tTk),.ref (.uint .u64)] LM (fun d=>[d.1.isSome=true,(kI (U.tc (U.tk d.1))).length<=60]) (fun d _=>S5 d) (fun d l=>hkY [.int,tPe] l [24] (fun q=>∃rest,LM d (q++rest)) (fun _=>none)))=cI:=by kernel_rfl
def ww:rj:=⟨[.val (.ptr tTk),.val (.uint .u64)],fun _=>[],172,[.ptr tTk,.uint .u64],fun d=>(d.1,d.2.1,())⟩
def fC:Prop:=∀(d:Option (CrD×JbD×LwD×Unit)×Int×Unit),d=d
theorem oP:(V9 (ctx 6 [] []) (fun _=>none) Tryz.f115 (wK Tryz.f115) ww)=fC:=by kernel_rfl
def Ry (sv:SV):Option (Prop×(List (Ty.st [.int,tPe]).Data->Prop)):=match sv with
 | .clo 172 [.ep b t,.ep c s]=>(match qg b (.ptr tTk) t,qg c (.uint .u64) s with
  |some a,some d=>some ((a.isSome=true/\(kI (U.tc (U.tk a))).length<=60),fun xs=>xs=A3 (U.tk a) d)
  |_,_=>none)
 |_=>none
def Wr:Lf [.int,tPe]:={ps:=[.ref (.ptr tTk),.ref .int,.ref .int,.own (.box 4 [.dat .bool]) true],slots:=[4,6,7,8],dst:=34,pre:=fun _=>[],G:=fun d q=>((d.2.2.2.1.1||ae (U.tk d.1) d.2.1 d.2.2.1 q,()),()),stop:=fun d q=>ae (U.tk d.1) d.2.1 d.2.2.1 q,seq:=Ry}
def En:Nat->Option ((ts:List Ty)×Lf ts):=fun r=>match r with
 |3=>some ⟨[.int,tPe],Wr⟩
 |_=>none
def lF:wD:=⟨[.val (.ptr tTk),.val (.uint .u64),.val .int,.val .int],[.bool],false,
 fun d=>[d.1.isSome=true,cS (U.tk d.1),0<=d.2.2.1,d.2.2.1<U.la (U.tc (U.tk d.1)),0<=d.2.2.2.1,d.2.2.2.1<U.la (U.tc (U.tk d.1))],fun d=>(nW (U.tk d.1) d.2.1 d.2.2.1 d.2.2.2.1,())⟩
abbrev jkI (d:Option (CrD×JbD×LwD×Unit)×Int×Int×Int×Unit)(x:Int×PeD×Unit):=((wg (((0:Int),[],[],()),((0:Int),(0:Int),(0:Int),(0:Int),(0:Int),(0:Int),()),((0:Int),(0:Int),false,()),()) d.1).2.2.1.1<=min (nth x.2.1.1 d.2.2.1.toNat) (nth x.2.1.1 d.2.2.2.1.toNat))
abbrev jj3 (d:Option (CrD×JbD×LwD×Unit)×Int×Int×Int×Unit):=(fun(a:List (Int×PeD×Unit))=>ae (U.tk d.1) d.2.2.1 d.2.2.2.1 a)
def lG:Prop:=∀(d:Option (CrD×JbD×LwD×Unit)×Int×Int×Int×Unit),d.1.isSome=true->cS (U.tk d.1)->0<=d.2.2.1->d.2.2.1<U.la (U.tc (U.tk d.1))->0<=d.2.2.2.1->d.2.2.2.1<U.la (U.tc (U.tk d.1))->(d.1.isSome=true/\(kI (U.tc (U.tk d.1))).length<=60)/\True/\(d.1,d.2.2.1,d.2.2.2.1,(false||ae (U.tk d.1) d.2.2.1 d.2.2.2.1 [],()),())=(d.1,d.2.2.1,d.2.2.2.1,(false,()),())/\(∀(q:List (Int×PeD×Unit)) (x:Int×PeD×Unit) (rest:List (Int×PeD×Unit)),q++x::rest=A3 (U.tk d.1) d.2.1->yu (jj3 d) q->0<=d.2.2.1/\d.2.2.1<(x.2.1.1.length:Int)/\0<=d.2.2.2.1/\d.2.2.2.1<(x.2.1.1.length:Int)/\d.1.isSome=true/\(decide (jkI d x)=true->ae (U.tk d.1) d.2.2.1 d.2.2.2.1 (q++[x])=true/\((true,()),())=((false||ae (U.tk d.1) d.2.2.1 d.2.2.2.1 (q++[x]),()),()))/\(decide (jkI d x)=false->ae (U.tk d.1) d.2.2.1 d.2.2.2.1 (q++[x])=false/\((false||ae (U.tk d.1) d.2.2.1 d.2.2.2.1 q,()),())=((false||ae (U.tk d.1) d.2.2.1 d.2.2.2.1 (q++[x]),()),())))/\(∀(xs:List (Int×PeD×Unit)),xs=A3 (U.tk d.1) d.2.1->yu (jj3 d) xs->(false,())=(nW (U.tk d.1) d.2.1 d.2.2.1 d.2.2.2.1,()))/\∀(q:List (Int×PeD×Unit)) (x:Int×PeD×Unit) (rest:List (Int×PeD×Unit)),q++x::rest=A3 (U.tk d.1) d.2.1->yu (jj3 d) q->ae (U.tk d.1) d.2.2.1 d.2.2.2.1 (q++[x])=true->(false||ae (U.tk d.1) d.2.2.1 d.2.2.2.1 (q++[x]),())=(nW (U.tk d.1) d.2.1 d.2.2.1 d.2.2.2.1,())
theorem rL:(Ru (NN 33 [] [] [(115,ww)] []) lF (fun _ _=>none) (hkC (NN 33 [] [] [(115,ww)] []) (fun _=>none) En [] []) Tryz.f175 (wK Tryz.f175))=lG:=by kernel_rfl
theorem Gf:Em:=by
 rintro⟨l,x,⟨⟩⟩ d;refine⟨⟨0,⟨⟨rfl,tZ⟩,tZ⟩,jt _,fun b a=>by omega⟩,fun i hi=>⟨fun h=> ?_,fun h=> ?_⟩⟩;have h:i<l.length:=(by simpa using h);simp only[jm] at*;refine⟨by omega,by omega,fun a=> ?_,fun a=>⟨iZ6,i+1,⟨⟨by simp,tZ⟩,tZ⟩,⟨by omega,fun b c=> ?_⟩,by omega⟩⟩;rw[yp (p:=fun y=>decide (y=x)) h hi.2 (by have:=ja a;rw[<-this];exact jH rfl)];by_cases e:b=i;subst e;exact zz (fun e=>je a e.symm);exact hi.2 b (by omega);have h:l.length<=i:=(by simpa using h);rw[qW (p:=fun y=>decide (y=x)) h hi.2]
theorem Eo:wN PR 154 Ek:=vZ El Gf Tryz.func154 kcN koN
theorem xw:tP:=by
 rintro⟨l,x,⟨⟩⟩;exact jP (·,()) (iV (fun y=>decide (y=x)) l)
theorem dH:wN PR 111 tO:=wt xw Tryz.func111 (kcC Eo kcN) koN
theorem rM {c:CrD} {j:JbD} (h:qV c j=0):kZ c=true/\qp c j=true:=by
 unfold qV at h
 split at h
 omega
 split at h
 omega;rename_i a b;exact⟨by simpa using a,by simpa using b⟩
theorem wI {c:CrD} (h:kZ c=true):2<=U.la c/\U.la c<=5/\(kI c).length<=8/\(yx c).length=4/\(∀p∈kI c,f8 (U.la c) p=true)/\∀l∈yx c,f9 l=true:=by
 unfold kZ at h;simp only[ji,jv,jR] at h;exact⟨h.1.1,h.1.2.1,h.1.2.2.1,h.1.2.2.2,h.2.1,h.2.2⟩
theorem nf {c:CrD} {j:JbD} (h:qp c j=true):(0<=US j/\US j<U.la c)/\(0<=NO j/\NO j<U.la c)/\US j≠NO j/\(0<=ja5 j/\ja5 j<=7)/\(0<=mw j/\mw j<=3)/\(1<=jeh j/\jeh j<=8):=by
 unfold qp at h;have h:=ja h;obtain⟨d,m,e,n,f,_,_,g,i,k,l,a,b⟩:=h;exact⟨⟨d,by omega⟩,⟨e,by omega⟩,f,⟨g,i⟩,⟨k,l⟩,a,b⟩
theorem Ws {c:CrD} {j:JbD} (h:qV c j=0):H9 c j=some (c,j,ig c j,())/\cS (c,j,ig c j,()):=by
 obtain⟨a,b⟩:=rM h;exact⟨by unfold H9;rw[jd h],a,b,rfl⟩
theorem ZH:Wq:=by
 unfold Wq Prod.q4;rintro⟨c,j,⟨⟩⟩;refine⟨fun h=> ?_,fun h=> ?_⟩;have h:qV c j≠0:=ja h;simp only;unfold H9;rw[jc h];have h:qV c j=0:=(by simpa using h);obtain⟨b,d⟩:=rM h;obtain⟨_,_,_,a,_⟩:=wI b;obtain⟨_,_,_,_,hk,_⟩:=nf d;have hk:0<=j.2.2.2.2.1/\j.2.2.2.2.1<=3:=hk;have a:c.2.2.1.length=4:=a;refine⟨hk.1,by simp only;omega,?_⟩;simp only;rw[(Ws h).1,h];rfl
theorem LK:wN PR 70 Wp:=wt ZH Tryz.func70 (kcC HK kcN) koN
theorem xy (t:TkD) (s:Int) (n:Nat):yM t s (n+1)=yM t s n++(if uV s (n:Int)=true then[((n:Int),nth (kI (U.tc t)) n,())] else[]):=by
 unfold yM;rw[L.vD,j7]
 split<;>simp
theorem Wt (t:TkD) (s:Int) {n m:Nat} (h:n<=m):∃rest,yM t s n++rest=yM t s m:=by
 induction m with
 |zero=>
  have:n=0:=(by omega);subst this;exact⟨[],by simp⟩
 |succ m b=>
  by_cases e:n=m+1;subst e;exact⟨[],by simp⟩;obtain⟨r,a⟩:=b (by omega);rw[xy,<-a];exact⟨r++_,by rw[jJ]⟩
theorem tQ:cI:=by
 unfold cI jj2 ji5 jhH ji4;rintro⟨(_|t),s,⟨⟩⟩ l i e;cases i;have e:(kI (U.tc t)).length<=60:=e;refine⟨rfl,fun _=>⟨⟨0,⟨⟨rfl,tZ⟩,tZ⟩,rfl,jt _⟩,fun x g=> ?_⟩⟩;have g:x<=(kI (U.tc t)).length:=g;have c:U.tk (some t)=t:=rfl;refine⟨fun h=> ?_,fun h=> ?_⟩;have h:x<(kI (U.tc t)).length:=by
  have:=ja h;have this:(x:Int)<(kI (U.tc t)).length:=this;omega
 have j:(x:Int)<(kI (U.tc t)).length:=(by omega);refine⟨by omega,j,by omega,by omega,fun b=> ?_,fun b=> ?_⟩;have d:yM t s (x+1)=yM t s x++[((x:Int),nth (kI (U.tc t)) x,())]:=(by rw[xy,jd b]);obtain⟨r,f⟩:=Wt t s (show x+1<=(kI (U.tc t)).length by omega);refine⟨rfl,⟨r,by rw[d] at f;exact f⟩,⟨fun a=>absurd a (by rw[Bool.not_true,kh];simp),fun _=>⟨iZ6,x+1,⟨⟨by omega,tZ⟩,tZ⟩,?_,(show x+1<=(kI (U.tc t)).length by omega),(show(kI (U.tc t)).length-(x+1)<(kI (U.tc t)).length-x by omega)⟩⟩,
  fun _ a=>(by cases a),fun a=> ?_⟩
 rw[c,d];rfl;rw[Bool.not_false,Bool.and_true] at a;exact absurd b (by simp only at a⊢;rw[a];simp);have d:yM t s (x+1)=yM t s x:=by
  rw[xy,jc (by simp only at b⊢;rw[b];simp),jY]
 refine⟨fun a=> ?_,fun _=>⟨iZ6,x+1,⟨⟨by omega,tZ⟩,tZ⟩,?_,(show x+1<=(kI (U.tc t)).length by omega),(show(kI (U.tc t)).length-(x+1)<(kI (U.tc t)).length-x by omega)⟩⟩;rw[Bool.not_false,Bool.and_true] at a;exact absurd a (by simp only at b⊢;rw[b];simp);rw[c,d];have h:(kI (U.tc t)).length<=x:=by
  have:=je h;have this:¬(x:Int)<(kI (U.tc t)).length:=this;omega
 intro _;rw[show x=(kI (U.tc t)).length by omega];rfl
theorem O3 {H:Imm} {lb:Array Value} {d:PD [.ref (.ptr tTk),.ref (.uint .u64)]} (g:pvs PR H [.ref (.ptr tTk),.ref (.uint .u64)] lb.toList d) (a:d.1.isSome=true) (b:(kI (U.tc (U.tk d.1))).length<=60):Zu PR H [.int,tPe] (LM d) (.func (.func 172) #[] lb):=
 jbw (C:=ctx 28 [(173,m0)] []) (pB ⟨fun _=>LC,tZ⟩ trivial) mixed Tryz.func172 (by kernel_rfl) (by kernel_rfl) (by kernel_rfl) (by kernel_rfl) (by decide) (l8.mpr tQ) (fun d l B0 R h c e f=>jeH c f) g ⟨a,b,tZ⟩
theorem Bk:fC:=by intro d;rfl
theorem fD:Lj PR 115 ww:=jeJ (oP.mpr Bk) Tryz.func115 (by kernel_rfl) (by kernel_rfl) (by kernel_rfl) (by kernel_rfl) trivial trivial
theorem jc0:∀(f:Nat) (p:Nat×rm),wc ([]:List (Nat×Nat×rm)) f=some p->ROK PR f p.2:=fun _ _ h=>by cases h
theorem LL {sv:SV} {pr:Prop} {L:List (Ty.st [.int,tPe]).Data->Prop} {v:Value} {ρ:Env} (a:Ry sv=some (pr,L)) (b:pr) (g:SV.den PR ρ sv v):Zu PR ρ.H [.int,tPe] L v:=by
 unfold Ry at a
 split at a
 case h_2=>cases a
 rename_i m t n s
 split at a
 case h_2=>cases a
 rename_i q p l f;simp only[jy,Prod.mk.injEq] at a;obtain⟨rfl,rfl⟩:=a;obtain⟨e,rfl⟩:=kP l;subst e;obtain⟨e2,rfl⟩:=kP f;subst e2;simp only[SV.den,SV.denL] at g;obtain⟨lb,rfl,x,r,k,h,y,o,c,i,j⟩:=g;exact O3 (d:=(t,s,())) (by rw[k,c,j];exact⟨h,i,rfl⟩) b.1 b.2
theorem tR (t:TkD) (a b:Int) (q:List (Int×PeD×Unit)) (x:Int×PeD×Unit):ae t a b (q++[x])=U.jn t a b x:=by
 unfold ae;rw[List.getLast?_append];simp
theorem O4 {t:TkD} {a b:Int} {q:List (Int×PeD×Unit)} (h:yu (fun q=>ae t a b q) q):q.any (U.jn t a b)=false:=by
 rw[zu];intro x c;obtain⟨u,v,rfl⟩:=List.append_of_mem c;have:=h u x v rfl;simp only[tR] at this;rw[this];simp
theorem S6 {t:TkD} {s:Int} {x:Int×PeD×Unit} (h:x∈A3 t s):x.2.1∈kI (U.tc t):=by
 unfold A3 yM at h;obtain⟨i,hi,rfl⟩:=jG.1 h;have:=jp.1 (jD.1 hi).1;exact L.kJ this
theorem jc1 {n:Int} {p:PeD} (h:f8 n p=true):((U.lv p).length:Int)=n:=by
 unfold f8 at h;simp only[ji,jv] at h;exact h.1.1
theorem Ep:lG:=by
 unfold lG jj3 jkI;rintro⟨(_|t),s,a,b,⟨⟩⟩ r l v f w g;cases r;obtain⟨c1,c2,A⟩:=l;have c1:kZ (U.tc t)=true:=c1;obtain⟨B,C,D,E,p,F⟩:=wI c1;have k:(kI (U.tc t)).length<=60:=(by omega);have c:U.tk (some t)=t:=rfl;refine⟨⟨rfl,k⟩,tZ,rfl,fun q x rest i e=> ?_,fun xs j e=> ?_,fun q x rest i e d=> ?_⟩;have z:x∈A3 t s:=(by rw[c] at i;rw[<-i];simp);have o:=jc1 (p _ (S6 z));have o:((x.2.1.1.length:Nat):Int)=U.la (U.tc t):=o;have f:a<U.la (U.tc t):=f;have g:b<U.la (U.tc t):=g;have m:ae t a b q=false:=by
  cases n:q.getLast? with
  |none=>unfold ae;rw[n]
  |some y=>
   obtain⟨u,rfl⟩:=List.getLast?_eq_some_iff.1 n;have:=e u y [] rfl;exact this
 refine⟨v,by simp only;omega,w,by simp only;omega,rfl,fun h=> ?_,fun h=> ?_⟩;have h:U.jn t a b x=true:=h;have:ae t a b (q++[x])=true:=(by rw[tR];exact h);rw[c];simp only;exact⟨this,by rw[this];rfl⟩;have h:U.jn t a b x=false:=h;have:ae t a b (q++[x])=false:=(by rw[tR];exact h);rw[c];simp only;exact⟨this,by rw[this,m]⟩;rw[c] at j e;subst j;have:=O4 e;simp only;rw[c];unfold nW;rw[this];rw[c] at i d⊢;simp only at d⊢;rw[d];unfold nW;rw[<-i];rw[tR] at d;simp[d]
theorem LN:(NN 33 [] [] [(115,ww)] []).ok PR:=OT trivial trivial ⟨fD,tZ⟩ trivial
theorem Bl:wN PR 175 lF:=
 We (body:=wK Tryz.f175) (C:=NN 33 [] [] [(115,ww)] []) (hk:=hkC (NN 33 [] [] [(115,ww)] []) (fun _=>none) En [] []) LN mixed Tryz.func175 (by kernel_rfl) (by kernel_rfl) (by kernel_rfl) (by decide)
  (fun B=>HH LN mixed (fun k ts rs sv pr L v ρ hk c a b=>by
   unfold En at hk
   split at hk
   case h_2=>cases hk
   simp only[jy] at hk
   cases hk
   exact LL c a b) jc0 B) (rL.mpr Ep)
namespace U
def av (x:Int) (N n:Nat):List Int:=List.replicate n x++List.replicate (N-n) 0
def NP (t:TkD) (c:Int) (a b:Nat):Bool:=nW t c (a:Int) (b:Int)
def lz (t:TkD) (a:Int):List Int:=jfv (NP t a) (la (tc t)).toNat (NO (tj t)).toNat
def wM (t:TkD) (a:Int) (k:Nat):List Int×List Int:=ax (NP t a) (la (tc t)).toNat (NO (tj t)).toNat k
def gz (t:TkD) (a:Int) (x:List Int×List Int) (i:Nat):List Int×List Int:=uU (NP t a) (nth x.2 0).toNat x i
def jej (t:TkD) (a:Int) (x:List Int×List Int) (lo:Nat):Prop:=jee (NP t a) (la (tc t)).toNat (NO (tj t)).toNat x/\x.2≠[]/\x.2.length<=10/\lo<=10
end U
def glo (σ:St) (s:Nat):Nat:=match σ.get s with
 | .osl _ _ lo _=>lo
 |_=>0
def I6:wD:=⟨[.val (.uint .u64),.val (.uint .u64)],[.uint .u64,.uint .u64],false,fun d=>[0<=d.1,d.1<=1000,0<=d.2.1,d.2.1<=1000],fun d=>((0:Int),d.1*d.2.1,())⟩
abbrev jie (d:Int×Int×Unit):=(d.1/(2:Int)^Int.toNat 32*y4 d.2.1 (4294967295:Int)+y4 d.1 (4294967295:Int)*y4 d.2.1 (4294967295:Int)/(2:Int)^Int.toNat 32)
abbrev jhI (d:Int×Int×Unit):=(d.2.1/(2:Int)^Int.toNat 32)
abbrev jj4 (d:Int×Int×Unit):=(y4 (jie d) (4294967295:Int)+y4 d.1 (4294967295:Int)*(jhI d))
def I7:Prop:=∀(d:Int×Int×Unit),0<=d.1->d.1<=1000->0<=d.2.1->d.2.1<=1000->(0:Int)<=32/\(32:Int)<=64/\(0:Int)<=32/\(32:Int)<=64/\0<=y4 d.1 (4294967295:Int)*y4 d.2.1 (4294967295:Int)/\y4 d.1 (4294967295:Int)*y4 d.2.1 (4294967295:Int)<=18446744073709551615/\0<=d.1/(2:Int)^Int.toNat 32*y4 d.2.1 (4294967295:Int)/\d.1/(2:Int)^Int.toNat 32*y4 d.2.1 (4294967295:Int)<=18446744073709551615/\(0:Int)<=32/\(32:Int)<=64/\0<=d.1/(2:Int)^Int.toNat 32*y4 d.2.1 (4294967295:Int)+y4 d.1 (4294967295:Int)*y4 d.2.1 (4294967295:Int)/(2:Int)^Int.toNat 32/\d.1/(2:Int)^Int.toNat 32*y4 d.2.1 (4294967295:Int)+y4 d.1 (4294967295:Int)*y4 d.2.1 (4294967295:Int)/(2:Int)^Int.toNat 32<=18446744073709551615/\(0:Int)<=32/\(32:Int)<=64/\0<=y4 d.1 (4294967295:Int)*(jhI d)/\y4 d.1 (4294967295:Int)*(jhI d)<=18446744073709551615/\0<=y4 (jie d) (4294967295:Int)+y4 d.1 (4294967295:Int)*(jhI d)/\y4 (jie d) (4294967295:Int)+y4 d.1 (4294967295:Int)*(jhI d)<=18446744073709551615/\0<=d.1/(2:Int)^Int.toNat 32*(jhI d)/\d.1/(2:Int)^Int.toNat 32*(jhI d)<=18446744073709551615/\0<=d.1/(2:Int)^Int.toNat 32*(jhI d)+(jie d)/(2:Int)^Int.toNat 32/\d.1/(2:Int)^Int.toNat 32*(jhI d)+(jie d)/(2:Int)^Int.toNat 32<=18446744073709551615/\(0:Int)<=32/\(32:Int)<=64/\0<=d.1/(2:Int)^Int.toNat 32*(jhI d)+(jie d)/(2:Int)^Int.toNat 32+(jj4 d)/(2:Int)^Int.toNat 32/\d.1/(2:Int)^Int.toNat 32*(jhI d)+(jie d)/(2:Int)^Int.toNat 32+(jj4 d)/(2:Int)^Int.toNat 32<=18446744073709551615/\0<=d.1*d.2.1/\d.1*d.2.1<=18446744073709551615/\(d.1/(2:Int)^Int.toNat 32*(jhI d)+(jie d)/(2:Int)^Int.toNat 32+(jj4 d)/(2:Int)^Int.toNat 32,d.1*d.2.1,())=((0:Int),d.1*d.2.1,())
def O5:wD:=⟨[.val (.uint .u64),.val (.uint .u64)],[.uint .u64,.uint .u64],false,fun d=>[0<=d.1,d.1<=1000,0<=d.2.1,d.2.1<=1000],fun d=>((0:Int),d.1*d.2.1,())⟩
def O6:Prop:=∀(d:Int×Int×Unit),0<=d.1->d.1<=1000->0<=d.2.1->d.2.1<=1000->(false=true->False)/\(qF->0<=d.1/\d.1<=1000/\0<=d.2.1/\d.2.1<=1000/\((0:Int),d.1*d.2.1,())=((0:Int),d.1*d.2.1,()))
def Bm:qC:=⟨[.val (.slice .int),.val .int],[.cl (.row 3 .int .no)],fun d=>[d.1.length=1,0<=d.2.1,d.2.1<=1000],fun d=>((List.replicate d.2.1.toNat (nth d.1 0),()),())⟩
def Bn:Ann:=fun r=>match r with
 |8=>some fun σ=>{X:=Nat,sl:=fun n=>[(8,.dat .int (n:Int))],ob:=fun n=>[(7,some (.row 3 .int false .no (av (nth (gd (.slice .int) σ 0) 0) (gd .int σ 1).toNat n)))],inv:=fun n=>n<=(gd .int σ 1).toNat/\(1<=n\/(gd .int σ 1).toNat=0),mu:=fun n=>(gd .int σ 1).toNat-n}
 |_=>none
abbrev jhN (d:List Int×Int×Unit):=(d.1.length:Int)
abbrev ji6 (d:List Int×Int×Unit):=(List.replicate ((jhN d)*d.2.1).toNat (0:Int))
abbrev ji7 (d:List Int×Int×Unit)(x:Nat):=(av (nth d.1 0) d.2.1.toNat x)
abbrev jiv (d:List Int×Int×Unit)(x:Nat):=(↑(ji7 d x).length:Int)
abbrev jj5 (x:Nat)(d:List Int×Int×Unit):=(List.take ((x:Int).toNat-Int.toNat 0) (List.drop (Int.toNat 0) (ji7 d x)))
abbrev jjD (d:List Int×Int×Unit)(x:Nat):=((jiv d x).toNat-(x:Int).toNat)
abbrev jkJ (d:List Int×Int×Unit):=(decide ((0:Int)<0)||decide (9223372036854775807<(jhN d)*d.2.1))
def Bo:Prop:=∀(d:List Int×Int×Unit),d.1.length=1->0<=d.2.1->d.2.1<=1000->(decide (d.2.1<0)=true->False)/\(decide (d.2.1<0)=false->d.1.length<4611686018427387904->0<=(jhN d)/\(jhN d)<=18446744073709551615/\0<=d.2.1/\d.2.1<=18446744073709551615/\0<=(jhN d)/\(jhN d)<=1000/\0<=d.2.1/\d.2.1<=1000/\((jkJ d)=true->False)/\((jkJ d)=false->kU ((jhN d)*d.2.1)/\0<=(jhN d)*d.2.1/\(jhN d)*d.2.1=(jhN d)*d.2.1/\((jhN d)*d.2.1).toNat*8<=140737488355328/\0+(ji6 d).length<=(ji6 d).length/\(∃(x:Nat),(((↑(List.take (ji6 d).length d.1).length:Int)=(x:Int)/\True)/\UO (ji6 d) 0 (ji6 d).length d.1=av (nth d.1 0) d.2.1.toNat x/\True)/\x<=d.2.1.toNat/\(1<=x\/d.2.1.toNat=0))/\∀(x:Nat),x<=d.2.1.toNat/\(1<=x\/d.2.1.toNat=0)->(ji7 d x).length<4611686018427387904->(decide ((x:Int)<(jiv d x))=true->0<=(x:Int)/\(x:Int)<=(jiv d x)/\(jiv d x)<=(jiv d x)/\(0:Int)<=0/\0<=(x:Int)/\(x:Int)<=(jiv d x)/\(x:Int).toNat+(jjD d x)<=(ji7 d x).length/\kU ((x:Int)+(List.take (jjD d x) (jj5 x d)).length)/\∃(a:Nat),(((x:Int)+(List.take (jjD d x) (jj5 x d)).length=(a:Int)/\True)/\UO (ji7 d x) (x:Int).toNat (jjD d x) (jj5 x d)=av (nth d.1 0) d.2.1.toNat a/\True)/\(a<=d.2.1.toNat/\(1<=a\/d.2.1.toNat=0))/\d.2.1.toNat-a<d.2.1.toNat-x)/\(decide ((x:Int)<(jiv d x))=false->(av (nth d.1 0) d.2.1.toNat x,())=(List.replicate d.2.1.toNat (nth d.1 0),())/\()=())))
def yX:wD:=⟨[.val (.ptr tTk),.val (.uint .u64)],[.slice .int],false,fun d=>[d.1.isSome=true,cS (U.tk d.1)],fun d=>(lz (U.tk d.1) d.2.1,())⟩
def I8:Ann:=fun r=>match r with
 |4=>some fun σ=>{X:=Nat×List Int,sl:=fun x=>[(6,.osl 6 .int x.2.length (wM (U.tk (gd (.ptr tTk) σ 0)) (gd (.uint .u64) σ 1) x.1).2.length)],ob:=fun x=>[(5,some (.row 3 .int false .no (wM (U.tk (gd (.ptr tTk) σ 0)) (gd (.uint .u64) σ 1) x.1).1)),(6,some (.row 3 .int false .no (x.2++(wM (U.tk (gd (.ptr tTk) σ 0)) (gd (.uint .u64) σ 1) x.1).2)))],inv:=fun x=>x.2.length<=x.1/\x.1<=(U.la (U.tc (U.tk (gd (.ptr tTk) σ 0)))).toNat,mu:=fun x=>(U.la (U.tc (U.tk (gd (.ptr tTk) σ 0)))).toNat+1-x.1}
 |7=>some fun σ=>{X:=Nat×List Int,sl:=fun x=>[(28,.any),(35,.dat .int (x.1:Int)),(6,.osl 6 .int x.2.length (gz (U.tk (gd (.ptr tTk) σ 0)) (gd (.uint .u64) σ 1) (gr .int σ 5,(gr .int σ 6).drop (glo σ 6)) x.1).2.length)],ob:=fun x=>[(5,some (.row 3 .int false .no (gz (U.tk (gd (.ptr tTk) σ 0)) (gd (.uint .u64) σ 1) (gr .int σ 5,(gr .int σ 6).drop (glo σ 6)) x.1).1)),(6,some (.row 3 .int false .no (x.2++(gz (U.tk (gd (.ptr tTk) σ 0)) (gd (.uint .u64) σ 1) (gr .int σ 5,(gr .int σ 6).drop (glo σ 6)) x.1).2)))],inv:=fun x=>x.1<=(gr .int σ 5).length/\x.2.length<=glo σ 6/\jej (U.tk (gd (.ptr tTk) σ 0)) (gd (.uint .u64) σ 1) (gr .int σ 5,(gr .int σ 6).drop (glo σ 6)) (glo σ 6),mu:=fun x=>(gr .int σ 5).length-x.1}
 |2000011=>some fun _=>{X:=Unit,sl:=fun _=>[],ob:=fun _=>[],inv:=fun _=>True,mu:=fun _=>0}
 |_=>none
abbrev jh8 (d:Option (CrD×JbD×LwD×Unit)×Int×Unit):=(wg (((0:Int),[],[],()),((0:Int),(0:Int),(0:Int),(0:Int),(0:Int),(0:Int),()),((0:Int),(0:Int),false,()),()) d.1)
abbrev jhm (d:Option (CrD×JbD×LwD×Unit)×Int×Unit)(x:Nat×List Int):=(wM (U.tk d.1) d.2.1 x.1)
abbrev jiK (d:Option (CrD×JbD×LwD×Unit)×Int×Unit)(x:Nat×List Int):=((jhm d x).1,List.drop x.2.length (x.2++(jhm d x).2))
abbrev jha (d:Option (CrD×JbD×LwD×Unit)×Int×Unit)(x:Nat×List Int)(a:Nat×List Int):=(gz (U.tk d.1) d.2.1 (jiK d x) a.1)
abbrev jhT (d:Option (CrD×JbD×LwD×Unit)×Int×Unit)(x:Nat×List Int)(a:Nat×List Int):=(nth (jha d x a).1 (a.1:Int).toNat<0)
abbrev jif (a:Nat×List Int):=(a.2.length+Int.toNat 0)
abbrev jiL (d:Option (CrD×JbD×LwD×Unit)×Int×Unit)(x:Nat×List Int)(a:Nat×List Int):=(gz (U.tk d.1) d.2.1 (jiK d x) a.1)
def I9:Prop:=∀(d:Option (CrD×JbD×LwD×Unit)×Int×Unit),d.1.isSome=true->cS (U.tk d.1)->d.1.isSome=true/\[(-1:Int)].length=1/\(0:Int)<=(jh8 d).1.1/\(jh8 d).1.1<=1000/\d.1.isSome=true/\(0:Int)<=(jh8 d).2.1.2.1/\(jh8 d).2.1.2.1<(↑(List.replicate (jh8 d).1.1.toNat (nth [(-1:Int)] 0)).length:Int)/\d.1.isSome=true/\(∃(x:Nat×List Int),(((x.2.length=0/\(jhm d x).2.length=[(jh8 d).2.1.2.1].length)/\True)/\(List.replicate (jh8 d).1.1.toNat (nth [(-1:Int)] 0)).set (jh8 d).2.1.2.1.toNat 0=(jhm d x).1/\[(jh8 d).2.1.2.1]=x.2++(jhm d x).2/\True)/\x.2.length<=x.1/\x.1<=(U.la (U.tc (U.tk d.1))).toNat)/\∀(x:Nat×List Int),x.2.length<=x.1/\x.1<=(U.la (U.tc (U.tk d.1))).toNat->(jhm d x).2.length<4611686018427387904->(decide ((0:Int)<(jhm d x).2.length)=true->(jhm d x).1.length<4611686018427387904->(∃(a:Nat×List Int),((0=(a.1:Int)/\(x.2.length=a.2.length/\(jhm d x).2.length=(jha d x a).2.length)/\True)/\(jhm d x).1=(jha d x a).1/\x.2++(jhm d x).2=a.2++(jha d x a).2/\True)/\a.1<=(jhm d x).1.length/\a.2.length<=x.2.length/\jej (U.tk d.1) d.2.1 (jiK d x) x.2.length)/\∀(a:Nat×List Int),a.1<=(jhm d x).1.length/\a.2.length<=x.2.length/\jej (U.tk d.1) d.2.1 (jiK d x) x.2.length->(decide ((a.1:Int)<(jhm d x).1.length)=true->0<=(a.1:Int)/\(a.1:Int)<(jha d x a).1.length/\(decide (jhT d x a)=true->(0:Int)<=0)/\(decide (jhT d x a)=true->(0:Int)<(jha d x a).2.length)/\(decide (jhT d x a)=true->d.1.isSome=true)/\(decide (jhT d x a)=true->cS (U.tk d.1))/\(decide (jhT d x a)=true->0<=nth (a.2++(jha d x a).2) (jif a))/\(decide (jhT d x a)=true->nth (a.2++(jha d x a).2) (jif a)<U.la (U.tc (U.tk d.1)))/\(decide (jhT d x a)=true->0<=(a.1:Int))/\(decide (jhT d x a)=true->(a.1:Int)<U.la (U.tc (U.tk d.1)))/\((decide (jhT d x a)&&nW (U.tk d.1) d.2.1 (nth (a.2++(jha d x a).2) (jif a)) (a.1:Int))=true->(0:Int)<=0/\(0:Int)<(jha d x a).2.length/\0<=nth (a.2++(jha d x a).2) (jif a)/\nth (a.2++(jha d x a).2) (jif a)<(↑(jha d x a).1.length:Int)/\kU (nth (jha d x a).1 (nth (a.2++(jha d x a).2) (jif a)).toNat+1)/\0<=(a.1:Int)/\(a.1:Int)<(jha d x a).1.length/\a.2.length+(jha d x a).2.length=(a.2++(jha d x a).2).length/\0<(jha d x a).2.length/\a.2.length+(jha d x a).2.length+[(a.1:Int)].length<4611686018427387904/\((jha d x a).2.length+[(a.1:Int)].length)*8<=140737488355328/\∀(pre:List Int),pre.length<=a.2.length->kU ((a.1:Int)+1)/\∃(b:Nat×List Int),(((a.1:Int)+1=(b.1:Int)/\(pre.length=b.2.length/\(jha d x a).2.length+[(a.1:Int)].length=(jiL d x b).2.length)/\True)/\pre++List.drop a.2.length (a.2++(jha d x a).2)++[(a.1:Int)]=b.2++(jiL d x b).2/\(jha d x a).1.set (a.1:Int).toNat (nth (jha d x a).1 (nth (a.2++(jha d x a).2) (jif a)).toNat+1)=(jiL d x b).1/\True)/\(b.1<=(jhm d x).1.length/\b.2.length<=x.2.length/\jej (U.tk d.1) d.2.1 (jiK d x) x.2.length)/\(jhm d x).1.length-b.1<(jhm d x).1.length-a.1)/\((decide (jhT d x a)&&nW (U.tk d.1) d.2.1 (nth (a.2++(jha d x a).2) (jif a)) (a.1:Int))=false->kU ((a.1:Int)+1)/\∃(b:Nat×List Int),(((a.2.length=b.2.length/\(jha d x a).2.length=(jiL d x b).2.length)/\(a.1:Int)+1=(b.1:Int)/\True)/\a.2++(jha d x a).2=b.2++(jiL d x b).2/\(jha d x a).1=(jiL d x b).1/\True)/\(b.1<=(jhm d x).1.length/\b.2.length<=x.2.length/\jej (U.tk d.1) d.2.1 (jiK d x) x.2.length)/\(jhm d x).1.length-b.1<(jhm d x).1.length-a.1))/\(decide ((a.1:Int)<(jhm d x).1.length)=false->(0:Int)<=1/\(1:Int)<=(jha d x a).2.length/\(↑(jha d x a).2.length:Int)<=(jha d x a).2.length/\∃(b:Nat×List Int),(((a.2.length+Int.toNat 1=b.2.length/\(↑(jha d x a).2.length:Int).toNat-Int.toNat 1=(wM (U.tk d.1) d.2.1 b.1).2.length)/\True)/\(jha d x a).1=(wM (U.tk d.1) d.2.1 b.1).1/\a.2++(jha d x a).2=b.2++(wM (U.tk d.1) d.2.1 b.1).2/\True)/\(b.2.length<=b.1/\b.1<=(U.la (U.tc (U.tk d.1))).toNat)/\(U.la (U.tc (U.tk d.1))).toNat+1-b.1<(U.la (U.tc (U.tk d.1))).toNat+1-x.1))/\(decide ((0:Int)<(jhm d x).2.length)=false->((jhm d x).1,())=(lz (U.tk d.1) d.2.1,()))
theorem Ja {x:Int} (a:0<=x) (b:x<=4294967295):y4 x 4294967295=x:=by
 obtain⟨n,rfl⟩:∃n:Nat,x=(n:Int):=⟨x.toNat,by omega⟩;rw[show(4294967295:Int)=((4294967295:Nat):Int) from rfl,BT.uand_nat (by omega) (by omega),show(4294967295:Nat)=2^32-1 from rfl,Nat.and_two_pow_sub_one_eq_mod,Nat.mod_eq_of_lt (by omega)]
theorem LO:I7:=by
 unfold I7 jj4 jhI jie;rintro⟨x,y,⟨⟩⟩ b c a d;simp only at b c a d;have f:=Ja b (by omega);have g:=Ja a (by omega);have e:=Ja (x:=0) (by omega) (by omega);have h:x/2^Int.toNat 32=0:=Int.ediv_eq_zero_of_lt b (by show x<2^32;omega);have i:y/2^Int.toNat 32=0:=Int.ediv_eq_zero_of_lt a (by show y<2^32;omega);have k:0<=x*y:=ku b a;have l:x*y<=1000*1000:=Int.mul_le_mul c d a (by omega);have c1:x*y/2^Int.toNat 32=0:=Int.ediv_eq_zero_of_lt k (by show x*y<2^32;omega);have j:(0:Int)/2^Int.toNat 32=0:=Int.zero_ediv _;simp only[f,g,h,i,Int.zero_mul,Int.mul_zero,Int.add_zero,c1,e,j]
 and_intros<;>first|omega|rfl|trivial
theorem Jb:wN PR 210 I6:=wt LO Tryz.func210 kcN koN
theorem S7:O6:=by
 rintro⟨x,y,⟨⟩⟩ a b c d;exact⟨fun h=>(by cases h),fun _=>⟨a,b,c,d,rfl⟩⟩
theorem O7:wN PR 201 O5:=wt S7 Tryz.func201 (kcC Jb kcN) koN
theorem Jc {x:Int} {N n:Nat} (h:n<=N):(av x N n).length=N:=by
 unfold av;simp;omega
theorem LP {x:Int} {N n:Nat} (_:n<=N):(av x N n).take n=List.replicate n x:=by
 unfold av;rw[List.take_append_of_le_length (by simp),zp (by simp)]
theorem Wu {x:Int} {N n:Nat} (h:n<=N):UO (av x N n) n (N-n) (List.replicate n x)=av x N (n+min (N-n) n):=by
 unfold UO;rw[LP h,List.take_replicate,jW];unfold av;rw[List.drop_append,jW,List.drop_of_length_le (by simp),j6,List.drop_replicate,<-List.replicate_append_replicate];congr 2;omega
theorem Er:Bo:=by
 unfold Bo jkJ jjD jj5 jiv ji7 ji6 jhN;rintro⟨l,n,⟨⟩⟩ b g e;simp only at b g e;obtain⟨N,rfl⟩:∃N:Nat,n=(N:Int):=⟨n.toNat,by omega⟩;obtain⟨y,rfl⟩:∃y,l=[y]:=by
  cases l with
  |nil=>simp at b
  |cons y r=>cases r with
   |nil=>exact⟨y,rfl⟩
   |cons z r=>simp at b
 have c:(([y].length:Nat):Int)*(N:Int)=(N:Int):=(by simp);have f:nth [y] 0=y:=rfl
 dsimp only
 refine⟨fun h=> ?_,fun _ _=>⟨by simp,by simp,by omega,by omega,by simp,by simp,by omega,e,fun h=> ?_,fun _=> ?_⟩⟩;have:=ja h;omega;rw[c] at h;have h:(9223372036854775807:Int)<(N:Int):=(by simpa using h);omega;rw[c,f];simp only[jm,jW];refine⟨iZ6,by omega,tZ,by omega,by omega,⟨min 1 N,⟨⟨?_,tZ⟩,?_,tZ⟩,by omega,by omega⟩,fun x a i=>⟨fun h=> ?_,fun h=> ?_⟩⟩;rw[j0];simp only[ze,zx];omega;rcases zX N with d|d;subst d;rfl;obtain⟨M,rfl⟩:∃M,N=M+1:=⟨N-1,by omega⟩;have:min 1 (M+1)=1:=(by omega);rw[this];simp[UO,av,List.replicate_succ];have h:=ja h;rw[Jc a.1] at h;simp only[Jc a.1,Int.toNat_zero,List.drop_zero,Nat.sub_zero,LP a.1,List.take_replicate,jW];refine⟨by omega,by omega,by omega,by omega,by omega,by omega,by omega,iZ6,x+min (N-x) x,⟨⟨by omega,tZ⟩,Wu a.1,tZ⟩,⟨by omega,by omega⟩,by omega⟩;have h:=je h;rw[Jc a.1] at h;have h:x=N:=(by have:=a.1;omega);subst h;refine⟨?_,tZ⟩;unfold av;rw[Nat.sub_self];simp
theorem Bp:ga PR 174 Bm:=AV Bn Er Tryz.func174 (kcC O7 kcN) koN
theorem jc2 {a b:List Int}:nth (a++b) (a.length+Int.toNat 0)=nth b 0:=by
 unfold nth;simp only[za,Int.toNat_zero,zM];rw[jx (jj _),Nat.sub_self]
theorem LQ {t:TkD} {s:Int} (a:cS t):2<=U.la (U.tc t)/\U.la (U.tc t)<=5/\0<=NO (U.tj t)/\NO (U.tj t)<U.la (U.tc t):=by
 obtain⟨c1,c2,_⟩:=a;obtain⟨b,c,_⟩:=wI c1;obtain⟨_,⟨d,e⟩,_⟩:=nf c2;exact⟨b,c,d,e⟩
theorem LR:I9:=by
 unfold I9 jiL jif jhT jha jiK jhm jh8;rintro⟨(_|t),s,⟨⟩⟩ h0 m;cases h0;have m:cS t:=m;obtain⟨l1,l2,j1,j2⟩:=LQ (s:=s) m;have w:U.tk (some t)=t:=rfl;obtain⟨n,A⟩:∃n,n=(U.la (U.tc t)).toNat:=⟨_,rfl⟩;obtain⟨v,hv⟩:∃v,v=(NO (U.tj t)).toNat:=⟨_,rfl⟩;have Z:v<n:=(by omega);have X:∀k,jee (NP t s) n v (wM t s k)/\((wM t s k).2=[]\/Lp (wM t s k).1+(wM t s k).2.length+k=n):=by
  intro k;rw[A,hv] at*;exact Eh Z k
 refine⟨rfl,rfl,(by omega:0<=U.la (U.tc t)),(by omega:U.la (U.tc t)<=1000),rfl,j1,?_,rfl,⟨(0,[]),⟨⟨⟨rfl,rfl⟩,tZ⟩,rfl,?_,tZ⟩,jj _,jt _⟩,fun x hx S=>⟨fun j T=> ?_,fun h=> ?_⟩⟩;show NO (U.tj t)<(((List.replicate (U.la (U.tc t)).toNat (nth [(-1:Int)] 0)).length:Nat):Int);rw[jW];omega;show[NO (U.tj t)]=[]++[(((NO (U.tj t)).toNat:Nat):Int)];rw[j6,Int.toNat_of_nonneg j1];obtain⟨k,pre⟩:=x;obtain⟨W,H⟩:=hx;simp only[w,List.drop_left] at W H j T S⊢;rw[<-A] at H⊢;obtain⟨B,o⟩:=X k;have j:0<(wM t s k).2.length:=(by have:=ja j;omega);have d:(wM t s k).2≠[]:=fun e=>by rw[e] at j;simp at j
 have F:=B.i.len;rcases o with o|o;exact absurd o d;have p:wM t s (k+1)=ac (NP t s) n (wM t s k):=(by rw[A];rfl);generalize V:wM t s k=x0 at*;obtain⟨g,r0,a⟩:∃q r,x0.2=q::r:=by
  cases I:x0.2 with
  |nil=>exact absurd I d
  |cons q r=>exact⟨q,r,rfl⟩
 obtain⟨L,g2,g3⟩:=B.i.que g (by rw[a];simp);have y:nth x0.2 0=g:=(by rw[a];rfl);have hla:((n:Nat):Int)=U.la (U.tc t):=(by omega);have f:jej t s (x0.1,x0.2) pre.length:=by
  unfold jej;rw[<-A,<-hv];exact⟨B,d,by simp only;omega,by omega⟩
 refine⟨⟨(0,pre),⟨⟨rfl,⟨rfl,rfl⟩,tZ⟩,rfl,rfl,tZ⟩,jt _,jj _,f⟩,?_⟩;rintro⟨i,p5⟩ ⟨hi,Q,_⟩;simp only at hi Q;have C:InI (NP t s) n v g.toNat i x0 (gz t s (x0.1,x0.2) i):=by
  have:=Wm (J:=NP t s) Z (q:=g.toNat) (by omega) g3 B.i B.le i (by omega);unfold gz;simp only[y];exact this
 have c:gz t s (x0.1,x0.2) (i+1)=uT (NP t s) g.toNat (gz t s (x0.1,x0.2) i) i:=by
  unfold gz;simp only[y];exact HJ _ _ _ _
 have D:i=n->wM t s (k+1)=((gz t s (x0.1,x0.2) i).1,(gz t s (x0.1,x0.2) i).2.drop 1):=by
  intro e;subst e;rw[p];have:ac (NP t s) i x0=((uU (NP t s) g.toNat x0 i).1,(uU (NP t s) g.toNat x0 i).2.drop 1):=by
   clear p c C f F d B X V;obtain⟨st,qu⟩:=x0;simp only at a;subst a;rfl
  rw[this];unfold gz;simp only[y]
 generalize hFI:gz t s (x0.1,x0.2) i=u at*;obtain⟨l,P⟩:=C.pre;have hQ:nth u.2 0=g:=(by rw[P,a];rfl);have G:0<u.2.length:=(by rw[P,a];simp);have hmu:=C.mu;have hFl:=C.i.len;have E:∀i:Nat,NP t s g.toNat i=nW t s g (i:Int):=by
  intro i;unfold NP;rw[Int.toNat_of_nonneg L]
 simp only[jc2,hQ];simp only[jm];refine⟨fun h=> ?_,fun h=> ?_⟩;have h:i<n:=(by have:=ja h;omega);refine⟨by omega,by omega,fun _=>by omega,fun _=>by omega,fun _=>rfl,fun _=>m,fun _=>L,fun _=>by omega,fun _=>by omega,fun _=>by omega,fun z=> ?_,fun z=> ?_⟩;rw[ji] at z;have h3:=ja z.1;have Y:=C.i.low g.toNat (by omega);have b:gz t s (x0.1,x0.2) (i+1)=(u.1.set i (nth u.1 g.toNat+1),u.2++[(i:Int)]):=by
  rw[c];unfold uT;rw[jd ⟨h3,by rw[E];exact z.2⟩]
 refine⟨by omega,by omega,L,by omega,iZ6,by omega,by omega,by simp,G,by simp only[ze,zx];omega,by simp only[ze,zx];omega,fun K R=>⟨iZ6,(i+1,K),⟨⟨by simp,⟨rfl,?_⟩,tZ⟩,?_,?_,tZ⟩,⟨by simp only;omega,by simp only;omega,f⟩,by simp only;omega⟩⟩;rw[b];simp;rw[b,jJ];rw[b];have b:gz t s (x0.1,x0.2) (i+1)=u:=by
  rw[c];unfold uT;rw[jc (fun N=>by
   rw[E] at N;rw[N.2,jH N.1] at z;cases z)]
 refine⟨iZ6,(i+1,p5),⟨⟨⟨rfl,?_⟩,by simp,tZ⟩,?_,?_,tZ⟩,⟨by simp only;omega,by simp only;omega,f⟩,by simp only;omega⟩;rw[b];rw[b];rw[b];have h:i=n:=(by have:=je h;omega);have O:=D h;have M:u.2=g::(r0++l):=(by rw[P,a];rfl);refine⟨by omega,by omega,by omega,(k+1,p5++[g]),⟨⟨⟨?_,?_⟩,tZ⟩,?_,?_,tZ⟩,⟨by simp only[jK,ze,zx];omega,by simp only;omega⟩,by simp only;omega⟩;simp only[jK,ze,zx];rfl;rw[O];simp only[kf];rfl;rw[O];rw[O,M];simp;simp only[w] at h⊢;have h:(wM t s x.1).2=[]:=by
  have:=je h;exact zk (by omega)
 have hk:x.1<=n:=(by have:=hx.2;rw[w,<-A] at this;exact this);have h1:ax (NP t s) (U.la (U.tc t)).toNat (NO (U.tj t)).toNat ((U.la (U.tc t)).toNat+1)=wM t s x.1:=ZG (k:=x.1) h _ (by rw[<-A];omega);show((wM t s x.1).1,())=((ax (NP t s) (U.la (U.tc t)).toNat (NO (U.tj t)).toNat ((U.la (U.tc t)).toNat+1)).1,());rw[h1]
theorem Jd:wN PR 117 yX:=vZ I8 LR Tryz.func117 (kcC Bl kcN) (koC Bp koN)
namespace U
def dq (t:TkD) (o:Int) (q:List (Int×PeD×Unit)):Int:=q.foldl (fun o x=>uor o (vU t x.2.1)) o
def ii (q:List (Int×PeD×Unit)):Bool:=q.any (fun x=>jfs x.2.1)
def GW (b:Bool) (o k:Int):Int:=if b=true then uor o k else o
def vk (t:TkD) (s:Int):Int:=GW (decide (nth (lz t s) (US (tj t)).toNat<0)) (GW (jgr (tl t)&& !ii (A3 t s)) (GW (decide (BT.size s≠max (jeh (tj t)) (jeg (tl t)))) (dq t 0 (A3 t s)) 8) 16) 32
def Kl (c:CrD) (n:Int):Bool:=kA n 0 (2^(kI c).length-1)
def bE (c:CrD) (j:JbD) (n:Int):Int:=if qV c j≠0 then qV c j else if Kl c n=true then 0 else 1
def jek (c:CrD) (j:JbD) (n:Int):Int:=if bE c j n=0 then vk (c,j,ig c j,()) n else 0
def cT (c:CrD) (j:JbD) (n:Nat):List Int:=((List.range n).filter (fun i=>decide (vU (c,j,ig c j,()) (nth (kI c) i)=0))).map (fun(i:Nat)=>(i:Int))
def cZ (c:CrD) (j:JbD):List Int:=if qV c j=0 then cT c j (kI c).length else[]
end U
def vS:wD:=⟨[.val (.ptr tTk),.val tPe],[.uint .u64],false,fun d=>[d.1.isSome=true,cS (U.tk d.1)],fun d=>(vU (U.tk d.1) d.2.1,())⟩
def Wv:Lf [.int,tPe]:={ps:=[.ref (.ptr tTk),.own (.box 134 [.dat (.uint .u64)]) true,.own (.box 4 [.dat .bool]) true],slots:=[2,4,5],dst:=65,pre:=fun d=>[d.1.isSome=true,cS (U.tk d.1)],G:=fun d q=>((dq (U.tk d.1) d.2.1.1 q,()),(d.2.2.1.1||ii q,()),()),seq:=Ry}
def Es:Nat->Option ((ts:List Ty)×Lf ts):=fun r=>match r with
 |4=>some ⟨[.int,tPe],Wv⟩
 |_=>none
def lH:wD:=⟨[.val (.ptr tTk),.val (.uint .u64)],[.uint .u64],false,fun d=>[d.1.isSome=true,cS (U.tk d.1),BT.qH d.2.1],fun d=>(vk (U.tk d.1) d.2.1,())⟩
abbrev jhs (d:Option (CrD×JbD×LwD×Unit)×Int×Unit):=(wg (((0:Int),[],[],()),((0:Int),(0:Int),(0:Int),(0:Int),(0:Int),(0:Int),()),((0:Int),(0:Int),false,()),()) d.1)
abbrev jig (d:Option (CrD×JbD×LwD×Unit)×Int×Unit):=(nth (lz (U.tk d.1) d.2.1) (jhs d).2.1.1.toNat<0)
abbrev jh9 (d:Option (CrD×JbD×LwD×Unit)×Int×Unit):=(vk (U.tk d.1) d.2.1,())
abbrev jj6:=(fun(a:List (Int×PeD×Unit))=>false)
abbrev jjE (d:Option (CrD×JbD×LwD×Unit)×Int×Unit):=(↑(lz (U.tk d.1) d.2.1).length:Int)
def lI:Prop:=∀(d:Option (CrD×JbD×LwD×Unit)×Int×Unit),d.1.isSome=true->cS (U.tk d.1)->BT.qH d.2.1->(d.1.isSome=true/\(kI (U.tc (U.tk d.1))).length<=60)/\(d.1.isSome=true/\cS (U.tk d.1)/\True)/\(d.1,(dq (U.tk d.1) (0:Int) [],()),(false||ii [],()),())=(d.1,((0:Int),()),(false,()),())/\(∀(q:List (Int×PeD×Unit)) (x:Int×PeD×Unit) (rest:List (Int×PeD×Unit)),q++x::rest=A3 (U.tk d.1) d.2.1->yu jj6 q->d.1.isSome=true/\cS (U.tk d.1)/\qF/\((uor (dq (U.tk d.1) (0:Int) q) (vU (U.tk d.1) x.2.1),()),(false||ii q||x.2.1.q4.1,()),())=((dq (U.tk d.1) (0:Int) (q++[x]),()),(false||ii (q++[x]),()),()))/\(∀(xs:List (Int×PeD×Unit)),xs=A3 (U.tk d.1) d.2.1->yu jj6 xs->BT.qH d.2.1/\d.1.isSome=true/\d.1.isSome=true/\(decide (BT.size d.2.1≠max (jhs d).2.1.q4.2.1 (jhs d).2.2.1.2.1)=true->d.1.isSome=true/\(((jhs d).2.2.1.2.2.1&& !(false||ii xs))=true->d.1.isSome=true/\cS (U.tk d.1)/\d.1.isSome=true/\(0:Int)<=(jhs d).2.1.1/\(jhs d).2.1.1<(jjE d)/\(decide (jig d)=true->(uor (uor (uor (dq (U.tk d.1) (0:Int) xs) (8:Int)) (16:Int)) (32:Int),())=(jh9 d))/\(decide (jig d)=false->(uor (uor (dq (U.tk d.1) (0:Int) xs) (8:Int)) (16:Int),())=(jh9 d)))/\(((jhs d).2.2.1.2.2.1&& !(false||ii xs))=false->d.1.isSome=true/\cS (U.tk d.1)/\d.1.isSome=true/\(0:Int)<=(jhs d).2.1.1/\(jhs d).2.1.1<(jjE d)/\(decide (jig d)=true->(uor (uor (dq (U.tk d.1) (0:Int) xs) (8:Int)) (32:Int),())=(jh9 d))/\(decide (jig d)=false->(uor (dq (U.tk d.1) (0:Int) xs) (8:Int),())=(jh9 d))))/\(decide (BT.size d.2.1≠max (jhs d).2.1.q4.2.1 (jhs d).2.2.1.2.1)=false->d.1.isSome=true/\(((jhs d).2.2.1.2.2.1&& !(false||ii xs))=true->d.1.isSome=true/\cS (U.tk d.1)/\d.1.isSome=true/\(0:Int)<=(jhs d).2.1.1/\(jhs d).2.1.1<(jjE d)/\(decide (jig d)=true->(uor (uor (dq (U.tk d.1) (0:Int) xs) (16:Int)) (32:Int),())=(jh9 d))/\(decide (jig d)=false->(uor (dq (U.tk d.1) (0:Int) xs) (16:Int),())=(jh9 d)))/\(((jhs d).2.2.1.2.2.1&& !(false||ii xs))=false->d.1.isSome=true/\cS (U.tk d.1)/\d.1.isSome=true/\(0:Int)<=(jhs d).2.1.1/\(jhs d).2.1.1<(jjE d)/\(decide (jig d)=true->(uor (dq (U.tk d.1) (0:Int) xs) (32:Int),())=(jh9 d))/\(decide (jig d)=false->(dq (U.tk d.1) (0:Int) xs,())=(jh9 d)))))/\∀(q:List (Int×PeD×Unit)) (x:Int×PeD×Unit) (rest:List (Int×PeD×Unit)),q++x::rest=A3 (U.tk d.1) d.2.1->yu jj6 q->false=true->(dq (U.tk d.1) (0:Int) (q++[x]),())=(jh9 d)
theorem rN:(Ru (NN 64 [(71,vS),(116,yW),(117,yX)] [] [(115,ww)] []) lH (fun _ _=>none) (hkC (NN 64 [(71,vS),(116,yW),(117,yX)] [] [(115,ww)] []) (fun _=>none) Es [] []) Tryz.f76 (wK Tryz.f76))=lI:=by kernel_rfl
def Ww:wD:=⟨[.val tCr,.val tJb,.val .int],[.ptr tTk,.int],false,fun _=>[],fun d=>(H9 d.1 d.2.1,bE d.1 d.2.1 d.2.2.1,())⟩
abbrev jiM (d:CrD×JbD×Int×Unit):=(qV d.1 d.2.1=0)
abbrev jkK (d:CrD×JbD×Int×Unit):=(decide (jiM d)&& !kA d.2.2.1 (0:Int) ((1:Int)*2^(d.1.2.1.length:Int).toNat-1))
def Wx:Prop:=∀(d:CrD×JbD×Int×Unit),(decide (jiM d)=true->d.1.2.1.length<4611686018427387904)->(decide (jiM d)=true->0<=(d.1.2.1.length:Int))/\(decide (jiM d)=true->(d.1.2.1.length:Int)<=64)/\(decide (jiM d)=true->kU ((1:Int)*2^(d.1.2.1.length:Int).toNat))/\(decide (jiM d)=true->kU ((1:Int)*2^(d.1.2.1.length:Int).toNat-1))/\((jkK d)=true->(H9 d.1 d.2.1,(1:Int),())=(H9 d.1 d.2.1,bE d.1 d.2.1 d.2.2.1,()))/\((jkK d)=false->(H9 d.1 d.2.1,qV d.1 d.2.1,())=(H9 d.1 d.2.1,bE d.1 d.2.1 d.2.2.1,()))
def O8:wD:=⟨[.val tCr,.val tJb,.val .int],[.int,.int],false,fun _=>[],fun d=>(jek d.1 d.2.1 d.2.2.1,bE d.1 d.2.1 d.2.2.1,())⟩
def O9:Prop:=∀(d:CrD×JbD×Int×Unit),(decide (bE d.1 d.2.1 d.2.2.1≠0)=true->((0:Int),bE d.1 d.2.1 d.2.2.1,())=(jek d.1 d.2.1 d.2.2.1,bE d.1 d.2.1 d.2.2.1,()))/\(decide (bE d.1 d.2.1 d.2.2.1≠0)=false->0<=d.2.2.1/\d.2.2.1<=18446744073709551615/\(H9 d.1 d.2.1).isSome=true/\cS (U.tk (H9 d.1 d.2.1))/\BT.qH d.2.2.1/\kU (vk (U.tk (H9 d.1 d.2.1)) d.2.2.1)/\(vk (U.tk (H9 d.1 d.2.1)) d.2.2.1,(0:Int),())=(jek d.1 d.2.1 d.2.2.1,bE d.1 d.2.1 d.2.2.1,()))
def ZI:wD:=⟨[.val tCr,.val tJb],[.slice .int,.int],false,fun _=>[],fun d=>(cZ d.1 d.2.1,qV d.1 d.2.1,())⟩
def ZJ:Ann:=fun r=>match r with
 |6=>some fun σ=>{X:=Nat,sl:=fun i=>[(23,.dat .int (i:Int)),(8,.own 8 .int)],ob:=fun i=>[(8,some (.row 3 .int false .yes (cT (gd tCr σ 0) (gd tJb σ 1) i)))],inv:=fun i=>i<=(kI (gd tCr σ 0)).length,mu:=fun i=>(kI (gd tCr σ 0)).length-i}
 |_=>none
def ZK:Prop:=∀(d:CrD×JbD×Unit),(decide (qV d.1 d.2.1≠0)=true->([],qV d.1 d.2.1,())=(cZ d.1 d.2.1,qV d.1 d.2.1,()))/\(decide (qV d.1 d.2.1≠0)=false->d.1.2.1.length<4611686018427387904->(∃(x:Nat),((0=(x:Int)/\True/\True)/\cT d.1 d.2.1 x=[]/\True)/\x<=(kI d.1).length)/\∀(x:Nat),x<=(kI d.1).length->(decide ((x:Int)<d.1.2.1.length)=true->0<=(x:Int)/\(x:Int)<d.1.2.1.length/\(H9 d.1 d.2.1).isSome=true/\cS (U.tk (H9 d.1 d.2.1))/\(decide (vU (U.tk (H9 d.1 d.2.1)) (nth d.1.2.1 (x:Int).toNat)=0)=true->((cT d.1 d.2.1 x).length+[(x:Int)].length)*8<=140737488355328/\kU ((x:Int)+1)/\∃(a:Nat),(((x:Int)+1=(a:Int)/\True/\True)/\cT d.1 d.2.1 x++[(x:Int)]=cT d.1 d.2.1 a/\True)/\a<=(kI d.1).length/\(kI d.1).length-a<(kI d.1).length-x)/\(decide (vU (U.tk (H9 d.1 d.2.1)) (nth d.1.2.1 (x:Int).toNat)=0)=false->kU ((x:Int)+1)/\∃(a:Nat),((True/\(x:Int)+1=(a:Int)/\True)/\cT d.1 d.2.1 x=cT d.1 d.2.1 a/\True)/\a<=(kI d.1).length/\(kI d.1).length-a<(kI d.1).length-x))/\(decide ((x:Int)<d.1.2.1.length)=false->(cT d.1 d.2.1 x,(0:Int),())=(cZ d.1 d.2.1,qV d.1 d.2.1,())))
theorem Wy (a b c:Bool):0<=UF a b c/\UF a b c<=7:=by
 unfold UF jei;cases a<;>cases b<;>cases c<;>simp
theorem Et (t:TkD) (p:PeD):0<=vU t p/\vU t p<=7:=Wy _ _ _
theorem LS {s:Int} (h:0<=s/\s<=1000):BT.qH s:=by unfold BT.qH;omega
theorem Wz {a b:Int} (c:0<=a/\a<64) (d:0<=b/\b<64):0<=uor a b/\uor a b<64:=by
 obtain⟨n,rfl⟩:∃n:Nat,a=(n:Int):=⟨a.toNat,by omega⟩;obtain⟨m,rfl⟩:∃m:Nat,b=(m:Int):=⟨b.toNat,by omega⟩;rw[BT.uor_nat (by omega) (by omega)];have:n|||m<2^6:=Nat.or_lt_two_pow (by omega) (by omega);omega
theorem Pa (t:TkD):∀(q:List (Int×PeD×Unit)) (o:Int),(0<=o/\o<64)->0<=dq t o q/\dq t o q<64
 |[],o,h=>h
 |x::q,o,h=>by
  have:=Et t x.2.1
  exact Pa t q _ (Wz h ⟨by omega,by omega⟩)
theorem Eu {b:Bool} {o k:Int} (h:0<=o/\o<64) (hk:0<=k/\k<64):0<=GW b o k/\GW b o k<64:=by
 unfold GW
 split
 exact Wz h hk;exact h
theorem S8 (t:TkD) (s:Int):0<=vk t s/\vk t s<64:=by
 unfold vk;exact Eu (Eu (Eu (Pa t _ _ (by omega)) (by omega)) (by omega)) (by omega)
theorem WA (t:TkD) (o:Int) (q:List (Int×PeD×Unit)) (x:Int×PeD×Unit):dq t o (q++[x])=uor (dq t o q) (vU t x.2.1):=by
 unfold dq;rw[jz];rfl
theorem ZL {t:TkD} {s:Int} (a:cS t):((lz t s).length:Int)=U.la (U.tc t):=by
 obtain⟨f,g,c,d⟩:=LQ (s:=s) a;have b:(NO (U.tj t)).toNat<(U.la (U.tc t)).toNat:=(by omega);have:=(Eh (J:=NP t s) b ((U.la (U.tc t)).toNat+1)).1.i.len;have e:(lz t s).length=(U.la (U.tc t)).toNat:=this;omega
theorem Ev:lI:=by
 unfold lI jjE jj6 jh9 jig jhs Prod.q4;rintro⟨(_|t),s,⟨⟩⟩ n a c;cases n;have a:cS t:=a;have c:BT.qH s:=c;obtain⟨c1,c2,_⟩:=id a;obtain⟨_,_,p,_⟩:=wI c1;obtain⟨⟨m,r⟩,_⟩:=nf c2;have o:=ZL (s:=s) a;have f:U.tk (some t)=t:=rfl;have b:0<=US (U.tj t)/\US (U.tj t)<(((lz t s).length:Nat):Int):=⟨m,by omega⟩;refine⟨⟨rfl,(by omega:(kI (U.tc t)).length<=60)⟩,⟨rfl,a,tZ⟩,rfl,fun q x rest u _=>⟨rfl,a,rfl,?_⟩,fun xs g _=>⟨c,rfl,rfl,?_⟩,fun q x rest _ _ h=>by cases h⟩;simp only[f,WA];unfold ii;simp only[List.any_append,List.any_cons,List.any_nil,Bool.or_false,Bool.false_or];rfl;simp only[f] at g⊢;subst g;have key:∀(j k l:Bool),decide (BT.size s≠max (jeh (U.tj t)) (jeg (U.tl t)))=j->(jgr (U.tl t)&& !ii (A3 t s))=k->decide (nth (lz t s) (US (U.tj t)).toNat<0)=l->
  GW l (GW k (GW j (dq t 0 (A3 t s)) 8) 16) 32=vk t s:=by
  intro j k l i e d;unfold vk;rw[i,e,d]
 refine⟨fun i=>⟨rfl,fun e=>⟨rfl,a,rfl,b.1,b.2,fun d=> ?_,fun d=> ?_⟩,fun e=>⟨rfl,a,rfl,b.1,b.2,fun d=> ?_,fun d=> ?_⟩⟩,fun i=>⟨rfl,fun e=>⟨rfl,a,rfl,b.1,b.2,fun d=> ?_,fun d=> ?_⟩,fun e=>⟨rfl,a,rfl,b.1,b.2,fun d=> ?_,fun d=> ?_⟩⟩⟩<;>
  (rw[Bool.false_or] at e;have:=key _ _ _ i e d;rw[<-this];rfl)
theorem rO {c:CrD} (h:kZ c=true):(0:Int)<2^(kI c).length/\(2:Int)^(kI c).length<=256:=by
 obtain⟨_,_,a,_⟩:=wI h;rw[BT.cn];have b:2^(kI c).length<=2^8:=Nat.pow_le_pow_right (by decide) a;have d:0<2^(kI c).length:=Nat.pow_pos (by decide);omega
theorem ZM:Wx:=by
 unfold Wx jkK jiM;rintro⟨c,j,n,⟨⟩⟩ _;have e:∀l:Nat,(1:Int)*2^((l:Int)).toNat=2^l:=fun l=>by rw[Int.one_mul,jm]
 simp only[e];refine⟨fun _=>by omega,fun h=> ?_,fun h=> ?_,fun h=> ?_,fun h=> ?_,fun h=> ?_⟩;have:=(wI (rM (ja h)).1).2.2.1;have this:c.2.1.length<=8:=this;omega;have:=rO (rM (ja h)).1;have this:(0:Int)<2^c.2.1.length/\(2:Int)^c.2.1.length<=256:=this;exact iZ6;have:=rO (rM (ja h)).1;have this:(0:Int)<2^c.2.1.length/\(2:Int)^c.2.1.length<=256:=this;exact iZ6;rw[ji] at h;have a:=ja h.1;have b:Kl c n=false:=by
  have d:kA n 0 (2^c.2.1.length-1)=false:=(by simpa using h.2);exact d
 unfold bE;rw[jc (by omega),jc (by rw[b];simp)];unfold bE;by_cases a:qV c j=0;rw[jH a,km] at h;have b:Kl c n=true:=by
  have d:kA n 0 (2^c.2.1.length-1)=true:=(by simpa using h);exact d
 rw[jc (by omega),jd b,a];rw[jd a]
theorem WB:wN PR 75 Ww:=wt ZM Tryz.func75 (kcC LK (kcC gB kcN)) koN
theorem S9 {c:CrD} {j:JbD} {n:Int} (h:bE c j n=0):qV c j=0/\0<=n/\n<2^(kI c).length:=by
 unfold bE at h
 split at h
 rename_i b;omega;rename_i b
 split at h
 rename_i a;unfold Kl kA at a;simp only[ji,jv] at a;exact⟨by omega,a.1,by omega⟩;omega
theorem Ta:O9:=by
 rintro⟨c,j,n,⟨⟩⟩;refine⟨fun h=> ?_,fun h=> ?_⟩;have h:bE c j n≠0:=ja h;simp only;unfold jek;rw[jc h];have h:bE c j n=0:=(by simpa using h);obtain⟨d,e,f⟩:=S9 h;obtain⟨b,e2⟩:=Ws d;have i:=rO (rM d).1;have a:U.tk (H9 c j)=(c,j,ig c j,()):=(by rw[b];rfl);have g:=S8 (c,j,ig c j,()) n;simp only[a];refine⟨e,by omega,by rw[b];rfl,e2,LS ⟨e,by omega⟩,iZ6,?_⟩;unfold jek;rw[jd h,h]
theorem HL (c:CrD) (j:JbD) (n:Nat):cT c j (n+1)=cT c j n++(if vU (c,j,ig c j,()) (nth (kI c) n)=0 then[(n:Int)] else[]):=by
 unfold cT;rw[L.vD,j7];by_cases h:vU (c,j,ig c j,()) (nth (kI c) n)=0;rw[jd (jH h),jd h];rfl;rw[jc (by simpa using h),jc h];rfl
theorem WC (c:CrD) (j:JbD) (n:Nat):(cT c j n).length<=n:=by
 unfold cT;rw[zc];exact jF (zH _ _) (by simp)
theorem jc3:ZK:=by
 rintro⟨c,j,⟨⟩⟩;refine⟨fun h=> ?_,fun h _=>⟨⟨0,⟨⟨rfl,tZ,tZ⟩,rfl,tZ⟩,jt _⟩,fun x f=>⟨fun a=> ?_,fun a=> ?_⟩⟩⟩;have h:qV c j≠0:=ja h;simp only;unfold cZ;rw[jc h];have h:qV c j=0:=(by simpa using h);obtain⟨e,e2⟩:=Ws h;have d:U.tk (H9 c j)=(c,j,ig c j,()):=(by rw[e];rfl);have a:x<(kI c).length:=by
  have a:=ja a;have a:(x:Int)<(kI c).length:=a;omega
 have g:(x:Int)<(kI c).length:=(by omega);have i:=(wI (rM h).1).2.2.1;have k:=WC c j x;simp only[d,jm];refine⟨by omega,g,by rw[e];rfl,e2,fun b=>⟨by simp only[ze,zx];omega,iZ6,x+1,⟨⟨by simp,tZ,tZ⟩,?_,tZ⟩,a,by omega⟩,fun b=>⟨iZ6,x+1,⟨⟨tZ,by simp,tZ⟩,?_,tZ⟩,a,by omega⟩⟩;have b:vU (c,j,ig c j,()) (nth (kI c) x)=0:=ja b;rw[HL,jd b];have b:¬vU (c,j,ig c j,()) (nth (kI c) x)=0:=je b;rw[HL,jc b,jY];have h:qV c j=0:=(by simpa using h);have a:(kI c).length<=x:=by
  have a:=je a;have a:¬(x:Int)<(kI c).length:=a;omega
 have f:x<=(kI c).length:=f;simp only;unfold cZ;rw[jd h,h,show x=(kI c).length by omega]
def Ew:Ann:=fun r=>match r with
 |2=>some fun σ=>{X:=List (Int×Int)×Int,sl:=fun x=>[(4,.dat (.uint .u64) x.2)],ob:=fun x=>[(37,some (.iter .int .int x.1 none))],inv:=fun x=>bD (uW (U.tk (gd (.ptr tTk) σ 0)) (gd tPe σ 1)) x.1 x.2,mu:=fun x=>x.1.length}
 |_=>none
abbrev jiw (d:Option (CrD×JbD×LwD×Unit)×PeD×Unit):=(wg (((0:Int),[],[],()),((0:Int),(0:Int),(0:Int),(0:Int),(0:Int),(0:Int),()),((0:Int),(0:Int),false,()),()) d.1)
def Ey:Prop:=∀(d:Option (CrD×JbD×LwD×Unit)×PeD×Unit),d.1.isSome=true->cS (U.tk d.1)->d.1.isSome=true/\d.1.isSome=true/\(0:Int)<=(jiw d).2.1.2.2.2.1/\(jiw d).2.1.2.2.2.1<=64/\d.1.isSome=true/\(0:Int)<=(jiw d).2.1.q4.1/\(jiw d).2.1.q4.1<=64/\[(0:Int),(1:Int),(2:Int)].Nodup/\∀(l:List (Int×Int)),l.Perm [((0:Int),jei !d.2.1.2.2.2.1.any fun(e:Int)=>decide (e=(jiw d).2.1.2.2.1)),((1:Int),bI (d.2.1.2.1/(2:Int)^(jiw d).2.1.2.2.2.1.toNat) (1:Int)),((2:Int),bI (d.2.1.2.2.1/(2:Int)^(jiw d).2.1.q4.1.toNat) (1:Int))]->(((∃(x:List (Int×Int)×Int),((0=x.2/\True)/\l=x.1/\True)/\bD (uW (U.tk d.1) d.2.1) x.1 x.2)/\∀(x:List (Int×Int)×Int),bD (uW (U.tk d.1) d.2.1) x.1 x.2->(x.1=[]->(false=true->False)/\(qF->(x.2,())=(vU (U.tk d.1) d.2.1,())))/\∀(pre:List (Int×Int)) (a:Int×Int) (b:List (Int×Int)),x.1=pre++a::b->(true=true->(decide (a.2=0)=true->0<=a.1/\a.1<=64/\(0:Int)<=1*2^a.1.toNat/\(1:Int)*2^a.1.toNat<=18446744073709551615/\∃(c:List (Int×Int)×Int),((uor x.2 ((1:Int)*2^a.1.toNat)=c.2/\True)/\pre++b=c.1/\True)/\bD (uW (U.tk d.1) d.2.1) c.1 c.2/\c.1.length<x.1.length)/\(decide (a.2=0)=false->∃(c:List (Int×Int)×Int),((x.2=c.2/\True)/\pre++b=c.1/\True)/\bD (uW (U.tk d.1) d.2.1) c.1 c.2/\c.1.length<x.1.length))/\(true=false->(x.2,())=(vU (U.tk d.1) d.2.1,())))/\True)/\True
theorem Rz (z:Int):bI z 1=0\/bI z 1=1:=by
 unfold bI;rw[BitVec.toNat_and];have a:(BitVec.ofInt 64 1).toNat=1:=rfl;rw[a,Nat.and_one_is_mod];rcases Nat.mod_two_eq_zero_or_one (BitVec.ofInt 64 z).toNat with h|h;rw[h];exact .inl rfl;rw[h];exact .inr rfl
theorem RA (s n:Int):(bI (s/2^n.toNat) 1=0)↔(!wH s n)=true:=by
 unfold wH;rcases Rz (s/2^n.toNat) with h|h<;>rw[h]<;>simp
theorem ZN (a b c:Bool) (p:Nat):BT.FS (UF a b c) p=true↔(a=true/\p=0)\/(b=true/\p=1)\/(c=true/\p=2):=by
 match p with
 |0=>cases a<;>cases b<;>cases c<;>decide
 |1=>cases a<;>cases b<;>cases c<;>decide
 |2=>cases a<;>cases b<;>cases c<;>decide
 |p+3=>
  have h:=Wy a b c;have:BT.FS (UF a b c) (p+3)=false:=by
   cases d:BT.FS (UF a b c) (p+3) with
   |false=>rfl
   |true=>have:=BT.has_lt (k:=3) h.1 (by omega) d;omega
  rw[this];simp
theorem ZO (t:TkD) (p:PeD) (k:Nat):(∃e∈uW t p,e.2=0/\e.1.toNat=k)↔BT.FS (vU t p) k=true:=by
 unfold vU;rw[ZN];have c:jei (!Ns p (ja4 (U.tj t)))=0↔Ns p (ja4 (U.tj t))=true:=by
  unfold jei;cases Ns p (ja4 (U.tj t))<;>simp
 have e2:=RA (U.fd p) (ja5 (U.tj t));have d:=RA (U.cl p) (mw (U.tj t));unfold uW;simp only[jk,List.not_mem_nil,or_false];rw[<-c,<-e2,<-d];constructor;rintro⟨e,(rfl|rfl|rfl),a,b⟩;exact .inl ⟨a,b.symm⟩;exact .inr (.inl ⟨a,b.symm⟩);exact .inr (.inr ⟨a,b.symm⟩);rintro(⟨a,b⟩|⟨a,b⟩|⟨a,b⟩);exact⟨_,.inl rfl,a,b.symm⟩;exact⟨_,.inr (.inl rfl),a,b.symm⟩;exact⟨_,.inr (.inr rfl),a,b.symm⟩
theorem ZP {t:TkD} {p:PeD} {e:Int×Int} (h:e∈uW t p):0<=e.1/\e.1<=2:=by
 unfold uW at h;simp only[jk,List.not_mem_nil,or_false] at h;rcases h with rfl|rfl|rfl<;>simp
theorem Tb (t:TkD) (p:PeD):(uW t p).Nodup:=by
 unfold uW;simp
theorem Pb {t:TkD} {p:PeD} {l:List (Int×Int)} (h:l.Perm (uW t p)):bD (uW t p) l 0:=by
 refine⟨BT.u7,h.symm.nodup (Tb t p),fun e c=>h.mem_iff.1 c,fun k=> ?_⟩;rw[BT.n9];constructor;intro h;cases h;rintro⟨e,a,b,_⟩;exact absurd (h.mem_iff.2 a) b
theorem Tc {t:TkD} {p:PeD} {s:Int} (h:bD (uW t p) [] s):s=vU t p:=by
 obtain⟨a,_,_,c⟩:=h;refine BT.ext a (LS (by have:=Et t p;omega)) (fun k=> ?_);rw[j8,c,<-ZO];constructor;rintro⟨e,a,_,b⟩;exact⟨e,a,b⟩;rintro⟨e,a,b⟩;exact⟨e,a,by simp,b⟩
theorem HM {all pre a:List (Int×Int)} {e:Int×Int} {s j:Int} (h:bD all (pre++e::a) s) (p:BT.qH j) (hk:∀k,BT.FS j k=true↔BT.FS s k=true\/(e.2=0/\e.1.toNat=k)):bD all (pre++a) j:=by
 obtain⟨q,m,l,n⟩:=h;have i:(e::(pre++a)).Nodup:=List.perm_middle.nodup m;have b:∀x,x∈pre++e::a↔x=e\/x∈pre++a:=fun x=>by rw[List.perm_middle.mem_iff,jk]
 rw[zy] at i;refine⟨p,i.2,fun x c=>l x ((b x).2 (.inr c)),fun k=> ?_⟩;rw[hk,n];constructor;rintro(⟨x,d,f,g⟩|⟨d,f⟩);exact⟨x,d,fun c=>f ((b x).2 (.inr c)),g⟩;exact⟨e,l e ((b e).2 (.inl rfl)),i.1,d,f⟩;rintro⟨x,d,f,g⟩;by_cases c:x=e;subst c;exact .inr g;exact .inl ⟨x,d,fun o=>by rcases(b x).1 o with h|h;exact c h;exact f h,g⟩
theorem Gg:Ey:=by
 unfold Ey jiw Prod.q4;rintro⟨(_|t),p,⟨⟩⟩ s d;cases s;have d:cS t:=d;have r:U.tk (some t)=t:=rfl;obtain⟨c1,c2,_⟩:=id d;obtain⟨_,_,_,⟨m,o⟩,⟨n,q⟩,_⟩:=nf c2;have m:0<=t.2.1.2.2.2.1:=m;have o:t.2.1.2.2.2.1<=7:=o;have n:0<=t.2.1.2.2.2.2.1:=n;have q:t.2.1.2.2.2.2.1<=3:=q;refine⟨rfl,rfl,m,by simp only[wg];omega,rfl,n,by simp only[wg];omega,by decide,fun l w=>⟨⟨⟨⟨(l,0),⟨⟨rfl,tZ⟩,rfl,tZ⟩,Pb w⟩,fun x b=>⟨fun h=>⟨fun h=>(by cases h),fun _=> ?_⟩,fun pre e a h=>⟨fun _=> ?_,fun h=>(by cases h)⟩⟩⟩,tZ⟩,tZ⟩⟩;rw[h] at b;rw[Tc b];rw[h] at b;have u:e∈uW t p:=b.2.2.1 e (by simp);have hk:=ZP u;obtain⟨k,g,v⟩:∃k:Nat,e.1=(k:Int)/\k<=2:=⟨e.1.toNat,by omega,by omega⟩;have y:(1:Int)*2^k=2^k:=Int.one_mul _;have c:(pre++a).length<x.1.length:=(by rw[h];simp);have i:BT.qH ((2:Int)^k):=BT.lA (by omega);refine⟨fun f=> ?_,fun f=> ?_⟩;have f:e.2=0:=ja f;rw[g,jm,y];refine⟨by omega,by omega,by unfold BT.qH at i;omega,by unfold BT.qH at i;omega,(pre++a,uor x.2 (2^k)),⟨⟨rfl,tZ⟩,rfl,tZ⟩,HM b (BT.uor_set b.1 i) (fun j=> ?_),c⟩;rw[BT.has_uor b.1 i,BT.CT,zG,jv,g,jm];simp[f];have f:¬e.2=0:=je f;exact⟨(pre++a,x.2),⟨⟨rfl,tZ⟩,rfl,tZ⟩,HM b b.1 (fun j=>by simp[f]),c⟩
theorem nh:wN PR 71 vS:=vZ Ew Gg Tryz.func71 (kcC dH (kcC S4 kcN)) koN
theorem LU:(NN 64 [(71,vS),(116,yW),(117,yX)] [] [(115,ww)] []).ok PR:=OT ⟨fun _=>nh,fun _=>I3,fun _=>Jd,tZ⟩ trivial ⟨fD,tZ⟩ trivial
theorem Bq:wN PR 76 lH:=
 We (body:=wK Tryz.f76) (C:=NN 64 [(71,vS),(116,yW),(117,yX)] [] [(115,ww)] []) (hk:=hkC (NN 64 [(71,vS),(116,yW),(117,yX)] [] [(115,ww)] []) (fun _=>none) Es [] []) LU mixed Tryz.func76 (by kernel_rfl) (by kernel_rfl) (by kernel_rfl) (by decide)
  (fun B=>HH LU mixed (fun k ts rs sv pr L v ρ hk c a b=>by
   unfold Es at hk
   split at hk
   case h_2=>cases hk
   simp only[jy] at hk
   cases hk
   exact LL c a b) jc0 B) (rN.mpr Ev)
theorem Pc:wN PR 43 O8:=wt Ta Tryz.func43 (kcC WB (kcC Bq kcN)) koN
theorem ZQ:wN PR 41 ZI:=vZ ZJ jc3 Tryz.func41 (kcC LK (kcC nh kcN)) koN
namespace U
def db (a b:Int):Int:=if a<b then-1 else if b<a then 1 else 0
def yD (l:List Int):Int:=match l.find? (fun n=>decide (n≠0)) with|some n=>n|none=>0
end U
structure iW {α:Type} (c:α->α->Int):Prop where
 anti:∀a b,c b a= -(c a b)
 trans:∀a b d,c a b<=0->c b d<=0->c a d<=0
section
variable {α:Type} {c c1 c2:α->α->Int}
theorem iW.refl (h:iW c) (a:α):c a a=0:=by have:=h.anti a a;omega
theorem iW.lt_le (h:iW c) {a b d:α} (g:c a b<0) (f:c b d<=0):c a d<0:=by
 have i:=h.trans a b d (by omega) f;have j:=h.anti a d;have k:=h.anti a b;by_cases e:c a d=0;have:=h.trans b d a f (by omega);omega;omega
theorem iW.le_lt (h:iW c) {a b d:α} (f:c a b<=0) (g:c b d<0):c a d<0:=by
 have i:=h.trans a b d f (by omega);have j:=h.anti a d;have k:=h.anti b d;by_cases e:c a d=0;have:=h.trans d a b (by omega) f;omega;omega
theorem iW.eq_eq (h:iW c) {a b d:α} (e:c a b=0) (f:c b d=0):c a d=0:=by
 have g:=h.trans a b d (by omega) (by omega);have i:=h.anti a d;have j:=h.anti a b;have k:=h.anti b d;have:=h.trans d b a (by omega) (by omega);omega
def UR (c1 c2:α->α->Int) (a b:α):Int:=if c1 a b≠0 then c1 a b else c2 a b
theorem rP (c:iW c1) (g:iW c2):iW (UR c1 c2) where
 anti a b:=by
  have i:=c.anti a b;have h:=g.anti a b;unfold UR;by_cases e:c1 a b=0;rw[jc (by omega),jc (by omega)];exact h;rw[jd (by omega),jd e];exact i
 trans a b d:=by
  unfold UR;by_cases e:c1 a b=0;rw[jc (by omega)];by_cases f:c1 b d=0;rw[jc (by omega),jc (by have:=c.eq_eq e f;omega)];exact g.trans a b d;rw[jd f];intro _ k;have:=c.le_lt (a:=a) (b:=b) (d:=d) (by omega) (by omega);rw[jd (by omega)];omega;rw[jd e];intro k;by_cases f:c1 b d=0;rw[jc (by omega)];intro _;have:=c.lt_le (a:=a) (b:=b) (d:=d) (by omega) (by omega);rw[jd (by omega)];omega;rw[jd f];intro h;have:=c.lt_le (a:=a) (b:=b) (d:=d) (by omega) (by omega);rw[jd (by omega)];omega
theorem pC {β:Type} (h:iW c) (f:β->α):iW (fun a b=>c (f a) (f b)):=⟨fun a b=>h.anti (f a) (f b),fun a b d=>h.trans (f a) (f b) (f d)⟩
end
theorem nj:iW db:=by
 constructor;intro a b;unfold db;split<;>split<;>(try split)<;>(try split)<;>omega
 intro a b d;unfold db;split<;>split<;>(try split)<;>(try split)<;>(try split)<;>(try split)<;>omega
theorem WD {a b:Int}:db a b<0↔a<b:=by
 unfold db
 split
 simp;omega
 split<;>simp<;>omega
theorem aU {a b:Int}:db a b=0↔a=b:=by
 unfold db
 split
 simp;omega
 split
 simp;omega;simp;omega
theorem wP (x:Int) (l:List Int):yD (x::l)=if x≠0 then x else yD l:=by
 unfold yD;by_cases e:x=0;simp[List.find?,e];simp[List.find?,e]
theorem vb (x:Int):yD [x]=x:=by
 rw[wP]
 split
 rfl;rename_i h;have:x=0:=(by omega);rw[this];rfl
theorem CG {t:Ty} {c:t.Data->t.Data->Int} (d:iW c) {l:List t.Data} (h:∀x y,x∈l->y∈l->c x y=0->x=y):vB (kK t fun x=>(c x.1 x.2.1,())) l where
 irrefl x _:=by
  unfold kK;have:=d.refl x;simp only[this];rfl
 trans x y z _ _ _ b a:=by
  unfold kK at*;have b:=ja b;have a:=ja a;exact jH (d.lt_le b (by have a:c y z<0:=a;show c y z<=0;omega))
 total x y hx hy b a:=by
  unfold kK at*;have b:¬c x y<0:=je b;have a:¬c y x<0:=je a;have:=d.anti x y;exact h x y hx hy (by omega)
end Go.X
namespace Go.X
open U
namespace M
theorem mput_cons {kt:Ty} {β:Type} (k:kt.Data) (v:β) (e:kt.Data×β) (r:List (kt.Data×β)):iv kt k v (e::r)=if @decide (k=e.1) (kt.decEq k e.1)=true then(k,v)::r else e::iv kt k v r:=rfl
theorem mfind_cons {kt:Ty} {β:Type} (k:kt.Data) (e:kt.Data×β) (r:List (kt.Data×β)):wv kt k (e::r)=if @decide (k=e.1) (kt.decEq k e.1)=true then some e.2 else wv kt k r:=rfl
theorem mfind_none {kt:Ty} {β:Type} {k:kt.Data}:∀{l:List (kt.Data×β)},k∉l.map (·.1)->wv kt k l=none
 |[],_=>rfl
 |e::r,h=>by
  simp only[zg,jk,not_or] at h
  rw[mfind_cons,jc (fun a=>h.1 (@ja _ (kt.decEq k e.1) a))]
  exact mfind_none h.2
theorem dec_self {kt:Ty} (k:kt.Data): @decide (k=k) (kt.decEq k k)=true:= @jH _ (kt.decEq k k) rfl
theorem mput_fst {kt:Ty} {β:Type} (k:kt.Data) (v:β):∀m:List (kt.Data×β),(iv kt k v m).map (·.1)=m.map (·.1)\/(k∉m.map (·.1)/\(iv kt k v m).map (·.1)=m.map (·.1)++[k])
 |[]=> .inr ⟨by simp,rfl⟩
 |e::r=>by
  rw[mput_cons]
  by_cases h: @decide (k=e.1) (kt.decEq k e.1)=true
  rw[jd h]
  have h:k=e.1:= @ja _ (kt.decEq k e.1) h
  left
  simp[h]
  rw[jc h]
  have h:¬k=e.1:=fun a=>h (@jH _ (kt.decEq k e.1) a)
  rcases mput_fst k v r with d|⟨b,c⟩
  left;simp only[zg,d]
  right
  refine⟨?_,by simp only[zg,c,j9]⟩
  rw[zg,jk]
  rintro(a|a)
  exact h a
  exact b a
theorem sD {kt:Ty} {β:Type} (k:kt.Data) (v:β):∀l:List (kt.Data×β),wv kt k (iv kt k v l)=some v
 |[]=>by
  rw[show iv kt k v []=[(k,v)] from rfl,mfind_cons,jd (dec_self k)]
 |e::r=>by
  rw[mput_cons]
  by_cases h: @decide (k=e.1) (kt.decEq k e.1)=true
  rw[jd h,mfind_cons,jd (dec_self k)]
  rw[jc h,mfind_cons,jc h]
  exact sD k v r
theorem eN {kt:Ty} {β:Type} {k k':kt.Data} (a:k'≠k) (v:β):∀l:List (kt.Data×β),wv kt k' (iv kt k v l)=wv kt k' l
 |[]=>by
  rw[show iv kt k v []=[(k,v)] from rfl,mfind_cons,jc (fun e=>a (@ja _ (kt.decEq k' k) e))]
 |e::r=>by
  rw[mput_cons]
  by_cases h: @decide (k=e.1) (kt.decEq k e.1)=true
  rw[jd h]
  have h:k=e.1:= @ja _ (kt.decEq k e.1) h
  have c:¬@decide (k'=e.1) (kt.decEq k' e.1)=true:=fun b=>a ((@ja _ (kt.decEq k' e.1) b).trans h.symm)
  rw[mfind_cons,mfind_cons,jc c,jc (fun e=>a (@ja _ (kt.decEq k' k) e))]
  rw[jc h,mfind_cons,mfind_cons,eN a v r]
theorem oM {kt:Ty} {β:Type} {k:kt.Data} {v:β}:∀{l:List (kt.Data×β)},(l.map (·.1)).Nodup->(wv kt k l=some v↔(k,v)∈l)
 |[],_=>by simp[wv]
 |e::r,h=>by
  simp only[zg,zy] at h
  rw[mfind_cons]
  by_cases hk: @decide (k=e.1) (kt.decEq k e.1)=true
  rw[jd hk]
  have hk:k=e.1:= @ja _ (kt.decEq k e.1) hk
  subst hk
  rw[jk]
  constructor
  intro a;simp at a;exact .inl (by rw[<-a])
  rintro(a|a)
  rw[<-a]
  exact absurd (jG.2 ⟨_,a,rfl⟩) h.1
  rw[jc hk]
  have hk:¬k=e.1:=fun b=>hk (@jH _ (kt.decEq k e.1) b)
  rw[oM h.2,jk]
  constructor
  exact .inr
  rintro(a|a)
  exact absurd (by rw[<-a]) hk
  exact a
end M
end Go.X
namespace Go.Proofs
open Go.Shelf
theorem xlay {t:Type} {a:Option t} {b c:t} (h:a=some b) (e:b=c:=by kernel_rfl):a=some c:=h.trans (congrArg some e)
def Tryz.sortSh_ren:Go.Shelf.Ren:=⟨fun|6=>72|15=>93|14=>112|28=>136|29=>137|20=>155|21=>156|22=>157|23=>158|24=>159|25=>160|26=>161|27=>162|46=>195|47=>183|48=>184|49=>196|50=>197|57=>207|n=>n,fun|22=>28|24=>47|25=>138|3=>3|39=>75|0=>0|53=>188|55=>190|4=>4|46=>181|45=>180|50=>185|5=>5|9=>9|66=>213|70=>217|76=>230|77=>231|n=>n,fun|n=>n⟩
theorem Tryz.sortSh:Go.Proofs.SlLaysF0.n6 Tryz.prog Tryz.sortSh_ren:={
 mixed:=by kernel_rfl
 f6:=⟨Tryz.f72.name,by decide,xlay Tryz.func72⟩
 f14:=⟨Tryz.f112.name,by decide,xlay Tryz.func112⟩
 f15:=xlay Tryz.func93
 f20:=⟨Tryz.f155.name,by decide,xlay Tryz.func155⟩
 f21:=⟨Tryz.f156.name,by decide,xlay Tryz.func156⟩
 f22:=⟨Tryz.f157.name,by decide,xlay Tryz.func157⟩
 f23:=⟨Tryz.f158.name,by decide,xlay Tryz.func158⟩
 f24:=⟨Tryz.f159.name,by decide,xlay Tryz.func159⟩
 f25:=⟨Tryz.f160.name,by decide,xlay Tryz.func160⟩
 f26:=⟨Tryz.f161.name,by decide,xlay Tryz.func161⟩
 f27:=⟨Tryz.f162.name,by decide,xlay Tryz.func162⟩
 f28:=xlay Tryz.func136
 f29:=xlay Tryz.func137
 f46:=⟨Tryz.f195.name,by decide,xlay Tryz.func195⟩
 f47:=xlay Tryz.func183
 f48:=xlay Tryz.func184
 f49:=⟨Tryz.f196.name,by decide,xlay Tryz.func196⟩
 f50:=⟨Tryz.f197.name,by decide,xlay Tryz.func197⟩
 f57:=⟨Tryz.f207.name,by decide,xlay Tryz.func207⟩
 t0:=Tryz.underlying0
 a0:=Tryz.isAgg0
 z0:=Tryz.sizeOf0
 v0:=Tryz.zeroValue0
 t3:=Tryz.underlying3
 a3:=Tryz.isAgg3
 z3:=Tryz.sizeOf3
 v3:=Tryz.zeroValue3
 t4:=Tryz.underlying4
 a4:=Tryz.isAgg4
 z4:=Tryz.sizeOf4
 v4:=Tryz.zeroValue4
 t5:=Tryz.underlying5
 a5:=Tryz.isAgg5
 z5:=Tryz.sizeOf5
 v5:=Tryz.zeroValue5
 t9:=Tryz.underlying9
 a9:=Tryz.isAgg9
 z9:=Tryz.sizeOf9
 v9:=Tryz.zeroValue9
 t22:=Tryz.underlying28
 a22:=Tryz.isAgg28
 z22:=Tryz.sizeOf28
 v22:=Tryz.zeroValue28
 t25:=Tryz.underlying138
 a25:=Tryz.isAgg138
 z25:=Tryz.sizeOf138
 v25:=Tryz.zeroValue138
 t39:=Tryz.underlying75
 a39:=Tryz.isAgg75
 z39:=Tryz.sizeOf75
 v39:=Tryz.zeroValue75
 t45:=Tryz.underlying180
 a45:=Tryz.isAgg180
 z45:=Tryz.sizeOf180
 v45:=Tryz.zeroValue180
 t46:=Tryz.underlying181
 a46:=Tryz.isAgg181
 z46:=Tryz.sizeOf181
 v46:=Tryz.zeroValue181
 t50:=Tryz.underlying185
 a50:=Tryz.isAgg185
 z50:=Tryz.sizeOf185
 v50:=Tryz.zeroValue185
 t53:=Tryz.underlying188
 a53:=Tryz.isAgg188
 z53:=Tryz.sizeOf188
 v53:=Tryz.zeroValue188
 t55:=Tryz.underlying190
 a55:=Tryz.isAgg190
 z55:=Tryz.sizeOf190
 v55:=Tryz.zeroValue190
 t66:=Tryz.underlying213
 a66:=Tryz.isAgg213
 z66:=Tryz.sizeOf213
 v66:=Tryz.zeroValue213
 t70:=Tryz.underlying217
 a70:=Tryz.isAgg217
 z70:=Tryz.sizeOf217
 v70:=Tryz.zeroValue217
 t76:=Tryz.underlying230
 a76:=Tryz.isAgg230
 z76:=Tryz.sizeOf230
 v76:=Tryz.zeroValue230
 t77:=Tryz.underlying231
 a77:=Tryz.isAgg231
 z77:=Tryz.sizeOf231
 v77:=Tryz.zeroValue231}
def Tryz.sortI_ren:Go.Shelf.Ren:=⟨fun|189=>74|125=>93|257=>113|128=>136|129=>137|294=>163|295=>164|296=>165|297=>166|298=>167|299=>168|216=>169|300=>170|301=>171|328=>198|329=>183|330=>184|331=>199|332=>200|215=>94|343=>208|n=>n,fun|28=>31|3=>3|46=>75|0=>0|51=>188|53=>190|4=>4|183=>181|182=>180|131=>185|5=>5|9=>9|218=>213|222=>217|228=>230|229=>231|n=>n,fun|n=>n⟩
theorem Tryz.sortI:Go.Proofs.Lays.n189 Tryz.prog Tryz.sortI_ren:={
 mixed:=by kernel_rfl
 f125:=xlay Tryz.func93
 f128:=xlay Tryz.func136
 f129:=xlay Tryz.func137
 f189:=xlay Tryz.func74
 f215:=xlay Tryz.func94
 f216:=xlay Tryz.func169
 f257:=xlay Tryz.func113
 f294:=xlay Tryz.func163
 f295:=xlay Tryz.func164
 f296:=xlay Tryz.func165
 f297:=xlay Tryz.func166
 f298:=xlay Tryz.func167
 f299:=xlay Tryz.func168
 f300:=xlay Tryz.func170
 f301:=xlay Tryz.func171
 f328:=xlay Tryz.func198
 f329:=xlay Tryz.func183
 f330:=xlay Tryz.func184
 f331:=xlay Tryz.func199
 f332:=xlay Tryz.func200
 f343:=xlay Tryz.func208
 t0:=Tryz.underlying0
 a0:=Tryz.isAgg0
 z0:=Tryz.sizeOf0
 v0:=Tryz.zeroValue0
 t3:=Tryz.underlying3
 a3:=Tryz.isAgg3
 z3:=Tryz.sizeOf3
 v3:=Tryz.zeroValue3
 t4:=Tryz.underlying4
 a4:=Tryz.isAgg4
 z4:=Tryz.sizeOf4
 v4:=Tryz.zeroValue4
 t5:=Tryz.underlying5
 a5:=Tryz.isAgg5
 z5:=Tryz.sizeOf5
 v5:=Tryz.zeroValue5
 t9:=Tryz.underlying9
 a9:=Tryz.isAgg9
 z9:=Tryz.sizeOf9
 v9:=Tryz.zeroValue9
 t28:=Tryz.underlying31
 a28:=Tryz.isAgg31
 z28:=Tryz.sizeOf31
 v28:=Tryz.zeroValue31
 t46:=Tryz.underlying75
 a46:=Tryz.isAgg75
 z46:=Tryz.sizeOf75
 v46:=Tryz.zeroValue75
 t51:=Tryz.underlying188
 a51:=Tryz.isAgg188
 z51:=Tryz.sizeOf188
 v51:=Tryz.zeroValue188
 t53:=Tryz.underlying190
 a53:=Tryz.isAgg190
 z53:=Tryz.sizeOf190
 v53:=Tryz.zeroValue190
 t131:=Tryz.underlying185
 a131:=Tryz.isAgg185
 z131:=Tryz.sizeOf185
 v131:=Tryz.zeroValue185
 t182:=Tryz.underlying180
 a182:=Tryz.isAgg180
 z182:=Tryz.sizeOf180
 v182:=Tryz.zeroValue180
 t183:=Tryz.underlying181
 a183:=Tryz.isAgg181
 z183:=Tryz.sizeOf181
 v183:=Tryz.zeroValue181
 t218:=Tryz.underlying213
 a218:=Tryz.isAgg213
 z218:=Tryz.sizeOf213
 v218:=Tryz.zeroValue213
 t222:=Tryz.underlying217
 a222:=Tryz.isAgg217
 z222:=Tryz.sizeOf217
 v222:=Tryz.zeroValue217
 t228:=Tryz.underlying230
 a228:=Tryz.isAgg230
 z228:=Tryz.sizeOf230
 v228:=Tryz.zeroValue230
 t229:=Tryz.underlying231
 a229:=Tryz.isAgg231
 z229:=Tryz.sizeOf231
 v229:=Tryz.zeroValue231}
end Go.Proofs
namespace Go.X
open U
open Go.Proofs
abbrev rwS:Sh:= .cl (.row 47 tSh .unk)
namespace U
def A4 (s:SpD):Bool:=(decide (0<=lo s)&&decide (lo s<=hi s))&&decide (hi s<=300)
def FH (n:Nat) (b:BkD):Bool:=((kA (jdY b) 0 ((n:Int)-1)&&decide (0<=yq b))&&decide (yq b<dp b))&&decide (dp b<=1440)
def Nu (nb a:Nat) (s:ShD):Bool:=(((kA (yZ s) 0 99&&kA (Kw s) 0 9999)&&kA (YV s) 1 2)&&kA (bP s) 0 ((nb:Int)-1))&&kA (au s) 0 ((a:Int)-1)
def dR (a b:ShD):Int:=yD [db (yZ a) (yZ b),db (Kw a) (Kw b),db (YV a) (YV b),db (bP a) (bP b),db (au a) (au b)]
def kY (a b:ShD):Int:=yD [db (Kw a) (Kw b),db (yZ a) (yZ b)]
def yN (a b:ShD):Bool:=decide (a=b)
def wS (l:List ShD):List ShD:=bO yN (kG (kK tSh fun x=>(dR x.1 x.2.1,())) l)
def oK (m:List (Int×Int)) (s:ShD):List (Int×Int):=iv .int (yZ s) (w4 0 (wv .int (yZ s) m)+1) m
def yk (m:List (Int×Int)) (l:List ShD) (n:Nat):List (Int×Int):=(l.take n).foldl oK m
def Sa (m:List (Int×Int)) (s:ShD):Bool:=decide (1<w4 0 (wv .int (yZ s) (oK m s)))
def uX (m:List (Int×Int)) (l:List ShD) (i:Nat):Bool:=Sa (yk m l i) (nth l i)
def nX (m:List (Int×Int)) (l:List ShD):Int:=yO (uX m l) (List.range l.length)
def YF (m:List (Int×Int)) (l:List ShD):Nat:=match(List.range l.length).findIdx? (uX m l) with|some i=>i+1|none=>l.length
def sr (m:List (Int×Int)) (l:List ShD):List (Int×Int):=yk m l (YF m l)
def jfw (m:List (Int×Int)):Prop:=m=[]
def YG (m:List (Int×Int)):Prop:=∀k,0<=w4 0 (wv .int k m)/\w4 0 (wv .int k m)<=200000
def UT (l:List ShD):Bool:=decide (0<=nX [] l)
def Av (d:DyD):Int:=if kZ (kD d)=false then 30 else if Nr d=false then 31 else 0
def wj (d:DyD):Int:=if Av d≠0 then Av d else if wZ d=false then 50 else if UT (wS (qG d))=true then 51 else 0
end U
def Pd:wD:=⟨[.val .int,.val .int,.val .int],[.bool],false,fun _=>[],fun d=>(kA d.1 d.2.1 d.2.2.1,())⟩
def Pe:Prop:=∀(d:Int×Int×Int×Unit),(decide (d.2.1<=d.1)&&decide (d.1<=d.2.2.1),())=(kA d.1 d.2.1 d.2.2.1,())
def oQ:wD:=⟨[.val (.slice tSp),.fn [tSp] [.bool]],[.int],false,fun d=>[∀g∈d.1,kV (d.2.1.pre (g,()))],fun d=>(yO (kC (α:=SpD) d.2.1.F) d.1,())⟩
def oR:Ann:=fun r=>match r with
 |2=>some fun σ=>{X:=Nat,sl:=fun i=>[(8,.dat .int (i:Int))],ob:=fun _=>[],inv:=fun i=>i<=(gd (.slice tSp) σ 0).length/\∀b:Nat,b<i->kC (gfb tSp σ 1) (nth (gd (.slice tSp) σ 0) b)=false,mu:=fun i=>(gd (.slice tSp) σ 0).length-i}
 |_=>none
def oS:Prop:=∀(d:List (Int×Int×Unit)×FnD [tSp] [Ty.bool]×Unit),(∀(g:Int×Int×Unit),g∈d.1->kV (d.2.1.1 (g,())))->d.1.length<4611686018427387904->(∃(x:Nat),((0=(x:Int)/\True)/\True)/\x<=d.1.length/\∀(b:Nat),b<x->kC d.2.1.2 (nth d.1 b)=false)/\∀(x:Nat),(x<=d.1.length/\∀(b:Nat),b<x->kC d.2.1.2 (nth d.1 b)=false)->(decide ((x:Int)<d.1.length)=true->0<=(x:Int)/\(x:Int)<d.1.length/\asks (d.2.1.1 (nth d.1 (x:Int).toNat,())) (((d.2.1.2 (nth d.1 (x:Int).toNat,())).1=true->((x:Int),())=(yO (kC d.2.1.2) d.1,()))/\((d.2.1.2 (nth d.1 (x:Int).toNat,())).1=false->kU ((x:Int)+1)/\∃(a:Nat),(((x:Int)+1=(a:Int)/\True)/\True)/\(a<=d.1.length/\∀(b:Nat),b<a->kC d.2.1.2 (nth d.1 b)=false)/\d.1.length-a<d.1.length-x)))/\(decide ((x:Int)<d.1.length)=false->((-1:Int),())=(yO (kC d.2.1.2) d.1,()))
def iX:wD:=⟨[.val (.slice tSp),.fn [tSp] [.bool]],[.bool],false,fun d=>[∀g∈d.1,kV (d.2.1.pre (g,()))],fun d=>(d.1.any (kC (α:=SpD) d.2.1.F),())⟩
def iY:Prop:=∀(d:List (Int×Int×Unit)×FnD [tSp] [Ty.bool]×Unit),(∀(g:Int×Int×Unit),g∈d.1->kV (d.2.1.1 (g,())))->(∀(g:Int×Int×Unit),g∈d.1->kV (d.2.1.1 (g,())))/\(decide (0<=yO (kC d.2.1.2) d.1),())=(d.1.any (kC d.2.1.2),())
def nq:wD:=⟨[.val (.slice (.slice tSp)),.fn [(.slice tSp)] [.bool]],[.int],false,fun d=>[∀g∈d.1,kV (d.2.1.pre (g,()))],fun d=>(yO (kC (α:=(List SpD)) d.2.1.F) d.1,())⟩
def nr:Ann:=fun r=>match r with
 |2=>some fun σ=>{X:=Nat,sl:=fun i=>[(8,.dat .int (i:Int))],ob:=fun _=>[],inv:=fun i=>i<=(gd (.slice (.slice tSp)) σ 0).length/\∀b:Nat,b<i->kC (gfb (.slice tSp) σ 1) (nth (gd (.slice (.slice tSp)) σ 0) b)=false,mu:=fun i=>(gd (.slice (.slice tSp)) σ 0).length-i}
 |_=>none
def nu:Prop:=∀(d:List (List (Int×Int×Unit))×FnD [tSp.slice] [Ty.bool]×Unit),(∀(g:List (Int×Int×Unit)),g∈d.1->kV (d.2.1.1 (g,())))->d.1.length<4611686018427387904->(∃(x:Nat),((0=(x:Int)/\True)/\True)/\x<=d.1.length/\∀(b:Nat),b<x->kC d.2.1.2 (nth d.1 b)=false)/\∀(x:Nat),(x<=d.1.length/\∀(b:Nat),b<x->kC d.2.1.2 (nth d.1 b)=false)->(decide ((x:Int)<d.1.length)=true->0<=(x:Int)/\(x:Int)<d.1.length/\asks (d.2.1.1 (nth d.1 (x:Int).toNat,())) (((d.2.1.2 (nth d.1 (x:Int).toNat,())).1=true->((x:Int),())=(yO (kC d.2.1.2) d.1,()))/\((d.2.1.2 (nth d.1 (x:Int).toNat,())).1=false->kU ((x:Int)+1)/\∃(a:Nat),(((x:Int)+1=(a:Int)/\True)/\True)/\(a<=d.1.length/\∀(b:Nat),b<a->kC d.2.1.2 (nth d.1 b)=false)/\d.1.length-a<d.1.length-x)))/\(decide ((x:Int)<d.1.length)=false->((-1:Int),())=(yO (kC d.2.1.2) d.1,()))
def fE:wD:=⟨[.val (.slice (.slice tSp)),.fn [(.slice tSp)] [.bool]],[.bool],false,fun d=>[∀g∈d.1,kV (d.2.1.pre (g,()))],fun d=>(d.1.any (kC (α:=(List SpD)) d.2.1.F),())⟩
def fF:Prop:=∀(d:List (List (Int×Int×Unit))×FnD [tSp.slice] [Ty.bool]×Unit),(∀(g:List (Int×Int×Unit)),g∈d.1->kV (d.2.1.1 (g,())))->(∀(g:List (Int×Int×Unit)),g∈d.1->kV (d.2.1.1 (g,())))/\(decide (0<=yO (kC d.2.1.2) d.1),())=(d.1.any (kC d.2.1.2),())
def iZ:wD:=⟨[.val (.slice tBk),.fn [tBk] [.bool]],[.int],false,fun d=>[∀g∈d.1,kV (d.2.1.pre (g,()))],fun d=>(yO (kC (α:=BkD) d.2.1.F) d.1,())⟩
def i7:Ann:=fun r=>match r with
 |2=>some fun σ=>{X:=Nat,sl:=fun i=>[(8,.dat .int (i:Int))],ob:=fun _=>[],inv:=fun i=>i<=(gd (.slice tBk) σ 0).length/\∀b:Nat,b<i->kC (gfb tBk σ 1) (nth (gd (.slice tBk) σ 0) b)=false,mu:=fun i=>(gd (.slice tBk) σ 0).length-i}
 |_=>none
def i8:Prop:=∀(d:List BkD×FnD [tBk] [Ty.bool]×Unit),(∀(g:BkD),g∈d.1->kV (d.2.1.1 (g,())))->d.1.length<4611686018427387904->(∃(x:Nat),((0=(x:Int)/\True)/\True)/\x<=d.1.length/\∀(b:Nat),b<x->kC d.2.1.2 (nth d.1 b)=false)/\∀(x:Nat),(x<=d.1.length/\∀(b:Nat),b<x->kC d.2.1.2 (nth d.1 b)=false)->(decide ((x:Int)<d.1.length)=true->0<=(x:Int)/\(x:Int)<d.1.length/\asks (d.2.1.1 (nth d.1 (x:Int).toNat,())) (((d.2.1.2 (nth d.1 (x:Int).toNat,())).1=true->((x:Int),())=(yO (kC d.2.1.2) d.1,()))/\((d.2.1.2 (nth d.1 (x:Int).toNat,())).1=false->kU ((x:Int)+1)/\∃(a:Nat),(((x:Int)+1=(a:Int)/\True)/\True)/\(a<=d.1.length/\∀(b:Nat),b<a->kC d.2.1.2 (nth d.1 b)=false)/\d.1.length-a<d.1.length-x)))/\(decide ((x:Int)<d.1.length)=false->((-1:Int),())=(yO (kC d.2.1.2) d.1,()))
def dh:wD:=⟨[.val (.slice tBk),.fn [tBk] [.bool]],[.bool],false,fun d=>[∀g∈d.1,kV (d.2.1.pre (g,()))],fun d=>(d.1.any (kC (α:=BkD) d.2.1.F),())⟩
def di:Prop:=∀(d:List BkD×FnD [tBk] [Ty.bool]×Unit),(∀(g:BkD),g∈d.1->kV (d.2.1.1 (g,())))->(∀(g:BkD),g∈d.1->kV (d.2.1.1 (g,())))/\(decide (0<=yO (kC d.2.1.2) d.1),())=(d.1.any (kC d.2.1.2),())
def nv:wD:=⟨[.val (.slice tSh),.fn [tSh] [.bool]],[.int],false,fun d=>[∀g∈d.1,kV (d.2.1.pre (g,()))],fun d=>(yO (kC (α:=ShD) d.2.1.F) d.1,())⟩
def nx:Ann:=fun r=>match r with
 |2=>some fun σ=>{X:=Nat,sl:=fun i=>[(8,.dat .int (i:Int))],ob:=fun _=>[],inv:=fun i=>i<=(gd (.slice tSh) σ 0).length/\∀b:Nat,b<i->kC (gfb tSh σ 1) (nth (gd (.slice tSh) σ 0) b)=false,mu:=fun i=>(gd (.slice tSh) σ 0).length-i}
 |_=>none
def ny:Prop:=∀(d:List ShD×FnD [tSh] [Ty.bool]×Unit),(∀(g:ShD),g∈d.1->kV (d.2.1.1 (g,())))->d.1.length<4611686018427387904->(∃(x:Nat),((0=(x:Int)/\True)/\True)/\x<=d.1.length/\∀(b:Nat),b<x->kC d.2.1.2 (nth d.1 b)=false)/\∀(x:Nat),(x<=d.1.length/\∀(b:Nat),b<x->kC d.2.1.2 (nth d.1 b)=false)->(decide ((x:Int)<d.1.length)=true->0<=(x:Int)/\(x:Int)<d.1.length/\asks (d.2.1.1 (nth d.1 (x:Int).toNat,())) (((d.2.1.2 (nth d.1 (x:Int).toNat,())).1=true->((x:Int),())=(yO (kC d.2.1.2) d.1,()))/\((d.2.1.2 (nth d.1 (x:Int).toNat,())).1=false->kU ((x:Int)+1)/\∃(a:Nat),(((x:Int)+1=(a:Int)/\True)/\True)/\(a<=d.1.length/\∀(b:Nat),b<a->kC d.2.1.2 (nth d.1 b)=false)/\d.1.length-a<d.1.length-x)))/\(decide ((x:Int)<d.1.length)=false->((-1:Int),())=(yO (kC d.2.1.2) d.1,()))
def fG:wD:=⟨[.val (.slice tSh),.fn [tSh] [.bool]],[.bool],false,fun d=>[∀g∈d.1,kV (d.2.1.pre (g,()))],fun d=>(d.1.any (kC (α:=ShD) d.2.1.F),())⟩
def fH:Prop:=∀(d:List ShD×FnD [tSh] [Ty.bool]×Unit),(∀(g:ShD),g∈d.1->kV (d.2.1.1 (g,())))->(∀(g:ShD),g∈d.1->kV (d.2.1.1 (g,())))/\(decide (0<=yO (kC d.2.1.2) d.1),())=(d.1.any (kC d.2.1.2),())
def xz:wD:=⟨[.val tSp,.rfn [tSp] [.bool]],[.bool],false,fun d=>[kV (d.2.1.pre (d.1,()))],fun d=>(!(kC (α:=SpD) d.2.1.F d.1),())⟩
def xA:Prop:=∀(d:(Int×Int×Unit)×FnD [tSp] [Ty.bool]×Unit),kV (d.2.1.1 (d.1,()))->asks (d.2.1.1 (d.1,())) ((!(d.2.1.2 (d.1,())).1,())=(!kC d.2.1.2 d.1,()))
def Ez:wD:=⟨[.val (.slice tSp),.fn [tSp] [.bool]],[.bool],false,fun d=>[∀g∈d.1,kV (d.2.1.pre (g,()))],fun d=>(d.1.all (kC (α:=SpD) d.2.1.F),())⟩
def EA:Prop:=∀(d:List (Int×Int×Unit)×FnD [tSp] [Ty.bool]×Unit),(∀(g:Int×Int×Unit),g∈d.1->kV (d.2.1.1 (g,())))->(∀(g:Int×Int×Unit),g∈d.1->kV [kV (d.2.1.1 (g,()))])/\(!d.1.any (kC fun(a:(Int×Int×Unit)×Unit)=>(!kC d.2.1.2 a.1,())),())=(d.1.all (kC d.2.1.2),())
def tS:wD:=⟨[.val (.slice tSp),.rfn [(.slice tSp)] [.bool]],[.bool],false,fun d=>[kV (d.2.1.pre (d.1,()))],fun d=>(!(kC (α:=(List SpD)) d.2.1.F d.1),())⟩
def tT:Prop:=∀(d:List (Int×Int×Unit)×FnD [tSp.slice] [Ty.bool]×Unit),kV (d.2.1.1 (d.1,()))->asks (d.2.1.1 (d.1,())) ((!(d.2.1.2 (d.1,())).1,())=(!kC d.2.1.2 d.1,()))
def Br:wD:=⟨[.val (.slice (.slice tSp)),.fn [(.slice tSp)] [.bool]],[.bool],false,fun d=>[∀g∈d.1,kV (d.2.1.pre (g,()))],fun d=>(d.1.all (kC (α:=(List SpD)) d.2.1.F),())⟩
def Bs:Prop:=∀(d:List (List (Int×Int×Unit))×FnD [tSp.slice] [Ty.bool]×Unit),(∀(g:List (Int×Int×Unit)),g∈d.1->kV (d.2.1.1 (g,())))->(∀(g:List (Int×Int×Unit)),g∈d.1->kV [kV (d.2.1.1 (g,()))])/\(!d.1.any (kC fun(a:List (Int×Int×Unit)×Unit)=>(!kC d.2.1.2 a.1,())),())=(d.1.all (kC d.2.1.2),())
def oT:wD:=⟨[.val tBk,.rfn [tBk] [.bool]],[.bool],false,fun d=>[kV (d.2.1.pre (d.1,()))],fun d=>(!(kC (α:=BkD) d.2.1.F d.1),())⟩
def oU:Prop:=∀(d:BkD×FnD [tBk] [Ty.bool]×Unit),kV (d.2.1.1 (d.1,()))->asks (d.2.1.1 (d.1,())) ((!(d.2.1.2 (d.1,())).1,())=(!kC d.2.1.2 d.1,()))
def tU:wD:=⟨[.val (.slice tBk),.fn [tBk] [.bool]],[.bool],false,fun d=>[∀g∈d.1,kV (d.2.1.pre (g,()))],fun d=>(d.1.all (kC (α:=BkD) d.2.1.F),())⟩
def tV:Prop:=∀(d:List BkD×FnD [tBk] [Ty.bool]×Unit),(∀(g:BkD),g∈d.1->kV (d.2.1.1 (g,())))->(∀(g:BkD),g∈d.1->kV [kV (d.2.1.1 (g,()))])/\(!d.1.any (kC fun(a:BkD×Unit)=>(!kC d.2.1.2 a.1,())),())=(d.1.all (kC d.2.1.2),())
def tW:wD:=⟨[.val tSh,.rfn [tSh] [.bool]],[.bool],false,fun d=>[kV (d.2.1.pre (d.1,()))],fun d=>(!(kC (α:=ShD) d.2.1.F d.1),())⟩
def tX:Prop:=∀(d:ShD×FnD [tSh] [Ty.bool]×Unit),kV (d.2.1.1 (d.1,()))->asks (d.2.1.1 (d.1,())) ((!(d.2.1.2 (d.1,())).1,())=(!kC d.2.1.2 d.1,()))
def Bt:wD:=⟨[.val (.slice tSh),.fn [tSh] [.bool]],[.bool],false,fun d=>[∀g∈d.1,kV (d.2.1.pre (g,()))],fun d=>(d.1.all (kC (α:=ShD) d.2.1.F),())⟩
def Bu:Prop:=∀(d:List ShD×FnD [tSh] [Ty.bool]×Unit),(∀(g:ShD),g∈d.1->kV (d.2.1.1 (g,())))->(∀(g:ShD),g∈d.1->kV [kV (d.2.1.1 (g,()))])/\(!d.1.any (kC fun(a:ShD×Unit)=>(!kC d.2.1.2 a.1,())),())=(d.1.all (kC d.2.1.2),())
def LV:wD:=⟨[.val tSp],[.bool],false,fun _=>[],fun d=>(A4 d.1,())⟩
def LW:Prop:=∀(d:(Int×Int×Unit)×Unit),(decide (0<=d.1.1)&&decide (d.1.1<=d.1.2.1)&&decide (d.1.2.1<=300),())=(A4 d.1,())
def LX:wD:=⟨[.val (.slice tSp),.ref tDy,.rfn [tSp] [.bool]],[.bool],false,fun d=>[∀g∈d.1,kV (d.2.2.1.pre (g,()))],fun d=>(decide ((d.1.length:Int)=(wG d.2.1).length)&&d.1.all (kC (α:=SpD) d.2.2.1.F),())⟩
def LY:Prop:=∀(d:List (Int×Int×Unit)×DyD×FnD [tSp] [Ty.bool]×Unit),(∀(g:Int×Int×Unit),g∈d.1->kV (d.2.2.1.1 (g,())))->d.1.length<4611686018427387904->d.2.1.2.1.length<4611686018427387904->(decide ((d.1.length:Int)=d.2.1.2.1.length)=true->∀(g:Int×Int×Unit),g∈d.1->kV (d.2.2.1.1 (g,())))/\(decide ((d.1.length:Int)=d.2.1.2.1.length)&&d.1.all (kC d.2.2.1.2),())=(decide ((d.1.length:Int)=(wG d.2.1).length)&&d.1.all (kC d.2.2.1.2),())
def LZ:wD:=⟨[.val tBk,.ref tDy],[.bool],false,fun _=>[],fun d=>(FH (wG d.2.1).length d.1,())⟩
def L0:Prop:=∀(d:BkD×DyD×Unit),d.2.1.2.1.length<4611686018427387904->kU ((d.2.1.2.1.length:Int)-1)/\(kA d.1.2.1 (0:Int) ((d.2.1.2.1.length:Int)-1)&&decide (0<=d.1.2.2.1)&&decide (d.1.2.2.1<d.1.2.2.2.1)&&decide (d.1.2.2.2.1<=1440),())=(FH (wG d.2.1).length d.1,())
def L1:wD:=⟨[.val tSh,.ref tDy],[.bool],false,fun _=>[],fun d=>(Nu (kH d.2.1).length (kI (kD d.2.1)).length d.1,())⟩
abbrev jkL (d:ShD×DyD×Unit):=(kA d.1.1 (0:Int) (99:Int)&&kA d.1.2.1 (0:Int) (9999:Int)&&kA d.1.2.2.1 (1:Int) (2:Int)&&kA d.1.2.2.2.1 (0:Int) ((d.2.1.2.2.1.length:Int)-1))
abbrev jkM (d:ShD×DyD×Unit):=(kA d.1.1 (0:Int) (99:Int)&&kA d.1.2.1 (0:Int) (9999:Int)&&kA d.1.2.2.1 (1:Int) (2:Int))
def L2:Prop:=∀(d:ShD×DyD×Unit),((jkM d)=true->d.2.1.2.2.1.length<4611686018427387904)->((jkM d)=true->kU ((d.2.1.2.2.1.length:Int)-1))/\(((jkL d)=true->d.2.1.1.2.1.length<4611686018427387904)->((jkL d)=true->kU ((d.2.1.1.2.1.length:Int)-1))/\(kA d.1.1 (0:Int) (99:Int)&&kA d.1.2.1 (0:Int) (9999:Int)&&kA d.1.2.2.1 (1:Int) (2:Int)&&kA d.1.2.2.2.1 (0:Int) ((d.2.1.2.2.1.length:Int)-1)&&kA d.1.q4.1 (0:Int) ((d.2.1.1.2.1.length:Int)-1),())=(Nu (kH d.2.1).length (kI (kD d.2.1)).length d.1,()))
def Td:wD:=⟨[.val tDy],[.bool],false,fun _=>[],fun d=>(wZ d.1,())⟩
abbrev jj7 (d:DyD×Unit):=(kC fun(a:BkD×Unit)=>(FH (wG d.1).length a.1,()))
abbrev jiN (d:DyD×Unit):=((d.1.2.2.1.length:Int)<=4)
abbrev jjF (d:DyD×Unit):=(↑(wG d.1).length:Int)
abbrev ji8 (d:DyD×Unit):=(d.1.2.1.length:Int)
def Te:Prop:=∀(d:DyD×Unit),d.1.2.2.1.length<4611686018427387904->(decide (jiN d)=true->d.1.2.1.length<4611686018427387904)->((decide (jiN d)&&kA (ji8 d) (1:Int) (5:Int))=true->∀(g:List (Int×Int×Unit)),g∈d.1.2.1->kV [∀(b:Int×Int×Unit),b∈g->kV []])/\((decide (jiN d)&&kA (ji8 d) (1:Int) (5:Int)&&d.1.2.1.all (kC fun(a:List (Int×Int×Unit)×Unit)=>(decide ((a.1.length:Int)=(jjF d))&&a.1.all (kC fun(c:(Int×Int×Unit)×Unit)=>(A4 c.1,())),())))=true->∀(e:BkD),e∈d.1.2.2.1->kV [])/\(((decide (jiN d)&&kA (ji8 d) (1:Int) (5:Int)&&d.1.2.1.all (kC fun(a:List (Int×Int×Unit)×Unit)=>(decide ((a.1.length:Int)=(jjF d))&&a.1.all (kC fun(f:(Int×Int×Unit)×Unit)=>(A4 f.1,())),()))&&d.1.2.2.1.all (jj7 d)&&kA d.1.2.2.2.1 (0:Int) (300:Int)&&kA d.1.q4.1 (0:Int) (1440:Int))=true->d.1.q4.2.1.length<4611686018427387904)->((decide (jiN d)&&kA (ji8 d) (1:Int) (5:Int)&&d.1.2.1.all (kC fun(a:List (Int×Int×Unit)×Unit)=>(decide ((a.1.length:Int)=(jjF d))&&a.1.all (kC fun(h:(Int×Int×Unit)×Unit)=>(A4 h.1,())),()))&&d.1.2.2.1.all (jj7 d)&&kA d.1.2.2.2.1 (0:Int) (300:Int)&&kA d.1.q4.1 (0:Int) (1440:Int)&&decide ((d.1.q4.2.1.length:Int)<=30))=true->∀(i:ShD),i∈d.1.q4.2.1->kV [])/\(decide (jiN d)&&kA (ji8 d) (1:Int) (5:Int)&&d.1.2.1.all (kC fun(a:List (Int×Int×Unit)×Unit)=>(decide ((a.1.length:Int)=(jjF d))&&a.1.all (kC fun(u5:(Int×Int×Unit)×Unit)=>(A4 u5.1,())),()))&&d.1.2.2.1.all (jj7 d)&&kA d.1.2.2.2.1 (0:Int) (300:Int)&&kA d.1.q4.1 (0:Int) (1440:Int)&&decide ((d.1.q4.2.1.length:Int)<=30)&&d.1.q4.2.1.all (kC fun(j:ShD×Unit)=>(Nu (kH d.1).length (kI (kD d.1)).length j.1,())),())=(wZ d.1,()))
def Bv:wD:=⟨[.val .int],[.bool],false,fun _=>[],fun _=>(false,())⟩
def Bw:Prop:=∀(d:Int×Unit),(decide (d.1≠d.1),())=(false,())
def tY:wD:=⟨[.val .int,.val .int],[.int],false,fun _=>[],fun d=>(db d.1 d.2.1,())⟩
abbrev jiO (d:Int×Int×Unit):=(db d.1 d.2.1,())
def t6:Prop:=∀(d:Int×Int×Unit),(false=true->(false=true->((0:Int),())=(jiO d))/\(qF->((-1:Int),())=(jiO d)))/\(qF->(false=true->((1:Int),())=(jiO d))/\(qF->(decide (d.1<d.2.1)=true->((-1:Int),())=(jiO d))/\(decide (d.1<d.2.1)=false->(decide (d.2.1<d.1)=true->((1:Int),())=(jiO d))/\(decide (d.2.1<d.1)=false->((0:Int),())=(jiO d)))))
def Je:wD:=⟨[.val (.slice .int)],[.int],false,fun _=>[],fun d=>(yD d.1,())⟩
def Jf:Ann:=fun r=>match r with
 |3=>some fun σ=>{X:=Nat,sl:=fun i=>[(8,.dat .int (i:Int))],ob:=fun _=>[],inv:=fun i=>i<=(gd (.slice .int) σ 0).length/\∀b:Nat,b<i->nth (gd (.slice .int) σ 0) b=0,mu:=fun i=>(gd (.slice .int) σ 0).length-i}
 |_=>none
def Jg:Prop:=∀(d:List Int×Unit),d.1.length<4611686018427387904->(∃(x:Nat),((0=(x:Int)/\True)/\True)/\x<=d.1.length/\∀(b:Nat),b<x->nth d.1 b=0)/\∀(x:Nat),(x<=d.1.length/\∀(b:Nat),b<x->nth d.1 b=0)->(decide ((x:Int)<d.1.length)=true->0<=(x:Int)/\(x:Int)<d.1.length/\(decide (nth d.1 (x:Int).toNat≠0)=true->(nth d.1 (x:Int).toNat,())=(yD d.1,()))/\(decide (nth d.1 (x:Int).toNat≠0)=false->kU ((x:Int)+1)/\∃(a:Nat),(((x:Int)+1=(a:Int)/\True)/\True)/\(a<=d.1.length/\∀(b:Nat),b<a->nth d.1 b=0)/\d.1.length-a<d.1.length-x))/\(decide ((x:Int)<d.1.length)=false->((0:Int),())=(yD d.1,()))
def EB:wD:=⟨[.val tSh,.val tSh],[.int],false,fun _=>[],fun d=>(dR d.1 d.2.1,())⟩
def EC:Prop:=∀(d:ShD×ShD×Unit),(yD [db d.1.1 d.2.1.1,db d.1.2.1 d.2.1.2.1,db d.1.2.2.1 d.2.1.2.2.1,db d.1.2.2.2.1 d.2.1.2.2.2.1,db d.1.q4.1 d.2.1.q4.1],())=(dR d.1 d.2.1,())
def Pf:wD:=⟨[.val tSh,.val tSh],[.int],false,fun _=>[],fun d=>(kY d.1 d.2.1,())⟩
def Pg:Prop:=∀(d:ShD×ShD×Unit),(yD [db d.1.2.1 d.2.1.2.1,db d.1.1 d.2.1.1],())=(kY d.1 d.2.1,())
def xB:qC:=⟨[.val (.slice tSh)],[rwS],fun d=>[d.1.length<=100000],fun d=>((d.1,()),())⟩
def xC:Prop:=∀(d:List ShD×Unit),d.1.length<=100000->∀(β:Bool),(β=true->d.1=[])->(β=true->([],())=d/\()=())/\(β=false->(0+d.1.length)*40<=140737488355328/\([]++d.1,())=d/\()=())
def rQ:qC:=⟨[.own rwS false],[rwS],fun d=>[d.1.length<=100000],fun d=>((bO yN d.1,()),())⟩
def rR:Ann:=fun r=>match r with
 |4=>some fun σ=>{X:=Nat,sl:=fun i=>[(3,.dat .int (i:Int))],ob:=fun _=>[],inv:=fun i=>jdX yN (gr tSh σ 1000000) i,mu:=fun i=>(gr tSh σ 1000000).length-i}
 |9=>some fun σ=>{X:=Nat×List ShD,sl:=fun x=>[(5,.dat .int (x.1:Int)),(3,.dat .int (pG yN (gr tSh σ 1000000) ((gd .int σ 3).toNat+x.1)))],ob:=fun x=>[(1000000,some (.row 47 tSh false .unk x.2))],inv:=fun x=>QB yN (gr tSh σ 1000000) (gd .int σ 3).toNat x.1 x.2,mu:=fun x=>(gr tSh σ 1000000).length-x.1}
 |_=>none
abbrev jhx (x:Nat)(a:Nat×List ShD):=((x:Int).toNat+a.1)
abbrev jkN (d:List ShD×Unit)(x:Nat)(a:Nat×List ShD):=(List.take (pG yN d.1 (jhx x a)).toNat a.2++List.replicate ((a.2.length:Int).toNat-(pG yN d.1 (jhx x a)).toNat) ((0:Int),(0:Int),(0:Int),(0:Int),(0:Int),()))
abbrev jkO (a:Nat×List ShD)(x:Nat):=(!decide (nth a.2 ((x:Int).toNat+(a.1:Int).toNat)=nth a.2 ((x:Int).toNat+((a.1:Int)-1).toNat)))
abbrev jhO (d:List ShD×Unit):=(d.1.length:Int)
abbrev ji9 (d:List ShD×Unit)(x:Nat):=(↑((jhO d).toNat-(x:Int).toNat):Int)
def rS:Prop:=∀(d:List ShD×Unit),d.1.length<=100000->d.1.length<4611686018427387904->(decide ((jhO d)<2)=true->d=(bO yN d.1,())/\()=())/\(decide ((jhO d)<2)=false->(∃(x:Nat),((1=(x:Int)/\True)/\True)/\jdX yN d.1 x)/\∀(x:Nat),jdX yN d.1 x->d.1.length<4611686018427387904->(decide ((x:Int)<(jhO d))=true->0<=(x:Int)/\(x:Int)<(jhO d)/\kU ((x:Int)-1)/\0<=(x:Int)-1/\(x:Int)-1<(jhO d)/\(decide (nth d.1 (x:Int).toNat=nth d.1 ((x:Int)-1).toNat)=true->0<=(x:Int)/\(x:Int)<=(jhO d)/\(jhO d)<=(jhO d)/\(∃(a:Nat×List ShD),((1=(a.1:Int)/\(x:Int)=pG yN d.1 (jhx x a)/\True)/\d.1=a.2/\True)/\QB yN d.1 (x:Int).toNat a.1 a.2)/\∀(a:Nat×List ShD),QB yN d.1 (x:Int).toNat a.1 a.2->(jhO d).toNat-(x:Int).toNat<4611686018427387904->(decide ((a.1:Int)<(ji9 d x))=true->0<=(a.1:Int)/\(a.1:Int)<(ji9 d x)/\kU ((a.1:Int)-1)/\0<=(a.1:Int)-1/\(a.1:Int)-1<(ji9 d x)/\((jkO a x)=true->0<=(a.1:Int)/\(a.1:Int)<(ji9 d x)/\0<=pG yN d.1 (jhx x a)/\pG yN d.1 (jhx x a)<(a.2.length:Int)/\kU (pG yN d.1 (jhx x a)+1)/\kU ((a.1:Int)+1)/\∃(b:Nat×List ShD),(((a.1:Int)+1=(b.1:Int)/\pG yN d.1 (jhx x a)+1=pG yN d.1 ((x:Int).toNat+b.1)/\True)/\a.2.set (pG yN d.1 (jhx x a)).toNat (nth a.2 ((x:Int).toNat+(a.1:Int).toNat))=b.2/\True)/\QB yN d.1 (x:Int).toNat b.1 b.2/\d.1.length-b.1<d.1.length-a.1)/\((jkO a x)=false->kU ((a.1:Int)+1)/\∃(b:Nat×List ShD),((pG yN d.1 (jhx x a)=pG yN d.1 ((x:Int).toNat+b.1)/\(a.1:Int)+1=(b.1:Int)/\True)/\a.2=b.2/\True)/\QB yN d.1 (x:Int).toNat b.1 b.2/\d.1.length-b.1<d.1.length-a.1))/\(decide ((a.1:Int)<(ji9 d x))=false->0<=pG yN d.1 (jhx x a)/\pG yN d.1 (jhx x a)<=(a.2.length:Int)/\(a.2.length:Int)<=a.2.length/\(pG yN d.1 (jhx x a)).toNat+((a.2.length:Int).toNat-(pG yN d.1 (jhx x a)).toNat)=a.2.length/\(0:Int)<=0/\0<=pG yN d.1 (jhx x a)/\pG yN d.1 (jhx x a)<=(↑(jkN d x a).length:Int)/\(List.take ((pG yN d.1 (jhx x a)).toNat-Int.toNat 0) (jkN d x a),())=(bO yN d.1,())/\()=()))/\(decide (nth d.1 (x:Int).toNat=nth d.1 ((x:Int)-1).toNat)=false->kU ((x:Int)+1)/\∃(c:Nat),(((x:Int)+1=(c:Int)/\True)/\True)/\jdX yN d.1 c/\d.1.length-c<d.1.length-x))/\(decide ((x:Int)<(jhO d))=false->d=(bO yN d.1,())/\()=()))
abbrev oV:qC:=Wd tSh 47
def Jh:qC:=⟨[.val (.slice tSh)],[rwS],fun d=>[d.1.length<=100000],fun d=>((wS d.1,()),())⟩
abbrev jj8:=(kK (Ty.int.pair (Ty.int.pair (Ty.int.pair (Ty.int.pair (Ty.int.pair Ty.unit))))) fun(a:ShD×ShD×Unit)=>(dR a.1 a.2.1,()))
def Ji:Prop:=∀(d:List ShD×Unit),d.1.length<=100000->d.1.length<=100000/\(∀(x:ShD),x∈d.1->∀(y:ShD),y∈d.1->kV [])/\vB jj8 d.1/\(kG jj8 d.1).length<=100000/\(bO yN (kG jj8 d.1),())=(wS d.1,())/\()=()
def L3:qC:=⟨[.val tSh,.own (.box 163 [.map .int .int]) true],[.cl (.dat .bool)],fun d=>[YG d.2.1.1],fun d=>((Sa d.2.1.1 d.1,()),((oK d.2.1.1 d.1,()),()))⟩
abbrev jj9 (d:ShD×(List (Int×Int)×Unit)×Unit):=(w4 (0:Int) (wv Ty.int d.1.1 d.2.1.1)+1)
def L4:Prop:=∀(d:ShD×(List (Int×Int)×Unit)×Unit),YG d.2.1.1->kU (jj9 d)/\(decide (1<w4 (0:Int) (wv Ty.int d.1.1 (iv Ty.int d.1.1 (jj9 d) d.2.1.1))),())=(Sa d.2.1.1 d.1,())/\((iv Ty.int d.1.1 (jj9 d) d.2.1.1,()),())=((oK d.2.1.1 d.1,()),())
abbrev clV:Sh:= .fbox 106 163 [.map .int .int]
def fI:qC:=⟨[.val (.slice tSh),.own clV true],[.cl (.dat .int)],fun d=>[d.1.length<=100000,jfw d.2.1.1],fun d=>((nX d.2.1.1 d.1,()),((sr d.2.1.1 d.1,()),()))⟩
def fJ:Ann:=fun r=>match r with
 |2=>some fun σ=>{X:=Nat,sl:=fun i=>[(8,.dat .int (i:Int))],ob:=fun i=>[(400020,some (.map false .int .int (yk [] (gd (.slice tSh) σ 0) i)))],inv:=fun i=>i<=(gd (.slice tSh) σ 0).length/\∀b:Nat,b<i->uX [] (gd (.slice tSh) σ 0) b=false,mu:=fun i=>(gd (.slice tSh) σ 0).length-i}
 |_=>none
def fK:Prop:=∀(d:List ShD×(List (Int×Int)×Unit)×Unit),d.1.length<=100000->jfw d.2.1.1->d.1.length<4611686018427387904->(∃(x:Nat),((0=(x:Int)/\True)/\d.2.1.1=yk [] d.1 x/\True)/\x<=d.1.length/\∀(b:Nat),b<x->uX [] d.1 b=false)/\∀(x:Nat),(x<=d.1.length/\∀(b:Nat),b<x->uX [] d.1 b=false)->(decide ((x:Int)<d.1.length)=true->0<=(x:Int)/\(x:Int)<d.1.length/\YG (yk [] d.1 x)/\(Sa (yk [] d.1 x) (nth d.1 (x:Int).toNat)=true->((x:Int),())=(nX d.2.1.1 d.1,())/\((oK (yk [] d.1 x) (nth d.1 (x:Int).toNat),()),())=((sr d.2.1.1 d.1,()),()))/\(Sa (yk [] d.1 x) (nth d.1 (x:Int).toNat)=false->kU ((x:Int)+1)/\∃(a:Nat),(((x:Int)+1=(a:Int)/\True)/\(True/\True)/\oK (yk [] d.1 x) (nth d.1 (x:Int).toNat)=yk [] d.1 a/\True)/\(a<=d.1.length/\∀(b:Nat),b<a->uX [] d.1 b=false)/\d.1.length-a<d.1.length-x))/\(decide ((x:Int)<d.1.length)=false->((-1:Int),())=(nX d.2.1.1 d.1,())/\((yk [] d.1 x,()),())=((sr d.2.1.1 d.1,()),()))
def cJ:qC:=⟨[.val (.slice tSh),.own clV true],[.cl (.dat .bool)],fun d=>[d.1.length<=100000,jfw d.2.1.1],fun d=>((decide (0<=nX d.2.1.1 d.1),()),((sr d.2.1.1 d.1,()),()))⟩
def cK:Prop:=∀(d:List ShD×(List (Int×Int)×Unit)×Unit),d.1.length<=100000->jfw d.2.1.1->d.1.length<=100000/\jfw d.2.1.1/\(decide (0<=nX d.2.1.1 d.1),())=(decide (0<=nX d.2.1.1 d.1),())/\((sr d.2.1.1 d.1,()),())=((sr d.2.1.1 d.1,()),())
def Tf:wD:=⟨[.val (.slice tSh)],[.bool],false,fun d=>[d.1.length<=100000],fun d=>(UT d.1,())⟩
def Tg:Prop:=∀(d:List ShD×Unit),d.1.length<=100000->d.1.length<=100000/\jfw []/\(decide (0<=nX [] d.1),())=(UT d.1,())
def Gh:wD:=⟨[.val tDy],[.int],false,fun _=>[],fun d=>(Av d.1,())⟩
def Gi:Ann:=fun r=>match r with
 |5=>some fun σ=>{X:=Nat,sl:=fun i=>[(17,.dat .int (i:Int))],ob:=fun _=>[],inv:=fun i=>i<=(gd (.slice tBk) σ 15).length/\∀b:Nat,b<i->qp (kD (gd tDy σ 0)) (yY (nth (gd (.slice tBk) σ 15) b))=true,mu:=fun i=>(gd (.slice tBk) σ 15).length-i}
 |_=>none
abbrev jka:=((0:Int),(1:Int),(0:Int),(0:Int),(0:Int),(1:Int),())
def Gj:Prop:=∀(d:DyD×Unit),(decide (qV d.1.1 jka≠0)=true->(qV d.1.1 jka,())=(Av d.1,()))/\(decide (qV d.1.1 jka≠0)=false->d.1.2.2.1.length<4611686018427387904->(∃(x:Nat),((0=(x:Int)/\True)/\True)/\x<=d.1.2.2.1.length/\∀(b:Nat),b<x->qp (kD d.1) (yY (nth d.1.2.2.1 b))=true)/\∀(x:Nat),(x<=d.1.2.2.1.length/\∀(b:Nat),b<x->qp (kD d.1) (yY (nth d.1.2.2.1 b))=true)->(decide ((x:Int)<d.1.2.2.1.length)=true->0<=(x:Int)/\(x:Int)<d.1.2.2.1.length/\(decide (qV d.1.1 (nth d.1.2.2.1 (x:Int).toNat).1≠0)=true->(qV d.1.1 (nth d.1.2.2.1 (x:Int).toNat).1,())=(Av d.1,()))/\(decide (qV d.1.1 (nth d.1.2.2.1 (x:Int).toNat).1≠0)=false->kU ((x:Int)+1)/\∃(a:Nat),(((x:Int)+1=(a:Int)/\True)/\True)/\(a<=d.1.2.2.1.length/\∀(b:Nat),b<a->qp (kD d.1) (yY (nth d.1.2.2.1 b))=true)/\d.1.2.2.1.length-a<d.1.2.2.1.length-x))/\(decide ((x:Int)<d.1.2.2.1.length)=false->((0:Int),())=(Av d.1,())))
def Th:wD:=⟨[.val tDy],[.int],false,fun d=>[(qG d.1).length<=100000],fun d=>(wj d.1,())⟩
def Ti:Prop:=∀(d:DyD×Unit),(qG d.1).length<=100000->(decide (Av d.1≠0)=true->(Av d.1,())=(wj d.1,()))/\(decide (Av d.1≠0)=false->((!wZ d.1)=true->((50:Int),())=(wj d.1,()))/\((!wZ d.1)=false->d.1.q4.2.1.length<=100000/\(wS d.1.q4.2.1).length<=100000/\(UT (wS d.1.q4.2.1)=true->((51:Int),())=(wj d.1,()))/\(UT (wS d.1.q4.2.1)=false->((0:Int),())=(wj d.1,()))))
theorem Tj:Pe:=by
 intro d;rfl
theorem rT:wN PR 100 Pd:=wt Tj Tryz.func100 kcN koN
theorem rU:oS:=by
 rintro⟨l,f,⟨⟩⟩ a g;refine⟨⟨0,⟨⟨rfl,tZ⟩,tZ⟩,jt _,fun b c=>by omega⟩,fun i hi=>⟨fun h=> ?_,fun h=> ?_⟩⟩;have h:i<l.length:=(by simpa using h);simp only[jm] at*;refine⟨by omega,by omega,vo _ (a _ (L.kJ h)) ⟨fun c=> ?_,fun c=>⟨iZ6,i+1,⟨⟨by simp,tZ⟩,tZ⟩,⟨by omega,fun b d=> ?_⟩,by omega⟩⟩⟩;rw[yp (p:=kC (α:=SpD) f.F) h hi.2 c];by_cases e:b=i;subst e;exact c;exact hi.2 b (by omega);have h:l.length<=i:=(by simpa using h);rw[qW (p:=kC (α:=SpD) f.F) h hi.2]
theorem oW:wN PR 192 oQ:=vZ oR rU Tryz.func192 kcN koN
theorem l9:iY:=by
 rintro⟨l,f,⟨⟩⟩ a;refine⟨a,?_⟩;exact jP (·,()) (iV (kC (α:=SpD) f.F) l)
theorem i9:wN PR 146 iX:=wt l9 Tryz.func146 (kcC oW kcN) koN
theorem oX:nu:=by
 rintro⟨l,f,⟨⟩⟩ a g;refine⟨⟨0,⟨⟨rfl,tZ⟩,tZ⟩,jt _,fun b c=>by omega⟩,fun i hi=>⟨fun h=> ?_,fun h=> ?_⟩⟩;have h:i<l.length:=(by simpa using h);simp only[jm] at*;refine⟨by omega,by omega,vo _ (a _ (L.kJ h)) ⟨fun c=> ?_,fun c=>⟨iZ6,i+1,⟨⟨by simp,tZ⟩,tZ⟩,⟨by omega,fun b d=> ?_⟩,by omega⟩⟩⟩;rw[yp (p:=kC (α:=(List SpD)) f.F) h hi.2 c];by_cases e:b=i;subst e;exact c;exact hi.2 b (by omega);have h:l.length<=i:=(by simpa using h);rw[qW (p:=kC (α:=(List SpD)) f.F) h hi.2]
theorem nz:wN PR 193 nq:=vZ nr oX Tryz.func193 kcN koN
theorem lc:fF:=by
 rintro⟨l,f,⟨⟩⟩ a;refine⟨a,?_⟩;exact jP (·,()) (iV (kC (α:=(List SpD)) f.F) l)
theorem fL:wN PR 148 fE:=wt lc Tryz.func148 (kcC nz kcN) koN
theorem mb:i8:=by
 rintro⟨l,f,⟨⟩⟩ a g;refine⟨⟨0,⟨⟨rfl,tZ⟩,tZ⟩,jt _,fun b c=>by omega⟩,fun i hi=>⟨fun h=> ?_,fun h=> ?_⟩⟩;have h:i<l.length:=(by simpa using h);simp only[jm] at*;refine⟨by omega,by omega,vo _ (a _ (L.kJ h)) ⟨fun c=> ?_,fun c=>⟨iZ6,i+1,⟨⟨by simp,tZ⟩,tZ⟩,⟨by omega,fun b d=> ?_⟩,by omega⟩⟩⟩;rw[yp (p:=kC (α:=BkD) f.F) h hi.2 c];by_cases e:b=i;subst e;exact c;exact hi.2 b (by omega);have h:l.length<=i:=(by simpa using h);rw[qW (p:=kC (α:=BkD) f.F) h hi.2]
theorem ld:wN PR 194 iZ:=vZ i7 mb Tryz.func194 kcN koN
theorem d7:di:=by
 rintro⟨l,f,⟨⟩⟩ a;refine⟨a,?_⟩;exact jP (·,()) (iV (kC (α:=BkD) f.F) l)
theorem dl:wN PR 150 dh:=wt d7 Tryz.func150 (kcC ld kcN) koN
theorem oY:ny:=by
 rintro⟨l,f,⟨⟩⟩ a g;refine⟨⟨0,⟨⟨rfl,tZ⟩,tZ⟩,jt _,fun b c=>by omega⟩,fun i hi=>⟨fun h=> ?_,fun h=> ?_⟩⟩;have h:i<l.length:=(by simpa using h);simp only[jm] at*;refine⟨by omega,by omega,vo _ (a _ (L.kJ h)) ⟨fun c=> ?_,fun c=>⟨iZ6,i+1,⟨⟨by simp,tZ⟩,tZ⟩,⟨by omega,fun b d=> ?_⟩,by omega⟩⟩⟩;rw[yp (p:=kC (α:=ShD) f.F) h hi.2 c];by_cases e:b=i;subst e;exact c;exact hi.2 b (by omega);have h:l.length<=i:=(by simpa using h);rw[qW (p:=kC (α:=ShD) f.F) h hi.2]
theorem nC:wN PR 153 nv:=vZ nx oY Tryz.func153 kcN koN
theorem lf:fH:=by
 rintro⟨l,f,⟨⟩⟩ a;refine⟨a,?_⟩;exact jP (·,()) (iV (kC (α:=ShD) f.F) l)
theorem fM:wN PR 105 fG:=wt lf Tryz.func105 (kcC nC kcN) koN
theorem Bz:xA:=by
 intro d h;exact vo _ h rfl
theorem xD:wN PR 147 xz:=wt Bz Tryz.func147 kcN koN
theorem Gk:EA:=by
 intro d h;exact⟨fun g a=>⟨h g a,tZ⟩,jP (·,()) (tK d.snd.fst.2 d.fst)⟩
theorem ED:wN PR 98 Ez:=wt Gk Tryz.func98 (kcC i9 (kcC xD kcN)) koN
theorem xE:tT:=by
 intro d h;exact vo _ h rfl
theorem t7:wN PR 149 tS:=wt xE Tryz.func149 kcN koN
theorem EE:Bs:=by
 intro d h;exact⟨fun g a=>⟨h g a,tZ⟩,jP (·,()) (tK d.snd.fst.2 d.fst)⟩
theorem BA:wN PR 102 Br:=wt EE Tryz.func102 (kcC fL (kcC t7 kcN)) koN
theorem rV:oU:=by
 intro d h;exact vo _ h rfl
theorem oZ:wN PR 151 oT:=wt rV Tryz.func151 kcN koN
theorem xF:tV:=by
 intro d h;exact⟨fun g a=>⟨h g a,tZ⟩,jP (·,()) (tK d.snd.fst.2 d.fst)⟩
theorem t8:wN PR 103 tU:=wt xF Tryz.func103 (kcC dl (kcC oZ kcN)) koN
theorem xG:tX:=by
 intro d h;exact vo _ h rfl
theorem ua:wN PR 152 tW:=wt xG Tryz.func152 kcN koN
theorem EF:Bu:=by
 intro d h;exact⟨fun g a=>⟨h g a,tZ⟩,jP (·,()) (tK d.snd.fst.2 d.fst)⟩
theorem BB:wN PR 104 Bt:=wt EF Tryz.func104 (kcC fM (kcC ua kcN)) koN
theorem Ph:LW:=fun _=>rfl
theorem L5:wN PR 96 LV:=wt Ph Tryz.func96 kcN koN
theorem Pi:LY:=by
 rintro⟨l,d,f,⟨⟩⟩ a _ _;exact⟨fun _=>a,rfl⟩
theorem L6:wN PR 97 LX:=wt Pi Tryz.func97 (kcC ED kcN) koN
theorem Pj:L0:=by
 rintro⟨b,d,⟨⟩⟩ h;have h:(wG d).length<4611686018427387904:=h;exact⟨L.Cs (by show _<=((wG d).length:Int)-1;omega) (by show((wG d).length:Int)-1<=_;omega),rfl⟩
theorem L7:wN PR 99 LZ:=wt Pj Tryz.func99 (kcC rT kcN) koN
theorem Pk:L2:=by
 unfold L2 jkM jkL Prod.q4;rintro⟨s,d,⟨⟩⟩ h;refine⟨fun a=> ?_,fun b=>⟨fun a=> ?_,rfl⟩⟩;have h:=h a;exact L.Cs (by simp only at*;omega) (by simp only at*;omega);have h:=b a;exact L.Cs (by simp only at*;omega) (by simp only at*;omega)
theorem L8:wN PR 101 L1:=wt Pk Tryz.func101 (kcC rT kcN) koN
theorem ZR (s:SpD):A4 s=uS s:=by
 unfold A4 uS;rw[j8];simp only[ji,jv];omega
theorem ZS (n:Nat) (b:BkD):FH n b=mn n b:=by
 unfold FH mn kA;rw[j8];simp only[ji,jv];omega
theorem ZT (nb a:Nat) (s:ShD):Nu nb a s=ic nb a s:=by
 unfold Nu ic kA;rw[j8];simp only[ji,jv];omega
theorem ZU (d:DyD):(((((((decide (((kH d).length:Int)<=4)&&kA ((wG d).length:Int) 1 5)&&(wG d).all (fun r=>decide ((r.length:Int)=(wG d).length)&&r.all uS))&&(kH d).all (mn (wG d).length))&&kA (Nq d) 0 300)&&kA (R9 d) 0 1440)&&decide (((qG d).length:Int)<=30))&&(qG d).all (ic (kH d).length (kI (kD d)).length))=wZ d:=by
 unfold wZ;have e:(fun(r:List SpD)=>decide ((r.length:Int)=(wG d).length)&&r.all uS)=bX (wG d).length:=by
  funext r;unfold bX;congr 1;exact decide_eq_decide.2 (by omega)
 rw[e];cases (wG d).all (bX (wG d).length)<;>cases (kH d).all (mn (wG d).length)<;>cases (qG d).all (ic (kH d).length (kI (kD d)).length)<;>simp only[kh,Bool.and_true,Bool.false_and,kA]
 rw[j8];simp only[ji,jv];omega
theorem WE:Te:=by
 unfold Te ji8 jjF jiN jj7 Prod.q4;rintro⟨d,⟨⟩⟩ _ _;refine⟨fun _ _ _=>⟨fun _ _=>tZ,tZ⟩,fun _ _ _=>tZ,fun _=>⟨fun _ _ _=>tZ,?_⟩⟩;have a:(kC fun(x:SpD×Unit)=>(A4 x.fst,()))=uS:=funext ZR;have e2:(kC fun(x:BkD×Unit)=>(FH (wG d).length x.fst,()))=mn (wG d).length:=funext (ZS _);have b:(kC fun(x:ShD×Unit)=>(Nu (kH d).length (kI (kD d)).length x.fst,()))=ic (kH d).length (kI (kD d)).length:=funext (ZT _ _);simp only;rw[a,e2,b];exact jP (·,()) (ZU d)
theorem Tk:wN PR 67 Td:=wt WE Tryz.func67 (kcC rT (kcC L5 (kcC L6 (kcC L7 (kcC L8 (kcC BA (kcC t8 (kcC BB kcN)))))))) koN
theorem EG:Bw:=by
 intro d;simp
theorem BC:wN PR 94 Bv:=wt EG Tryz.func94 kcN koN
theorem xH:t6:=by
 unfold t6 jiO;rintro⟨a,b,⟨⟩⟩;refine⟨fun h=>(by cases h),fun _=>⟨fun h=>(by cases h),fun _=>⟨fun h=> ?_,fun h=>⟨fun c=> ?_,fun c=> ?_⟩⟩⟩⟩;have h:a<b:=ja h;simp only;unfold db;rw[jd h];have h:¬a<b:=je h;have c:b<a:=ja c;simp only;unfold db;rw[jc h,jd c];have h:¬a<b:=je h;have c:¬b<a:=je c;simp only;unfold db;rw[jc h,jc c]
theorem yA:wN PR 57 tY:=wt xH Tryz.func57 (kcC BC kcN) koN
theorem Tl {l:List Int} {i:Nat} (h:i<l.length) (a:∀b:Nat,b<i->nth l b=0) (hi:nth l i≠0):yD l=nth l i:=by
 have e:l.find? (fun n=>decide (n≠0))=some (nth l i):=by
  rw[List.find?_eq_some_iff_getElem];refine⟨jH hi,i,h,by rw[L.wz h],fun j c=> ?_⟩;have:=a j c;rw[L.wz (by omega)] at this;simp[this]
 unfold yD;rw[e]
theorem L9 {l:List Int} (a:∀b:Nat,b<l.length->nth l b=0):yD l=0:=by
 have e:l.find? (fun n=>decide (n≠0))=none:=by
  rw[List.find?_eq_none];intro x c;obtain⟨i,hi,rfl⟩:=L.mem_iff.1 c;simp[a i hi]
 unfold yD;rw[e]
theorem Ma:Jg:=by
 rintro⟨l,⟨⟩⟩ f;refine⟨⟨0,⟨⟨rfl,tZ⟩,tZ⟩,jt _,fun b c=>by omega⟩,fun x d=>⟨fun h=> ?_,fun h=> ?_⟩⟩;have h:x<l.length:=(by simpa using h);simp only[jm];refine⟨by omega,by omega,fun a=> ?_,fun a=>⟨L.Cs (by omega) (by simp only at f;omega),x+1,⟨⟨by simp,tZ⟩,tZ⟩,⟨h,fun b c=> ?_⟩,by omega⟩⟩;rw[Tl h d.2 (ja a)];by_cases e:b=x;subst e;exact jZ.1 (je a);exact d.2 b (by omega);have h:l.length<=x:=(by simpa using h);rw[L9 (fun b c=>d.2 b (by simp only at c;omega))]
theorem ce:wN PR 56 Je:=vZ Jf Ma Tryz.func56 kcN koN
theorem Gl:EC:=fun _=>rfl
theorem EH:wN PR 108 EB:=wt Gl Tryz.func108 (kcC yA (kcC ce kcN)) koN
theorem Tm:Pg:=fun _=>rfl
theorem Pl:wN PR 73 Pf:=wt Tm Tryz.func73 (kcC yA (kcC ce kcN)) koN
theorem BD:xC:=by
 rintro⟨l,⟨⟩⟩ b β a;have b:l.length<=100000:=b;refine⟨fun h=>⟨?_,rfl⟩,fun _=>⟨by simp only;omega,by simp,rfl⟩⟩;have:l=[]:=a h;rw[this]
theorem xI:ga PR 107 xB:=AW BD Tryz.func107 kcN koN
theorem ub:rS:=by
 unfold rS ji9 jhO jkO jkN jhx;rintro⟨l,⟨⟩⟩ m C;have m:l.length<=100000:=m;obtain⟨eq,k⟩:∃eq,eq=yN:=⟨_,rfl⟩;have A:∀a b:ShD,decide (a=b)=eq a b:=fun a b=>by rw[k];rfl
 simp only[<-k,A,jm];refine⟨fun h=>⟨?_,tZ⟩,fun h=> ?_⟩;have h:(l.length:Int)<2:=ja h;rw[L.comp_short (by omega)];have h:¬(l.length:Int)<2:=je h;refine⟨⟨1,⟨⟨rfl,tZ⟩,tZ⟩,jj _,by omega,?_⟩,fun i hi _=>⟨fun g=> ?_,fun g=>⟨?_,tZ⟩⟩⟩;rw[L.comp_short];rw[j0];omega;have g:(i:Int)<l.length:=ja g;obtain⟨s,D,f⟩:=hi;have z:((i:Int)-1).toNat=i-1:=(by omega);rw[z];have n:=L.comp_take (eq:=eq) (l:=l) s (by omega:i<l.length);refine⟨by omega,g,by unfold kU;omega,by omega,by omega,fun j=>⟨by omega,by omega,zo _,⟨(1,l),⟨⟨rfl,?_,tZ⟩,rfl,tZ⟩,jj _,by omega,rfl,?_,rfl,?_⟩,fun x q _=>⟨fun e=> ?_,fun e=> ?_⟩⟩,fun j=>⟨iZ6,i+1,⟨⟨by simp,tZ⟩,tZ⟩,⟨by omega,by omega,?_⟩,by omega⟩⟩;unfold pG;rw[n,jd j,jY,f,j0];omega;rw[n,jd j,jY,f,j0];show l.take i=l.take (min i l.length);congr 1;omega;rw[n,jd j,jY,f,j0];omega;have e:(x.1:Int)<((l.length-i:Nat):Int):=ja e;have r:=q;obtain⟨G,H,I,v,J,w⟩:=r;obtain⟨E,F⟩:=L.inv9_next s q (by omega);have y:((x.1:Int)-1).toNat=x.1-1:=(by omega);have o:i+(x.1-1)=i+x.1-1:=(by omega);rw[y,o];have p:pG eq l (i+x.1)=((bO eq (l.take (i+x.1))).length:Int):=rfl;refine⟨by omega,e,by unfold kU;omega,by omega,by omega,fun c=> ?_,fun c=> ?_⟩;have c:eq (nth x.2 (i+x.1)) (nth x.2 (i+x.1-1))=false:=(by simpa using c);obtain⟨t,u⟩:=E c;refine⟨by omega,e,by omega,by omega,by unfold kU;omega,iZ6,(x.1+1,_),⟨⟨by simp,t.symm,tZ⟩,rfl,tZ⟩,u,by show _-(x.1+1)<_;omega⟩;have c:eq (nth x.2 (i+x.1)) (nth x.2 (i+x.1-1))=true:=(by simpa using c);obtain⟨t,u⟩:=F c;exact⟨iZ6,(x.1+1,x.2),⟨⟨t.symm,by simp,tZ⟩,rfl,tZ⟩,u,by show _-(x.1+1)<_;omega⟩;have e:¬(x.1:Int)<((l.length-i:Nat):Int):=je e;obtain⟨G,H,I,v,J,w⟩:=q;have p:pG eq l (i+x.1)=((bO eq (l.take (i+x.1))).length:Int):=rfl;have d:l.take (i+x.1)=l:=zp (by omega);rw[d] at p v w;rw[p];simp only[jm];have B:=L.comp_len (eq:=eq) l;refine⟨by omega,by omega,zo _,by omega,by omega,by omega,?_,⟨?_,tZ⟩⟩;simp only[jK,j0,jW];omega;congr 1;rw[show(bO eq l).length-Int.toNat 0=(bO eq l).length from rfl];rw[List.take_left' (by rw[j0];omega)];exact v.symm;rw[n,jc (by rw[j];simp),f];exact(L.kT (by omega)).symm;have g:¬(i:Int)<l.length:=je g;obtain⟨s,D,f⟩:=hi;have d:l.take i=l:=zp (by omega);rw[d] at f;rw[f]
theorem rW:ga PR 109 rQ:=AV rR ub Tryz.func109 kcN koN
theorem bV:ga PR 72 oV:=
 Ec Tryz.sortSh 47 rfl (jB (by kernel_rfl)) Tryz.isAgg47 Tryz.sizeOf47 (qQ Tryz.func72 (c:=wK Tryz.f72) (by kernel_rfl) (by kernel_rfl))
theorem ZV:iW dR:=by
 have e:dR=UR (fun a b=>db (yZ a) (yZ b)) (UR (fun a b=>db (Kw a) (Kw b)) (UR (fun a b=>db (YV a) (YV b)) (UR (fun a b=>db (bP a) (bP b)) (fun a b=>db (au a) (au b))))):=by
  funext a b;unfold dR;simp only[wP,UR]
  split<;>(try rfl);split<;>(try rfl);split<;>(try rfl);split<;>(try rfl);split<;>(try rfl)
  rename_i h;exact(jZ.1 h).symm
 rw[e];exact rP (pC nj yZ) (rP (pC nj Kw) (rP (pC nj YV) (rP (pC nj bP) (pC nj au))))
theorem Tn {a b:ShD} (h:dR a b=0):a=b:=by
 unfold dR at h;rw[wP] at h
 split at h
 contradiction;rename_i c;rw[wP] at h
 split at h
 contradiction;rename_i d;rw[wP] at h
 split at h
 contradiction;rename_i e;rw[wP] at h
 split at h
 contradiction;rename_i f;rw[vb] at h;have c:=aU.1 (jZ.1 c);have d:=aU.1 (jZ.1 d);have e:=aU.1 (jZ.1 e);have f:=aU.1 (jZ.1 f);have g:=aU.1 h;obtain⟨i,j,k,l,m,⟨⟩⟩:=a;obtain⟨n,o,p,q,r,⟨⟩⟩:=b;have c:i=n:=c;have d:j=o:=d;have e:k=p:=e;have f:l=q:=f;have g:m=r:=g;rw[c,d,e,f,g]
theorem ZW (l:List ShD):vB (kK tSh fun x=>(dR x.1 x.2.1,())) l:=CG ZV (fun _ _ _ _ h=>Tn h)
theorem WG (l:List ShD):(wS l).length<=l.length:=by
 unfold wS;refine jF (L.comp_len _) ?_;rw[(wJ l).length_eq];exact jj _
theorem Mb:Ji:=by
 unfold Ji jj8;rintro⟨l,⟨⟩⟩ a;exact⟨a,fun _ _ _ _=>tZ,ZW l,by rw[(wJ (lt:=kK tSh fun x=>(dR x.1 x.2.1,())) l).length_eq];exact a,rfl,rfl⟩
theorem uc:ga PR 69 Jh:=AW Mb Tryz.func69 (kcC EH kcN) (koC xI (koC bV (koC rW koN)))
theorem Pn:L4:=by
 unfold L4 jj9;rintro⟨s,⟨m,⟨⟩⟩,⟨⟩⟩ h;have h:YG m:=h;have:=h (yZ s);have this:0<=w4 0 (wv .int s.1 m)/\w4 0 (wv .int s.1 m)<=200000:=this;exact⟨L.Cs (by simp only;omega) (by simp only;omega),rfl,rfl⟩
theorem Mc:ga PR 106 L3:=AW Pn Tryz.func106 kcN koN
theorem fN {m:List (Int×Int)} {l:List ShD} {i:Nat} (h:i<l.length):yk m l (i+1)=oK (yk m l i) (nth l i):=by
 unfold yk;rw[L.kT h,jz];rfl
theorem jbA (l:List ShD):∀i,i<=l.length->∀k,0<=w4 0 (wv .int k (yk [] l i))/\w4 0 (wv .int k (yk [] l i))<=(i:Int)
 |0,_,k=>⟨zo 0,zo 0⟩
 |i+1,hi,k=>by
  have b:=jbA l i (by omega)
  rw[fN (by omega)]
  unfold oK
  by_cases e:k=yZ (nth l i)
  rw[e]
  have a:=M.sD (kt:= .int) (yZ (nth l i)) (w4 0 (wv .int (yZ (nth l i)) (yk [] l i))+1) (yk [] l i)
  rw[a]
  have:=b (yZ (nth l i))
  show 0<=w4 0 (wv .int (yZ (nth l i)) (yk [] l i))+1/\w4 0 (wv .int (yZ (nth l i)) (yk [] l i))+1<=_
  omega
  have a:=M.eN (kt:= .int) (k:=yZ (nth l i)) (k':=k) e (w4 0 (wv .int (yZ (nth l i)) (yk [] l i))+1) (yk [] l i)
  rw[a]
  have:=b k
  omega
theorem ZX {m:List (Int×Int)} {l:List ShD} {i:Nat} (h:i<l.length) (a:∀b:Nat,b<i->uX m l b=false) (hi:uX m l i=true):nX m l=(i:Int)/\YF m l=i+1:=by
 have e:(List.range l.length).findIdx? (uX m l)=some i:=by
  rw[ke];refine⟨by simpa using h,by simpa using hi,fun j c=>by simp[a j c]⟩
 unfold nX YF yO;rw[e];exact⟨rfl,rfl⟩
theorem HN {m:List (Int×Int)} {l:List ShD} (a:∀b:Nat,b<l.length->uX m l b=false):nX m l= -1/\YF m l=l.length:=by
 have e:(List.range l.length).findIdx? (uX m l)=none:=by
  rw[List.findIdx?_eq_none_iff];intro x c;exact a x (jp.1 c)
 unfold nX YF yO;rw[e];exact⟨rfl,rfl⟩
theorem lg:fK:=by
 rintro⟨l,⟨m,⟨⟩⟩,⟨⟩⟩ j f n;have f:m=[]:=f;subst f;have j:l.length<=100000:=j;refine⟨⟨0,⟨⟨rfl,tZ⟩,rfl,tZ⟩,jt _,fun b i=>by omega⟩,fun x a=>⟨fun h=> ?_,fun h=> ?_⟩⟩;have h:x<l.length:=(by simpa using h);simp only[jm];refine⟨by omega,by omega,fun k=> ?_,fun d=> ?_,fun d=>⟨iZ6,x+1,⟨⟨by simp,tZ⟩,⟨tZ,tZ⟩,(fN h).symm,tZ⟩,⟨h,fun b i=> ?_⟩,by omega⟩⟩;have:=jbA l x (by omega) k;omega;obtain⟨c,e2⟩:=ZX h a.2 d;unfold sr;rw[c,e2,fN h];exact⟨rfl,rfl⟩;by_cases e:b=x;subst e;exact d;exact a.2 b (by omega);have h:l.length<=x:=(by simpa using h);obtain⟨c,e2⟩:=HN (m:=[]) (l:=l) (fun b i=>a.2 b (by omega));have g:x=l.length:=(by have:=a.1;simp only at this;omega);unfold sr;rw[c,e2,g];exact⟨rfl,rfl⟩
theorem fO:ga PR 153 fI:=AV fJ lg Tryz.func153 kcN (koC Mc koN)
theorem dm:cK:=fun _ a b=>⟨a,b,rfl,rfl⟩
theorem cL:ga PR 105 cJ:=AW dm Tryz.func105 kcN (koC fO koN)
theorem WH:Tg:=fun _ h=>⟨h,rfl,rfl⟩
theorem To:wN PR 68 Tf:=wt WH Tryz.func68 kcN (koC cL koN)
theorem ZY {c:CrD} (h:kZ c=true):qp c (0,1,0,0,0,1,())=true:=by
 obtain⟨a,_⟩:=wI h;unfold qp;refine jH ?_;refine⟨by decide,?_,by decide,?_,by decide,by decide,by decide,by decide,by decide,by decide,by decide,by decide,by decide⟩;show(0:Int)<=U.la c-1;omega;show(1:Int)<=U.la c-1;omega
theorem WI (c:CrD):qV c (0,1,0,0,0,1,())=if kZ c=false then 30 else 0:=by
 unfold qV;by_cases h:kZ c=false;rw[jd h,jd h];rw[jc h,jc h,jc (by rw[ZY (by simpa using h)];simp)]
theorem Jj:Gj:=by
 unfold Gj jka;rintro⟨d,⟨⟩⟩;have e:=WI d.1;simp only[e];by_cases f:kZ d.1=false;rw[jd f];refine⟨fun _=> ?_,fun h=>by simp at h⟩;have f:kZ (kD d)=false:=f;unfold Av;rw[jd f];rw[jc f];have c:kZ (kD d)=true:=eq_true_of_ne_false f;refine⟨fun h=>by simp at h,fun _ k=>⟨⟨0,⟨⟨rfl,tZ⟩,tZ⟩,jt _,fun b j=>by omega⟩,fun x l=>⟨fun h=> ?_,fun h=> ?_⟩⟩⟩;have h:(x:Int)<(kH d).length:=ja h;have h:x<(kH d).length:=(by omega);have k:(kH d).length<4611686018427387904:=k;have e2:qV d.1 (nth d.2.2.1 x).1=if qp (kD d) (yY (nth (kH d) x))=false then 31 else 0:=by
  show(if kZ (kD d)=false then(30:Int) else if qp (kD d) (yY (nth (kH d) x))=false then 31 else 0)=_;rw[jc (by rw[c];simp)]
 simp only[jm,e2];refine⟨by omega,by show(x:Int)<(kH d).length;omega,fun a=> ?_,fun a=>⟨iZ6,x+1,⟨⟨by simp,tZ⟩,tZ⟩,⟨h,fun b j=> ?_⟩,(by show(kH d).length-(x+1)<(kH d).length-x;omega)⟩⟩;have a:=ja a;by_cases g:qp (kD d) (yY (nth (kH d) x))=false;rw[jd g];unfold Av;rw[jc (by rw[c];simp),jd];unfold Nr;exact L.all_false h g;rw[jc g] at a;exact absurd rfl a;have a:=je a;by_cases m:b=x;subst m;by_cases g:qp (kD d) (yY (nth (kH d) b))=false;rw[jd g] at a;exact absurd (by decide) a;exact eq_true_of_ne_false g;exact l.2 b (by omega);have h:¬(x:Int)<(kH d).length:=je h;have h:(kH d).length<=x:=(by omega);unfold Av;rw[jc (by rw[c];simp),jc];rw[Bool.not_eq_false];unfold Nr;rw[jR];intro b j;obtain⟨i,hi,rfl⟩:=L.mem_iff.1 j;exact l.2 i (by omega)
theorem Gm:wN PR 66 Gh:=vZ Gi Jj Tryz.func66 (kcC HK kcN) koN
theorem WJ:Ti:=by
 unfold Ti Prod.q4;rintro⟨d,⟨⟩⟩ c;refine⟨fun h=> ?_,fun h=>⟨fun b=> ?_,fun b=>⟨c,jF (WG _) c,fun a=> ?_,fun a=> ?_⟩⟩⟩;have h:=ja h;simp only at h⊢;unfold wj;rw[jd h];have h:=je h;simp only at h⊢;unfold wj;rw[jc h,jd (by simpa using b)];have h:=je h;simp only at h⊢;unfold wj;rw[jc h,jc (by simpa using b)];have a:UT (wS (qG d))=true:=a;rw[jd a];have h:=je h;simp only at h⊢;unfold wj;rw[jc h,jc (by simpa using b)];have a:UT (wS (qG d))=false:=a;rw[jc (by rw[a];simp)]
theorem HO:wN PR 40 Th:=wt WJ Tryz.func40 (kcC Gm (kcC Tk (kcC To kcN))) (koC uc koN)
namespace U
def UG {α:Type} [Inhabited α] (l:List α) (j k:Nat):List α:=(l.set j (nth l k)).set k (nth l j)
def ph {α:Type} [Inhabited α] (lt:α->α->Bool):List α->Nat->List α
 |l,0=>l
 |l,j+1=>if lt (nth l (j+1)) (nth l j)=true then ph lt (UG l (j+1) j) j else l
def eg {α:Type} [Inhabited α] (lt:α->α->Bool) (l:List α) (i:Nat):List α:=(List.range i).foldl (ph lt) l
def lP {α:Type} [Inhabited α] (lt:α->α->Bool) (l:List α):List α:=eg lt l l.length
def su {α:Type} (lt:α->α->Bool) (x:α):List α->List α
 |[]=>[x]
 |y::r=>if lt x y=true then y::su lt x r else x::y::r
end U
namespace IS
variable {α:Type} [Inhabited α] {lt:α->α->Bool}
theorem swap_perm {l:List α} {j k:Nat} (a:j<l.length) (hk:k<l.length):(UG l j k).Perm l:=by
 unfold UG;rw[L.wz a,L.wz hk];exact List.set_set_perm a hk
theorem sink_perm:∀(j:Nat) (l:List α),j<l.length->(ph lt l j).Perm l
 |0,l,_=>List.Perm.refl _
 |j+1,l,h=>by
  unfold ph
  have a:=swap_perm (l:=l) (j:=j+1) (k:=j) h (by omega)
  split
  exact(sink_perm j _ (by rw[a.length_eq];omega)).trans a
  exact List.Perm.refl _
theorem part_succ (lt:α->α->Bool) (l:List α) (i:Nat):eg lt l (i+1)=ph lt (eg lt l i) i:=by
 simp[eg,jN]
theorem part_perm {l:List α}:∀(i:Nat),i<=l.length->(eg lt l i).Perm l
 |0,_=>List.Perm.refl _
 |i+1,h=>by
  rw[part_succ]
  have a:=part_perm (l:=l) i (by omega)
  exact(sink_perm i _ (by rw[a.length_eq];omega)).trans a
theorem isort_perm (lt:α->α->Bool) (l:List α):(lP lt l).Perm l:=part_perm _ (jj _)
theorem part_isort {l:List α} {i:Nat} (a:1<=i) (b:i<=max l.length 1) (c:l.length<=i):eg lt l i=lP lt l:=by
 unfold lP;by_cases h:l.length=0;have:i=1:=(by omega);subst this;rw[h];rfl;have:i=l.length:=(by omega);rw[this]
theorem insR_len {α:Type} {lt:α->α->Bool} (x:α):∀q:List α,(su lt x q).length=q.length+1
 |[]=>rfl
 |y::r=>by
  unfold su
  split
  simp[insR_len x r]
  simp
theorem nth_mid (a:List α) (x:α) (s:List α):nth (a++x::s) a.length=x:=by
 rw[L.wz (by simp)];simp
theorem sink_app:∀(q:List α) (x:α) (s:List α),ph lt (q.reverse++x::s) q.length=(su lt x q).reverse++s
 |[],x,s=>rfl
 |y::r,x,s=>by
  have e:(y::r).reverse++x::s=r.reverse++y::x::s:=by simp
  rw[e]
  have g:nth (r.reverse++y::x::s) (r.length+1)=x:=by
   have:=nth_mid (r.reverse++[y]) x s;simpa using this
  have h:nth (r.reverse++y::x::s) r.length=y:=by
   have:=nth_mid r.reverse y (x::s);simpa using this
  show(if lt (nth _ (r.length+1)) (nth _ r.length)=true then ph lt (UG _ (r.length+1) r.length) r.length else _)=_;rw[g,h];unfold su
  split
  .have a:UG (r.reverse++y::x::s) (r.length+1) r.length=r.reverse++x::(y::s):=by
    unfold UG;rw[g,h];apply List.ext_getElem?;intro k;simp only[List.getElem?_set,zA];by_cases b:r.length=k
    .subst b;rw[jd rfl,jd (by simp)];rw[jx (by simp)];simp
    .rw[jc b];by_cases c:r.length+1=k
     .subst c;rw[jd rfl,jd (by simp)];rw[jx (by simp)];simp
     .rw[jc c];by_cases f:k<r.length
      .rw[jA (by simpa using f),jA (by simpa using f)]
      .rw[jx (by simp;omega),jx (by simp;omega)];obtain⟨d,i⟩:∃d,k-r.reverse.length=d+2:=⟨k-r.length-2,by simp;omega⟩;rw[i];simp
   rw[a,sink_app r x (y::s)];simp
  .simp
theorem fold_len {α:Type} {lt:α->α->Bool}:∀(l q:List α),(l.foldl (fun q x=>su lt x q) q).length=q.length+l.length
 |[],q=>rfl
 |x::l,q=>by
  simp only[List.foldl_cons,ze]
  rw[fold_len l,insR_len];omega
theorem part_eq (l:List α):∀i,i<=l.length->eg lt l i=((l.take i).foldl (fun q x=>su lt x q) []).reverse++l.drop i
 |0,_=>by simp[eg]
 |i+1,h=>by
  rw[part_succ,part_eq l i (by omega)]
  have b:l.drop i=nth l i::l.drop (i+1):=by
   rw[L.wz (by omega)];exact ki (by omega)
  rw[b];have a:((l.take i).foldl (fun q x=>su lt x q) []).length=i:=(by rw[fold_len];simp;omega);have:=sink_app (lt:=lt) ((l.take i).foldl (fun q x=>su lt x q) []) (nth l i) (l.drop (i+1));rw[a] at this;rw[this,L.kT (by omega),jz];rfl
theorem isort_eq (l:List α):lP lt l=(l.foldl (fun q x=>su lt x q) []).reverse:=by
 unfold lP;rw[part_eq l _ (jj _)];simp
theorem insR_mem {α:Type} {lt:α->α->Bool} {x z:α}:∀{q:List α},z∈su lt x q↔z=x\/z∈q
 |[]=>by simp[su]
 |y::r=>by
  unfold su
  split
  simp only[jk,insR_mem (q:=r)]
  constructor
  rintro(h|h|h)<;>simp[h]
  rintro(h|h|h)<;>simp[h]
  simp
theorem insR_desc {α:Type} {lt:α->α->Bool} {x:α}:∀{q:List α},vB lt (x::q)->q.Pairwise (fun a b=>lt a b=false)->(su lt x q).Pairwise (fun a b=>lt a b=false)
 |[],_,_=>by simp[su]
 |y::r,ho,h=>by
  rw[zF] at h
  unfold su
  split
  rename_i d
  rw[zF]
  refine⟨fun z c=> ?_,insR_desc (ho.sub (fun z c=>by rcases jk.1 c with h|h;exact h▸zf;exact jl _ (jl _ h))) h.2⟩
  rcases insR_mem.1 c with rfl|c
  exact ho.asymm (by simp) (by simp) d
  exact h.1 z c
  rename_i d
  have d:lt x y=false:=by simpa using d
  rw[zF]
  refine⟨fun z c=> ?_,zF.2 h⟩
  rcases jk.1 c with rfl|c
  exact d
  exact ho.ntrans (by simp) (by simp) (by simp[c]) d (h.1 z c)
theorem fold_desc {α:Type} {lt:α->α->Bool}:∀(l q:List α),vB lt (l++q)->q.Pairwise (fun a b=>lt a b=false)->(l.foldl (fun q x=>su lt x q) q).Pairwise (fun a b=>lt a b=false)
 |[],q,_,h=>h
 |x::l,q,ho,h=>by
  refine fold_desc l _ (ho.sub (fun z c=> ?_)) (insR_desc (ho.sub (fun z c=> ?_)) h)
  rcases ju.1 c with c|c
  simp[c]
  rcases insR_mem.1 c with rfl|c
  simp
  simp[c]
  rcases jk.1 c with rfl|c
  simp
  simp[c]
theorem isort_asc {l:List α} (a:vB lt l):SY lt (lP lt l):=by
 rw[isort_eq];unfold SY;rw[List.pairwise_reverse];exact fold_desc l [] (by simpa using a) (by simp)
theorem isort_sort {l:List α} (a:vB lt l):lP lt l=kG lt l:=tJ a (isort_perm lt l) (isort_asc a)
end IS
end Go.X
namespace Go.X
open U
open Go.Proofs
def U.len8tab:ByteArray:=⟨#[0,1,2,2,3,3,3,3,4,4,4,4,4,4,4,4,5,5,5,5,5,5,5,5,5,5,5,5,5,5,5,5,6,6,6,6,6,6,6,6,6,6,6,6,6,6,6,6,6,6,6,6,6,6,6,6,6,6,6,6,6,6,6,6,7,7,7,7,7,7,7,7,7,7,7,7,7,7,7,7,7,7,7,7,7,7,7,7,7,7,7,7,7,7,7,7,7,7,7,7,7,7,7,7,7,7,7,7,7,7,7,7,7,7,7,7,7,7,7,7,7,7,7,7,7,7,7,7,8,8,8,8,8,8,8,8,8,8,8,8,8,8,8,8,8,8,8,8,8,8,8,8,8,8,8,8,8,8,8,8,8,8,8,8,8,8,8,8,8,8,8,8,8,8,8,8,8,8,8,8,8,8,8,8,8,8,8,8,8,8,8,8,8,8,8,8,8,8,8,8,8,8,8,8,8,8,8,8,8,8,8,8,8,8,8,8,8,8,8,8,8,8,8,8,8,8,8,8,8,8,8,8,8,8,8,8,8,8,8,8,8,8,8,8,8,8,8,8,8,8,8,8,8,8,8,8]⟩
abbrev rwI:Sh:= .cl (.row 3 .int .unk)
namespace U
abbrev FC:=Int×Int×Unit->Int×Unit
abbrev cg (F:FC):Int->Int->Bool:=kK .int F
def lQ (p:Int×Int×Unit->List Prop) (l:List Int):Prop:=∀x∈l,∀y∈l,kV (p (x,y,()))
def sw (n:Int):Int:=if n=0 then 0 else if n<2 then 1 else if n<4 then 2 else if n<8 then 3 else 4
end U
def Jk:wD:=⟨[.val (.uint .u64)],[.int],false,fun d=>[0<=d.1/\d.1<=12],fun d=>(sw d.1,())⟩
abbrev jkb (d:Int×Unit):=(d.1/(2:Int)^Int.toNat 32/(2:Int)^Int.toNat 16/(2:Int)^Int.toNat 8)
abbrev jkc (d:Int×Unit):=(d.1/(2:Int)^Int.toNat 32/(2:Int)^Int.toNat 16)
abbrev jke (d:Int×Unit):=(d.1/(2:Int)^Int.toNat 32/(2:Int)^Int.toNat 8)
abbrev jkf (d:Int×Unit):=(d.1/(2:Int)^Int.toNat 16/(2:Int)^Int.toNat 8)
abbrev jkP (d:Int×Unit):=(256<=d.1/(2:Int)^Int.toNat 32/(2:Int)^Int.toNat 16)
def Jl:Prop:=∀(d:Int×Unit),0<=d.1/\d.1<=12->(decide (4294967296<=d.1)=true->(0:Int)<=32/\(32:Int)<=64/\(decide (65536<=d.1/(2:Int)^Int.toNat 32)=true->(0:Int)<=16/\(16:Int)<=64/\kU ((32:Int)+16)/\(decide (jkP d)=true->(0:Int)<=8/\(8:Int)<=64/\kU ((32:Int)+16+8)/\0<=d.1/(2:Int)^Int.toNat 32/(2:Int)^Int.toNat 16/(2:Int)^Int.toNat 8/\d.1/(2:Int)^Int.toNat 32/(2:Int)^Int.toNat 16/(2:Int)^Int.toNat 8<=255/\0<=d.1/(2:Int)^Int.toNat 32/(2:Int)^Int.toNat 16/(2:Int)^Int.toNat 8/\d.1/(2:Int)^Int.toNat 32/(2:Int)^Int.toNat 16/(2:Int)^Int.toNat 8<(U.len8tab.size:Int)/\kU (aq U.len8tab (jkb d).toNat)/\kU ((32:Int)+16+8+aq U.len8tab (jkb d).toNat)/\((32:Int)+16+8+aq U.len8tab (jkb d).toNat,())=(sw d.1,()))/\(decide (jkP d)=false->0<=d.1/(2:Int)^Int.toNat 32/(2:Int)^Int.toNat 16/\d.1/(2:Int)^Int.toNat 32/(2:Int)^Int.toNat 16<=255/\0<=d.1/(2:Int)^Int.toNat 32/(2:Int)^Int.toNat 16/\d.1/(2:Int)^Int.toNat 32/(2:Int)^Int.toNat 16<(U.len8tab.size:Int)/\kU (aq U.len8tab (jkc d).toNat)/\kU ((32:Int)+16+aq U.len8tab (jkc d).toNat)/\((32:Int)+16+aq U.len8tab (jkc d).toNat,())=(sw d.1,())))/\(decide (65536<=d.1/(2:Int)^Int.toNat 32)=false->(decide (256<=d.1/(2:Int)^Int.toNat 32)=true->(0:Int)<=8/\(8:Int)<=64/\kU ((32:Int)+8)/\0<=d.1/(2:Int)^Int.toNat 32/(2:Int)^Int.toNat 8/\d.1/(2:Int)^Int.toNat 32/(2:Int)^Int.toNat 8<=255/\0<=d.1/(2:Int)^Int.toNat 32/(2:Int)^Int.toNat 8/\d.1/(2:Int)^Int.toNat 32/(2:Int)^Int.toNat 8<(U.len8tab.size:Int)/\kU (aq U.len8tab (jke d).toNat)/\kU ((32:Int)+8+aq U.len8tab (jke d).toNat)/\((32:Int)+8+aq U.len8tab (jke d).toNat,())=(sw d.1,()))/\(decide (256<=d.1/(2:Int)^Int.toNat 32)=false->0<=d.1/(2:Int)^Int.toNat 32/\d.1/(2:Int)^Int.toNat 32<=255/\0<=d.1/(2:Int)^Int.toNat 32/\d.1/(2:Int)^Int.toNat 32<(U.len8tab.size:Int)/\kU (aq U.len8tab (d.1/(2:Int)^Int.toNat 32).toNat)/\kU ((32:Int)+aq U.len8tab (d.1/(2:Int)^Int.toNat 32).toNat)/\((32:Int)+aq U.len8tab (d.1/(2:Int)^Int.toNat 32).toNat,())=(sw d.1,()))))/\(decide (4294967296<=d.1)=false->(decide (65536<=d.1)=true->(0:Int)<=16/\(16:Int)<=64/\kU ((0:Int)+16)/\(decide (256<=d.1/(2:Int)^Int.toNat 16)=true->(0:Int)<=8/\(8:Int)<=64/\kU ((0:Int)+16+8)/\0<=d.1/(2:Int)^Int.toNat 16/(2:Int)^Int.toNat 8/\d.1/(2:Int)^Int.toNat 16/(2:Int)^Int.toNat 8<=255/\0<=d.1/(2:Int)^Int.toNat 16/(2:Int)^Int.toNat 8/\d.1/(2:Int)^Int.toNat 16/(2:Int)^Int.toNat 8<(U.len8tab.size:Int)/\kU (aq U.len8tab (jkf d).toNat)/\kU ((0:Int)+16+8+aq U.len8tab (jkf d).toNat)/\((0:Int)+16+8+aq U.len8tab (jkf d).toNat,())=(sw d.1,()))/\(decide (256<=d.1/(2:Int)^Int.toNat 16)=false->0<=d.1/(2:Int)^Int.toNat 16/\d.1/(2:Int)^Int.toNat 16<=255/\0<=d.1/(2:Int)^Int.toNat 16/\d.1/(2:Int)^Int.toNat 16<(U.len8tab.size:Int)/\kU (aq U.len8tab (d.1/(2:Int)^Int.toNat 16).toNat)/\kU ((0:Int)+16+aq U.len8tab (d.1/(2:Int)^Int.toNat 16).toNat)/\((0:Int)+16+aq U.len8tab (d.1/(2:Int)^Int.toNat 16).toNat,())=(sw d.1,())))/\(decide (65536<=d.1)=false->(decide (256<=d.1)=true->(0:Int)<=8/\(8:Int)<=64/\kU ((0:Int)+8)/\0<=d.1/(2:Int)^Int.toNat 8/\d.1/(2:Int)^Int.toNat 8<=255/\0<=d.1/(2:Int)^Int.toNat 8/\d.1/(2:Int)^Int.toNat 8<(U.len8tab.size:Int)/\kU (aq U.len8tab (d.1/(2:Int)^Int.toNat 8).toNat)/\kU ((0:Int)+8+aq U.len8tab (d.1/(2:Int)^Int.toNat 8).toNat)/\((0:Int)+8+aq U.len8tab (d.1/(2:Int)^Int.toNat 8).toNat,())=(sw d.1,()))/\(decide (256<=d.1)=false->0<=d.1/\d.1<=255/\0<=d.1/\d.1<(U.len8tab.size:Int)/\kU (aq U.len8tab d.1.toNat)/\kU ((0:Int)+aq U.len8tab d.1.toNat)/\((0:Int)+aq U.len8tab d.1.toNat,())=(sw d.1,()))))
def Po:wD:=⟨[.val (.uint .u64)],[.int],false,fun d=>[0<=d.1/\d.1<=12],fun d=>(sw d.1,())⟩
def Pp:Prop:=∀(d:Int×Unit),0<=d.1/\d.1<=12->(false=true->False)/\(qF->(0<=d.1/\d.1<=12)/\(sw d.1,())=(sw d.1,()))
def bv:qC:=⟨[.own rwI true,.val .int,.val .int,.fn [.int,.int] [.int]],[],fun d=>[d.2.1=0/\d.2.2.1=(d.1.length:Int)/\d.1.length<=12,lQ d.2.2.2.1.pre d.1],fun d=>((),(lP (cg d.2.2.2.1.F) d.1,()))⟩
def bw:Ann:=fun r=>match r with
 |1=>some fun σ=>{X:=Nat,sl:=fun i=>[(8,.dat .int (i:Int))],ob:=fun i=>[(1000000,some (.row 3 .int false .unk (eg (cg (gfn [.int,.int] [.int] σ 3)) (gr .int σ 1000000) i)))],inv:=fun i=>1<=i/\i<=max (gr .int σ 1000000).length 1,mu:=fun i=>(gr .int σ 1000000).length-i}
 |4=>some fun σ=>{X:=Nat×List Int,sl:=fun x=>[(9,.dat .int (x.1:Int))],ob:=fun x=>[(1000000,some (.row 3 .int false .unk x.2))],inv:=fun x=>(x.1:Int)<=gd .int σ 8/\x.2.Perm (gr .int σ 1000000)/\ph (cg (gfn [.int,.int] [.int] σ 3)) x.2 x.1=ph (cg (gfn [.int,.int] [.int] σ 3)) (gr .int σ 1000000) (gd .int σ 8).toNat,mu:=fun x=>x.1}
 |_=>none
abbrev jkg (a:Nat×List Int):=(nth a.2 (a.1:Int).toNat,nth a.2 ((a.1:Int)-1).toNat,())
abbrev jht (d:List Int×Int×Int×FnD [Ty.int,Ty.int] [Ty.int]×Unit):=(cg d.2.2.2.1.2)
def bz:Prop:=∀(d:List Int×Int×Int×FnD [Ty.int,Ty.int] [Ty.int]×Unit),d.2.1=0/\d.2.2.1=(d.1.length:Int)/\d.1.length<=12->lQ d.2.2.2.1.1 d.1->kU (d.2.1+1)/\(∃(x:Nat),((d.2.1+1=(x:Int)/\True)/\d.1=eg (jht d) d.1 x/\True)/\1<=x/\x<=max d.1.length 1)/\∀(x:Nat),1<=x/\x<=max d.1.length 1->(decide ((x:Int)<d.2.2.1)=true->(∃(a:Nat×List Int),(((x:Int)=(a.1:Int)/\True)/\eg (jht d) d.1 x=a.2/\True)/\(a.1:Int)<=(x:Int)/\a.2.Perm (eg (jht d) d.1 x)/\ph (jht d) a.2 a.1=ph (jht d) (eg (jht d) d.1 x) (x:Int).toNat)/\∀(a:Nat×List Int),(a.1:Int)<=(x:Int)/\a.2.Perm (eg (jht d) d.1 x)/\ph (jht d) a.2 a.1=ph (jht d) (eg (jht d) d.1 x) (x:Int).toNat->(decide (d.2.1<(a.1:Int))=true->0<=(a.1:Int))/\(decide (d.2.1<(a.1:Int))=true->(a.1:Int)<a.2.length)/\(decide (d.2.1<(a.1:Int))=true->kU ((a.1:Int)-1))/\(decide (d.2.1<(a.1:Int))=true->0<=(a.1:Int)-1)/\(decide (d.2.1<(a.1:Int))=true->(a.1:Int)-1<(a.2.length:Int))/\U4 (decide (d.2.1<(a.1:Int))) (d.2.2.2.1.1 (jkg a)) (((decide (d.2.1<(a.1:Int))&&decide ((d.2.2.2.1.2 (jkg a)).1<0))=true->kU ((a.1:Int)-1)/\kU ((a.1:Int)-1)/\0<=(a.1:Int)-1/\(a.1:Int)-1<(a.2.length:Int)/\0<=(a.1:Int)/\(a.1:Int)<a.2.length/\0<=(a.1:Int)/\(a.1:Int)<a.2.length/\0<=(a.1:Int)-1/\(a.1:Int)-1<(↑(a.2.set (a.1:Int).toNat (nth a.2 ((a.1:Int)-1).toNat)).length:Int)/\kU ((a.1:Int)-1)/\∃(b:Nat×List Int),(((a.1:Int)-1=(b.1:Int)/\True)/\(a.2.set (a.1:Int).toNat (nth a.2 ((a.1:Int)-1).toNat)).set ((a.1:Int)-1).toNat (nth a.2 (a.1:Int).toNat)=b.2/\True)/\((b.1:Int)<=(x:Int)/\b.2.Perm (eg (jht d) d.1 x)/\ph (jht d) b.2 b.1=ph (jht d) (eg (jht d) d.1 x) (x:Int).toNat)/\b.1<a.1)/\((decide (d.2.1<(a.1:Int))&&decide ((d.2.2.2.1.2 (jkg a)).1<0))=false->kU ((x:Int)+1)/\∃(c:Nat),(((x:Int)+1=(c:Int)/\True)/\a.2=eg (jht d) d.1 c/\True)/\(1<=c/\c<=max d.1.length 1)/\d.1.length-c<d.1.length-x)))/\(decide ((x:Int)<d.2.2.1)=false->()=()/\(eg (jht d) d.1 x,())=(lP (jht d) d.1,()))
def fP:qC:=⟨[.own rwI true,.val .int,.val .int,.val .int,.fn [.int,.int] [.int]],[],fun d=>[d.2.1=0/\d.2.2.1=(d.1.length:Int)/\d.1.length<=12,lQ d.2.2.2.2.1.pre d.1],fun d=>((),(lP (cg d.2.2.2.2.1.F) d.1,()))⟩
def fQ:Ann:=fun r=>match r with
 |1000002=>some fun _=>{X:=Unit,sl:=fun _=>[],ob:=fun _=>[],inv:=fun _=>True,mu:=fun _=>0}
 |_=>none
def fR:Prop:=∀(d:List Int×Int×Int×Int×FnD [Ty.int,Ty.int] [Ty.int]×Unit),d.2.1=0/\d.2.2.1=(d.1.length:Int)/\d.1.length<=12->lQ d.q4.1.1 d.1->kU (d.2.2.1-d.2.1)/\(decide (d.2.2.1-d.2.1<=12)=true->(d.2.1=0/\d.2.2.1=(d.1.length:Int)/\d.1.length<=12)/\lQ d.q4.1.1 d.1/\()=()/\(lP (cg d.q4.1.2) d.1,())=(lP (cg d.q4.1.2) d.1,()))/\(decide (d.2.2.1-d.2.1<=12)=false->(decide (d.2.2.2.1=0)=true->False)/\(decide (d.2.2.2.1=0)=false->((!true)=true->False)/\((!true)=false->False)))
def qK:qC:=⟨[.own rwI true,.fn [.int,.int] [.int]],[],fun d=>[d.1.length<=12,lQ d.2.1.pre d.1,vB (cg d.2.1.F) d.1],fun d=>((),(kG (cg d.2.1.F) d.1,()))⟩
def ud:Prop:=∀(d:List Int×FnD [Ty.int,Ty.int] [Ty.int]×Unit),d.1.length<=12->lQ d.2.1.1 d.1->vB (cg d.2.1.2) d.1->d.1.length<4611686018427387904->0<=(d.1.length:Int)/\(d.1.length:Int)<=18446744073709551615/\(0<=(d.1.length:Int)/\(d.1.length:Int)<=12)/\((0:Int)=0/\(d.1.length:Int)=d.1.length/\d.1.length<=12)/\lQ d.2.1.1 d.1/\()=()/\(lP (cg d.2.1.2) d.1,())=(kG (cg d.2.1.2) d.1,())
def asI (l:List Int):List (Ty.st [.int]).Data:=l.map (fun x=>(x,()))
def LVi (d:PD [.ref (.slice .int)]) (xs:List (Ty.st [.int]).Data):Prop:=xs=asI d.1
def ue:CE (YS [.int]):=fun r=>match r with
 |1=>some fun σ _=>{X:=Nat,sl:=fun i=>[(7,.dat .int (i:Int))],ob:=fun _=>[],ys:=fun i=>(asI ((gd (.slice .int) σ 5).take i),true),inv:=fun i=>i<=(gd (.slice .int) σ 5).length,mu:=fun i=>(gd (.slice .int) σ 5).length-i}
 |_=>none
abbrev jhG:=(fun(a:Int)=>(a,()))
abbrev jja (d:List Int×Unit)(x:Nat):=(nth d.1 (x:Int).toNat,())
def dI:Prop:=∀(d:List Int×Unit) (l:Nat),d.1.length<4611686018427387904->(∃(x:Nat),((0=(x:Int)/\True)/\True)/\([],true)=(List.map jhG (List.take x d.1),true)/\x<=d.1.length)/\∀(x:Nat),x<=d.1.length->(decide ((x:Int)<d.1.length)=true->0<=(x:Int)/\(x:Int)<d.1.length/\l=l/\(∃(rest:List (Int×Unit)),List.map jhG (List.take x d.1)++[(jja d x)]++rest=List.map jhG d.1)/\(((!true)=true->true=true->List.map jhG (List.take x d.1)++[(jja d x)]=List.map jhG d.1)/\((!true)=false->kU ((x:Int)+1)/\∃(a:Nat),(((x:Int)+1=(a:Int)/\True)/\True)/\(List.map jhG (List.take x d.1)++[(jja d x)],true)=(List.map jhG (List.take a d.1),true)/\a<=d.1.length/\d.1.length-a<d.1.length-x))/\((!false)=true->false=true->List.map jhG (List.take x d.1)++[(jja d x)]=List.map jhG d.1)/\((!false)=false->kU ((x:Int)+1)/\∃(a:Nat),(((x:Int)+1=(a:Int)/\True)/\True)/\(List.map jhG (List.take x d.1)++[(jja d x)],false)=(List.map jhG (List.take a d.1),true)/\a<=d.1.length/\d.1.length-a<d.1.length-x))/\(decide ((x:Int)<d.1.length)=false->true=true->List.map jhG (List.take x d.1)=List.map jhG d.1)
theorem nD:(Zw (ctx 16 [] []) (wK Tryz.f178) [.int] [.ref (.slice .int)] LVi (fun _=>[]) (fun _ _=>ue) (fun d l=>hkY [.int] l [13] (fun q=>∃rest,LVi d (q++rest)) (fun _=>none)))=dI:=by kernel_rfl
def qL:rj:=⟨[.val (.slice .int)],fun _=>[],178,[.slice .int],fun d=>(d.1,())⟩
def lJ:Prop:=∀(d:List Int×Unit),d=d
theorem rX:(V9 (ctx 4 [] []) (fun _=>none) Tryz.f119 (wK Tryz.f119) qL)=lJ:=by kernel_rfl
def cM:Lf [.int]:={ps:=[.own (.box 31 [.row 3 .int .unk]) true],slots:=[2],dst:=20,pre:=fun _=>[],G:=fun d q=>((d.1.1++q.map (·.1),()),()),seq:=fun sv=>match sv with
 | .clo 178 [.ep t m]=>(match qg t (.slice .int) m with
  |some a=>some (True,fun xs=>xs=asI a)
  |none=>none)
 |_=>none}
def gC:Nat->Option ((ts:List Ty)×Lf ts):=fun r=>match r with
 |3=>some ⟨[.int],cM⟩
 |_=>none
def vd:rm:=⟨[none,some (178,1)],[.nil false,.ref (.slice .int)],[rwI],fun d=>[d.2.1.length<=12],fun d r=>r.1.1=d.2.1⟩
def vT:rm:=⟨[some (178,1)],[.ref (.slice .int)],[rwI],fun d=>[d.1.length<=12],fun d r=>r.1.1=d.1⟩
def qR:rm:=⟨[some (178,1),none],[.ref (.slice .int),.fn [.int,.int] [.int]],[rwI],fun d=>[d.1.length<=12,lQ d.2.1.pre d.1,vB (cg d.2.1.F) d.1],fun d r=>r.1.1=kG (cg d.2.1.F) d.1⟩
def rY (d:OD vd.ps):List SV:=[.lit (.slice none 0 0),.clo 178 [.ep (.slice .int) d.2.1]]
abbrev jjb:=(fun(a:Int×Unit)=>a.1)
abbrev jkh:=(fun(a:List (Int×Unit))=>false)
abbrev jki:=(fun(a:Int)=>(a,()))
def cN:Prop:=∀(d:Unit×List Int×Unit),d.2.1.length<=12/\True->True/\True/\(([]++List.map jjb [],()),())=(([],()),())/\(∀(q:List (Int×Unit)) (x:Int×Unit) (rest:List (Int×Unit)),q++x::rest=List.map jki d.2.1->yu jkh q->(([]++List.map jjb q).length+[x.1].length)*8<=140737488355328/\qF/\(([]++List.map jjb q++[x.1],()),())=(([]++List.map jjb (q++[x]),()),()))/\(∀(xs:List (Int×Unit)),xs=List.map jki d.2.1->yu jkh xs->∃(_:Unit),[]++List.map jjb xs=d.2.1)/\∀(q:List (Int×Unit)) (x:Int×Unit) (rest:List (Int×Unit)),q++x::rest=List.map jki d.2.1->yu jkh q->false=true->∃(_:Unit),[]=d.2.1
theorem mc:(Wb (ctx 13 [] []) (fun _=>none) (hkC (ctx 13 [] []) (fun _=>none) gC [] []) Tryz.f202 (wK Tryz.f202) vd rY)=cN:=by kernel_rfl
def xJ (d:OD vT.ps):List SV:=[.clo 178 [.ep (.slice .int) d.1]]
def fS:Prop:=∀(d:List Int×Unit),d.1.length<=12/\True->(d.1.length<=12/\True)/\∀(r:(List Int×Unit)×Unit),r.1.1=d.1->∃(_:Unit),r.1.1=d.1
theorem o4:(Wb (ctx 5 [] []) (fun _=>none) (hkC (ctx 5 [] []) (fun _=>none) jcN [4] [(202,20,vd)]) Tryz.f176 (wK Tryz.f176) vT xJ)=fS:=by kernel_rfl
def o6 (d:OD qR.ps):List SV:=[.clo 178 [.ep (.slice .int) d.1],.fn [.int,.int] [.int] d.2.1.pre d.2.1.F]
def bW:Prop:=∀(d:List Int×FnD [Ty.int,Ty.int] [Ty.int]×Unit),d.1.length<=12/\lQ d.2.1.1 d.1/\vB (cg d.2.1.2) d.1/\True->(d.1.length<=12/\True)/\∀(r:(List Int×Unit)×Unit),r.1.1=d.1->r.1.1.length<=12/\lQ d.2.1.1 r.1.1/\vB (cg d.2.1.2) r.1.1/\∃(_:Unit),kG (cg d.2.1.2) r.1.1=kG (cg d.2.1.2) d.1
theorem lh:(Wb (ctx 12 [] [(177,qK)]) (fun _=>none) (hkC (ctx 12 [] [(177,qK)]) (fun _=>none) jcN [7] [(176,20,vT)]) Tryz.f118 (wK Tryz.f118) qR o6)=bW:=by kernel_rfl
theorem Tp {γ:Bool} {l:List Prop} {k:Prop} (h:γ=true->kV l) (hk:k):U4 γ l k:=by
 induction l with
 |nil=>exact hk
 |cons p l b=>exact⟨fun a=>(h a).1,b (fun a=>(h a).2)⟩
theorem jgW:∀n:Nat,n<13->aq U.len8tab n=sw (n:Int):=by decide+kernel
theorem jc4 (n:Int):0<=sw n/\sw n<=4:=by
 unfold sw
 split
 omega
 split
 omega
 split
 omega
 split<;>omega
theorem Md:Jl:=by
 unfold Jl jkP jkf jke jkc jkb;rintro⟨n,⟨⟩⟩ ⟨a,b⟩;have a:0<=n:=a;have b:n<=12:=b;refine⟨fun h=>absurd (ja h) (by simp only;omega),fun _=>⟨fun h=>absurd (ja h) (by simp only;omega),fun _=>⟨fun h=>absurd (ja h) (by simp only;omega),fun _=> ?_⟩⟩⟩;have c:=jgW n.toNat (by omega);rw[Int.toNat_of_nonneg a] at c;have d:=jc4 n;simp only;rw[c];refine⟨by omega,by omega,by omega,?_,by unfold kU;omega,by unfold kU;omega,by rw[Int.zero_add]⟩;have:U.len8tab.size=256:=(by decide+kernel);omega
theorem Jm:wN PR 137 Jk:=wt Md Tryz.func137 kcN koN
theorem Tq:Pp:=by
 rintro⟨n,⟨⟩⟩ h;exact⟨fun e=>(by cases e),fun _=>⟨h,rfl⟩⟩
theorem Pq:wN PR 93 Po:=wt Tq Tryz.func93 (kcC Jm kcN) koN
theorem bL:bz:=by
 unfold bz jht jkg;rintro⟨l,a,b,⟨pre,c⟩,⟨⟩⟩ x y;obtain⟨z,n,E⟩:a=0/\b=(l.length:Int)/\l.length<=12:=x;have s:lQ pre l:=y;subst z n;simp only;refine⟨by unfold kU;omega,⟨1,⟨⟨rfl,tZ⟩,rfl,tZ⟩,jj _,by omega⟩,fun i hi=>⟨fun h=> ?_,fun h=> ?_⟩⟩
 .have h:i<l.length:=(by have:=ja h;omega);have u:=IS.part_perm (lt:=cg c) (l:=l) i (by omega);refine⟨⟨(i,eg (cg c) l i),⟨⟨rfl,tZ⟩,rfl,tZ⟩,zo _,List.Perm.refl _,rfl⟩,?_⟩;rintro⟨j,m⟩ ⟨v,o,p⟩;have v:(j:Int)<=i:=v;have o:m.Perm (eg (cg c) l i):=o;have p:ph (cg c) m j=ph (cg c) (eg (cg c) l i) i:=p;have C:m.length=l.length:=(o.trans u).length_eq;have g:∀{k:Nat},k<m.length->nth m k∈l:=fun hk=>(o.trans u).mem_iff.1 (L.kJ hk)
  simp only[jm];refine⟨fun _=>by omega,fun f=>by have:=ja f;omega,fun f=>by have:=ja f;unfold kU;omega,fun f=>by have:=ja f;omega,fun f=>by have:=ja f;omega,Tp (fun f=> ?_) ⟨fun n=> ?_,fun n=> ?_⟩⟩
  .have f:=ja f;exact s _ (g (by omega)) _ (g (by omega))
  .simp only[ji,jv] at n;obtain⟨D,q⟩:=n;obtain⟨d,rfl⟩:∃d,j=d+1:=⟨j-1,by omega⟩;have r:((d+1:Nat):Int)-1=(d:Int):=(by omega);rw[r] at q⊢;simp only[jm] at q⊢;have t:=IS.swap_perm (l:=m) (j:=d+1) (k:=d) (by omega) (by omega);have e:kU (d:Int):=(by unfold kU;omega);refine⟨e,e,by omega,by omega,by omega,by omega,by omega,by omega,by omega,by simp;omega,e,⟨(d,UG m (d+1) d),⟨⟨rfl,tZ⟩,rfl,tZ⟩,⟨by simp only;omega,t.trans o,?_⟩,by simp⟩⟩;rw[<-p];show _=(if cg c (nth m (d+1)) (nth m d)=true then ph (cg c) (UG m (d+1) d) d else m);have w:cg c (nth m (d+1)) (nth m d)=true:=jH q;rw[jd w]
  .have B:m=eg (cg c) l (i+1):=by
    rw[IS.part_succ,<-p];cases j with
    |zero=>rfl
    |succ d=>
     unfold ph;rw[jc];intro A;refine absurd n (by
      rw[Bool.and_eq_false_iff];rintro(h|h)
      .exact absurd (je h) (by simp)
      .refine je h ?_;have r:((d+1:Nat):Int)-1=(d:Int):=(by omega);rw[r];exact ja A)
   exact⟨by unfold kU;omega,i+1,⟨⟨by simp,tZ⟩,B,tZ⟩,by omega,by omega⟩
 .have h:l.length<=i:=(by have:=je h;omega);exact⟨tZ,by rw[IS.part_isort hi.1 hi.2 h]⟩
theorem bA:ga PR 211 bv:=AV bw bL Tryz.func211 kcN koN
theorem li:fR:=by
 unfold fR Prod.q4;rintro⟨l,a,b,lim,⟨pre,c⟩,⟨⟩⟩ e d;obtain⟨f,g,i⟩:a=0/\b=(l.length:Int)/\l.length<=12:=e;subst f g;refine⟨by unfold kU;simp only;omega,fun _=>⟨⟨rfl,rfl,by simp only;omega⟩,d,rfl,rfl⟩,fun h=>absurd (je h) (by simp only;omega)⟩
theorem fT:ga PR 203 fP:=AV fQ li Tryz.func203 kcN (koC bA koN)
theorem xK:ud:=by
 rintro⟨l,⟨pre,c⟩,⟨⟩⟩ a b d _;have a:l.length<=12:=a;exact⟨by simp only;omega,by simp only;omega,⟨by simp only;omega,by simp only;omega⟩,⟨rfl,rfl,a⟩,b,rfl,jP (·,()) (IS.isort_sort d)⟩
theorem uf:ga PR 177 qK:=AW xK Tryz.func177 (kcC Pq kcN) (koC fT koN)
theorem ZZ {l:List Int} {i:Nat} (h:i<l.length):asI (l.take (i+1))=asI (l.take i)++[(nth l i,())]:=by
 unfold asI;rw[L.kT h,j7];rfl
theorem xL:dI:=by
 unfold dI jja jhG;rintro⟨l,⟨⟩⟩ y b;have b:l.length<4611686018427387904:=b;refine⟨⟨0,⟨⟨rfl,tZ⟩,tZ⟩,rfl,jt _⟩,fun x c=>⟨fun h=> ?_,fun h _=> ?_⟩⟩;have h:(x:Int)<l.length:=ja h;have a:x<l.length:=(by omega);have e:=ZZ a;unfold asI at e;simp only[jm];refine⟨by omega,h,tZ,⟨asI (l.drop (x+1)),?_⟩,⟨fun h=>(by cases h),fun _=>⟨iZ6,x+1,⟨⟨by simp,tZ⟩,tZ⟩,?_,by show x+1<=l.length;omega,by show l.length-(x+1)<l.length-x;omega⟩⟩,fun _ h=>(by cases h),fun h=>(by cases h)⟩;rw[<-e];unfold asI;rw[<-j7,zV];rw[e];have h:¬(x:Int)<l.length:=je h;have c:x<=l.length:=c;rw[zp (by show l.length<=x;omega)]
theorem Tr {H:Imm} {lb:Array Value} {d:PD [.ref (.slice .int)]} (e:pvs PR H [.ref (.slice .int)] lb.toList d):Zu PR H [.int] (LVi d) (.func (.func 178) #[] lb):=
 jbw (C:=ctx 16 [] []) (pB trivial trivial) mixed Tryz.func178 (by kernel_rfl) (by kernel_rfl) (by kernel_rfl) (by kernel_rfl) (by decide) (nD.mpr xL) (fun d l B0 R f a b c=>jeH a c) e trivial
theorem EI:lJ:=by intro d;rfl
theorem BE:Lj PR 119 qL:=jeJ (rX.mpr EI) Tryz.func119 (by kernel_rfl) (by kernel_rfl) (by kernel_rfl) (by kernel_rfl) trivial trivial
theorem jc5 (l:List Int):(asI l).map (fun(x:Int×Unit)=>x.1)=l:=by
 unfold asI;rw[kj];exact List.map_id l
theorem ug:cN:=by
 unfold cN jki jkh jjb;intro d ⟨a,_⟩;refine⟨tZ,tZ,rfl,fun q x rest h _=>⟨?_,rfl,?_⟩,fun xs h _=>⟨(),?_⟩,fun _ _ _ _ _ h=>(by cases h)⟩;have b:=jP List.length h;simp only[zc,jK,ze] at b;have a:d.2.1.length<=12:=a;simp only[j6,zc,ze,zx];omega;simp;rw[h,j6];exact jc5 d.2.1
theorem BF:fS:=fun _ a=>⟨a,fun _ h=>⟨(),h⟩⟩
theorem rZ:bW:=fun d ⟨a,b,c,_⟩=>⟨⟨a,tZ⟩,fun r h=>by rw[h];exact⟨a,b,c,(),rfl⟩⟩
theorem RB {P:Program} {ρ:Env} {H:Imm} (b:ρ.H=H) {g:Nat} {t:Ty} {d:t.Data} {lb:Array Value} {w:World} {bs:List Nat} (a:fx P H w [.ref t] lb.toList (d,()) bs):SV.den P ρ (.clo g [.ep t d]) (.func (.func g) #[] lb):=by
 subst b
 match e:lb.toList,a with
 |[],a=>exact a.elim
 |[x],⟨_,_,_,⟨c,_⟩,_⟩=>
  simp only[SV.den,SV.denL];exact⟨lb,rfl,x,[],e,c,rfl⟩
 |x::y::r,⟨_,_,_,_,h2⟩=>cases h2.1
theorem Pr {lb:Array Value} (h:lb.size=1):∃x,lb.toList=[x]:=by
 have a:lb.toList.length=1:=(by rw[zb];exact h);exact List.length_eq_one_iff.1 a
theorem WK {g n:Nat} {s:rm} (h:ROK PR g s):∀(f:Nat) (p:Nat×rm),wc [(g,n,s)] f=some p->ROK PR f p.2:=by
 intro f p a;simp only[wc] at a
 split at a
 rename_i b;have:=jb b;subst this;simp at a;subst a;exact h;cases a
theorem Z0 (n:Nat):(ctx n [] []).ok PR:=pB trivial trivial
theorem o7:ROK PR 202 vd:=by
 refine Wc (body:=wK Tryz.f202) (C:=ctx 13 [] []) (hk:=hkC (ctx 13 [] []) (fun _=>none) gC [] []) (Z0 13) mixed Tryz.func202 (by kernel_rfl) (by kernel_rfl) (by kernel_rfl) (fun B=>HH (Z0 13) mixed ?_ jc0 B) rfl (fun H w vals fl d bs c b ρ f=> ?_) (fun d=>rfl) (mc.mpr ug)
 .intro k t rs sv pr L v ρ hk a p g;unfold gC at hk
  split at hk
  case h_2=>cases hk
  simp only[jy] at hk;cases hk;simp only[cM] at a
  split at a
  case h_2=>cases a
  rename_i t m
  split at a
  case h_2=>cases a
  rename_i z o;simp only[jy,Prod.mk.injEq] at a;obtain⟨rfl,rfl⟩:=a;obtain⟨e,rfl⟩:=kP o;subst e;simp only[SV.den,SV.denL] at g;obtain⟨lb,rfl,x,r,n,j,l⟩:=g;exact Tr (d:=(m,())) (by rw[n,l];exact⟨j,rfl⟩)
 .obtain⟨v,q,h,rfl,rfl,lb,s,i,rfl,rfl,_,rfl,rfl⟩:=c;obtain⟨u,y,_,⟨rfl,_⟩,b⟩:=b;rw[jY] at b;refine⟨_,_,rfl,rfl,_,_,rfl,RB f b,rfl⟩
theorem uh:ROK PR 176 vT:=by
 refine Wc (body:=wK Tryz.f176) (C:=ctx 5 [] []) (hk:=hkC (ctx 5 [] []) (fun _=>none) jcN [4] [(202,20,vd)]) (Z0 5) mixed Tryz.func176 (by kernel_rfl) (by kernel_rfl) (by kernel_rfl) (fun B=>HH (Z0 5) mixed OO (WK o7) B) rfl (fun H w vals fl d bs a c ρ b=> ?_) (fun d=>rfl) (o4.mpr BF);obtain⟨lb,f,e,rfl,rfl,_,rfl,rfl⟩:=a;rw[jY] at c;exact⟨_,_,rfl,RB b c,rfl⟩
theorem HP:(ctx 12 [] [(177,qK)]).ok PR:=pB trivial ⟨uf,tZ⟩
theorem nE:ROK PR 118 qR:=by
 refine Wc (body:=wK Tryz.f118) (C:=ctx 12 [] [(177,qK)]) (hk:=hkC (ctx 12 [] [(177,qK)]) (fun _=>none) jcN [7] [(176,20,vT)]) HP mixed Tryz.func118 (by kernel_rfl) (by kernel_rfl) (by kernel_rfl)
  (fun B=>HH HP mixed OO (WK uh) B) rfl (fun H w vals fl d bs a e ρ c=> ?_) (fun d=>rfl) (lh.mpr rZ)
 obtain⟨lb,k,g,rfl,rfl,b,v,l,h,rfl,rfl,rfl,rfl⟩:=a;obtain⟨x,f⟩:=Pr b;rw[f] at e;obtain⟨m,n,_,⟨i,_⟩,c1,c2,_,⟨j,_⟩,_⟩:=e;subst c;refine⟨_,_,rfl,⟨lb,rfl,x,[],f,i,rfl⟩,_,_,rfl,j,rfl⟩
abbrev tRo:Ty:= .st [tDy,.slice .int,.slice (.slice .int),.slice .int]
abbrev RoD:Type:=DyD×List Int×List (List Int)×List Int×Unit
namespace U
def ro (o:Option RoD):RoD:=wg (Ty.dflt tRo) o
def rd (r:RoD):DyD:=r.1
def aN (r:RoD):List Int:=r.2.1
def yr (r:RoD):List (List Int):=r.2.2.1
def jgu (r:RoD):List Int:=r.2.2.2.1
def aj (d:DyD) (b:Int):Prop:=0<=b/\b<((kH d).length:Int)
def Nv (d:DyD) (l:List Int):Prop:=l.length<=12/\∀b∈l,aj d b
def GX (d:DyD):Prop:=kZ (kD d)=true/\Nr d=true/\wZ d=true
def Nw (r:RoD):Prop:=GX (rd r)/\(aN r).length=(kH (rd r)).length
def Sb (d:DyD) (p:Int):Prop:=0<=p/\p<((kI (kD d)).length:Int)
def uY (d:DyD) (a b:Int):Int:=yD [db (yq (bk d a)) (yq (bk d b)),db a b]
def kS (d:DyD) (l:List Int):List Int:=kG (dQ d) l
def aO (d:DyD) (s:List Int) (n:Nat):Int:=Cg d (s.take n)
def Km (d:DyD) (cZ:List Int) (p:Int) (s:List Int) (i:Nat):Bool:= !(decide (bI (nth cZ (nth s i).toNat/2^p.toNat) 1=0)||(s.drop (i+1)).any (fun c=>decide (cR d (nth s i) c<0)))
def jd1 (d:DyD) (cZ:List Int) (p:Int) (s:List Int):Bool:=(List.range s.length).all (Km d cZ p s)&&decide (Cg d s<=R9 d)
def Ci (d:DyD) (cZ:List Int) (p:Int) (l:List Int):Bool:=jd1 d cZ p (kS d l)
def ij (r:RoD) (p:Int) (l:List Int):Bool:=Ci (rd r) (aN r) p l
def aP (on:List (List Int)) (b:Int) (n:Nat):Int:=(List.range n).foldl (fun s p=>if(nth on p).any (fun x=>decide (x=b))=true then bor s (1*2^p) else s) 0
def ew (on:List (List Int)) (b:Int):Int:=aP on b on.length
def pH (d:DyD) (b t:Int):Bool:=(decide (bE (kD d) (yY (bk d b)) t=0)&&decide (jek (kD d) (yY (bk d b)) t=0))&&decide (t≠0)
def bZ (l:List PeD) (t:Int) (n:Nat):Int:=(List.range n).foldl (fun s i=>s+bI (t/2^i) 1*fe (nth l i)) 0
def gn (d:DyD) (t:Int):Int:=bZ (kI (kD d)) t (kI (kD d)).length
end U
def xM:wD:=⟨[.val (.ptr tRo),.val .int,.val .int],[.int],false,fun d=>[d.1.isSome=true,GX (U.rd (U.ro d.1)),aj (U.rd (U.ro d.1)) d.2.1,aj (U.rd (U.ro d.1)) d.2.2.1],fun d=>(cR (U.rd (U.ro d.1)) d.2.1 d.2.2.1,())⟩
abbrev jhP (d:Option RoD×Int×Int×Unit):=(wg ((((0:Int),[],[],()),[],[],(0:Int),(0:Int),[],()),[],[],[],()) d.1)
abbrev jia (d:Option RoD×Int×Int×Unit):=(nth (jhP d).1.2.2.1 d.2.1.toNat)
abbrev jih (d:Option RoD×Int×Int×Unit):=(nth (jhP d).1.2.2.1 d.2.2.1.toNat)
def xN:Prop:=∀(d:Option RoD×Int×Int×Unit),d.1.isSome=true->GX (U.rd (U.ro d.1))->aj (U.rd (U.ro d.1)) d.2.1->aj (U.rd (U.ro d.1)) d.2.2.1->d.1.isSome=true/\0<=d.2.1/\d.2.1<(↑(jhP d).1.2.2.1.length:Int)/\d.1.isSome=true/\0<=d.2.2.1/\d.2.2.1<(↑(jhP d).1.2.2.1.length:Int)/\kU ((jih d).2.2.1-(jia d).2.2.2.1)/\d.1.isSome=true/\kU ((jih d).2.2.1-(jia d).2.2.2.1-(jhP d).1.2.2.2.1)/\d.1.isSome=true/\(0:Int)<=(jia d).2.1/\(jia d).2.1<(↑(jhP d).1.2.1.length:Int)/\(0:Int)<=(jih d).2.1/\(jih d).2.1<(↑(nth (jhP d).1.2.1 (jia d).2.1.toNat).length:Int)/\kU ((jih d).2.2.1-(jia d).2.2.2.1-(jhP d).1.2.2.2.1-(nth (nth (jhP d).1.2.1 (jia d).2.1.toNat) (jih d).2.1.toNat).2.1)/\((jih d).2.2.1-(jia d).2.2.2.1-(jhP d).1.2.2.2.1-(nth (nth (jhP d).1.2.1 (jia d).2.1.toNat) (jih d).2.1.toNat).2.1,())=(cR (U.rd (U.ro d.1)) d.2.1 d.2.2.1,())
def qm:wD:=⟨[.val .int,.val .int,.ref (.ptr tRo)],[.int],false,fun d=>[d.2.2.1.isSome=true,aj (U.rd (U.ro d.2.2.1)) d.1,aj (U.rd (U.ro d.2.2.1)) d.2.1],fun d=>(uY (U.rd (U.ro d.2.2.1)) d.1 d.2.1,())⟩
abbrev jjG (d:Int×Int×Option RoD×Unit):=(wg ((((0:Int),[],[],()),[],[],(0:Int),(0:Int),[],()),[],[],[],()) d.2.2.1)
def o8:Prop:=∀(d:Int×Int×Option RoD×Unit),d.2.2.1.isSome=true->aj (U.rd (U.ro d.2.2.1)) d.1->aj (U.rd (U.ro d.2.2.1)) d.2.1->d.2.2.1.isSome=true/\0<=d.1/\d.1<(↑(jjG d).1.2.2.1.length:Int)/\d.2.2.1.isSome=true/\0<=d.2.1/\d.2.1<(↑(jjG d).1.2.2.1.length:Int)/\(yD [db (nth (jjG d).1.2.2.1 d.1.toNat).2.2.1 (nth (jjG d).1.2.2.1 d.2.1.toNat).2.2.1,db d.1 d.2.1],())=(uY (U.rd (U.ro d.2.2.1)) d.1 d.2.1,())
def dJ:wD:=⟨[.val (.ptr tRo),.val (.slice .int)],[.slice .int],false,fun d=>[d.1.isSome=true,Nv (U.rd (U.ro d.1)) d.2.1],fun d=>(kS (U.rd (U.ro d.1)) d.2.1,())⟩
abbrev jkQ (d:Option RoD×List Int×Unit):=(cg fun(a:Int×Int×Unit)=>(uY (U.rd (U.ro d.1)) a.1 a.2.1,()))
def dK:Prop:=∀(d:Option RoD×List Int×Unit),d.1.isSome=true->Nv (U.rd (U.ro d.1)) d.2.1->(d.2.1.length<=12/\lQ (fun(a:Int×Int×Unit)=>[d.1.isSome=true,aj (U.rd (U.ro d.1)) a.1,aj (U.rd (U.ro d.1)) a.2.1]) d.2.1/\vB (jkQ d) d.2.1/\True)/\∀(r:(List Int×Unit)×Unit),r.1.1=kG (jkQ d) d.2.1->r.1=(kS (U.rd (U.ro d.1)) d.2.1,())
theorem nF:(jcJ (NN 9 [(120,qm)] [] [(119,qL)] []) (fun _=>none) (hkC (NN 9 [(120,qm)] [] [(119,qL)] []) (fun _=>none) jcN [8] [(118,20,qR)]) Tryz.f77 (wK Tryz.f77) dJ)=dK:=by kernel_rfl
def xO:wD:=⟨[.val .int,.ref (.ptr tRo),.ref .int],[.bool],false,fun d=>[d.2.1.isSome=true,GX (U.rd (U.ro d.2.1)),aj (U.rd (U.ro d.2.1)) d.1,aj (U.rd (U.ro d.2.1)) d.2.2.1],fun d=>(decide (cR (U.rd (U.ro d.2.1)) d.2.2.1 d.1<0),())⟩
def xP:Prop:=∀(d:Int×Option RoD×Int×Unit),d.2.1.isSome=true->GX (U.rd (U.ro d.2.1))->aj (U.rd (U.ro d.2.1)) d.1->aj (U.rd (U.ro d.2.1)) d.2.2.1->d.2.1.isSome=true/\GX (U.rd (U.ro d.2.1))/\aj (U.rd (U.ro d.2.1)) d.2.2.1/\aj (U.rd (U.ro d.2.1)) d.1/\(decide (cR (U.rd (U.ro d.2.1)) d.2.2.1 d.1<0),())=(decide (cR (U.rd (U.ro d.2.1)) d.2.2.1 d.1<0),())
def nG:wD:=⟨[.val (.ptr tRo),.val .int,.val (.slice .int)],[.bool],false,fun d=>[d.1.isSome=true,Nw (U.ro d.1),Sb (U.rd (U.ro d.1)) d.2.1,Nv (U.rd (U.ro d.1)) d.2.2.1],fun d=>(ij (U.ro d.1) d.2.1 d.2.2.1,())⟩
def EJ:Ann:=fun r=>match r with
 |4=>some fun σ=>{X:=Nat,sl:=fun i=>[(16,.dat .int (i:Int)),(7,.dat .int (aO (U.rd (U.ro (gd (.ptr tRo) σ 0))) (gd (.slice .int) σ 14) i))],ob:=fun _=>[],inv:=fun i=>i<=(gd (.slice .int) σ 14).length/\∀b:Nat,b<i->Km (U.rd (U.ro (gd (.ptr tRo) σ 0))) (aN (U.ro (gd (.ptr tRo) σ 0))) (gd .int σ 1) (gd (.slice .int) σ 14) b=true,mu:=fun i=>(gd (.slice .int) σ 14).length-i}
 |_=>none
abbrev jix (d:Option RoD×Int×List Int×Unit):=(wg ((((0:Int),[],[],()),[],[],(0:Int),(0:Int),[],()),[],[],[],()) d.1)
abbrev jhy (d:Option RoD×Int×List Int×Unit):=(U.rd (U.ro d.1))
abbrev jhg (d:Option RoD×Int×List Int×Unit):=(kS (jhy d) d.2.2.1)
abbrev jiP (d:Option RoD×Int×List Int×Unit)(x:Nat):=(bI (nth (jix d).2.1 (nth (jhg d) (x:Int).toNat).toNat/(2:Int)^d.2.1.toNat) (1:Int)=0)
abbrev jkj (d:Option RoD×Int×List Int×Unit)(x:Nat):=((nth (jix d).1.2.2.1 (nth (jhg d) (x:Int).toNat).toNat).2.2.2.1-(nth (jix d).1.2.2.1 (nth (jhg d) (x:Int).toNat).toNat).2.2.1)
abbrev jii (d:Option RoD×Int×List Int×Unit):=(↑(jhg d).length:Int)
abbrev jkR (d:Option RoD×Int×List Int×Unit)(x:Nat):=(decide (jiP d x)||(List.take ((jii d).toNat-((x:Int)+1).toNat) (List.drop ((x:Int)+1).toNat (jhg d))).any (kC fun(a:Int×Unit)=>(decide (cR (jhy d) (nth (jhg d) (x:Int).toNat) a.1<0),())))
def EK:Prop:=∀(d:Option RoD×Int×List Int×Unit),d.1.isSome=true->Nw (U.ro d.1)->Sb (jhy d) d.2.1->Nv (jhy d) d.2.2.1->d.1.isSome=true/\Nv (jhy d) d.2.2.1/\((jhg d).length<4611686018427387904->(∃(x:Nat),((0=(x:Int)/\0=aO (jhy d) (jhg d) x/\True)/\True)/\x<=(jhg d).length/\∀(b:Nat),b<x->Km (jhy d) (aN (U.ro d.1)) d.2.1 (jhg d) b=true)/\∀(x:Nat),(x<=(jhg d).length/\∀(b:Nat),b<x->Km (jhy d) (aN (U.ro d.1)) d.2.1 (jhg d) b=true)->(decide ((x:Int)<(jii d))=true->0<=(x:Int)/\(x:Int)<(jii d)/\d.1.isSome=true/\0<=nth (jhg d) (x:Int).toNat/\nth (jhg d) (x:Int).toNat<(↑(jix d).1.2.2.1.length:Int)/\d.1.isSome=true/\0<=nth (jhg d) (x:Int).toNat/\nth (jhg d) (x:Int).toNat<(↑(jix d).1.2.2.1.length:Int)/\kU (jkj d x)/\kU (aO (jhy d) (jhg d) x+(jkj d x))/\d.1.isSome=true/\0<=nth (jhg d) (x:Int).toNat/\nth (jhg d) (x:Int).toNat<(↑(jix d).2.1.length:Int)/\0<=d.2.1/\d.2.1<=64/\((!decide (jiP d x))=true->kU ((x:Int)+1))/\((!decide (jiP d x))=true->0<=(x:Int)+1)/\((!decide (jiP d x))=true->(x:Int)+1<=(jii d))/\((!decide (jiP d x))=true->(jii d)<=(jii d))/\((!decide (jiP d x))=true->∀(g:Int),g∈List.take ((jii d).toNat-((x:Int)+1).toNat) (List.drop ((x:Int)+1).toNat (jhg d))->kV [d.1.isSome=true,GX (jhy d),aj (jhy d) g,aj (jhy d) (nth (jhg d) (x:Int).toNat)])/\((jkR d x)=true->(false,())=(ij (U.ro d.1) d.2.1 d.2.2.1,()))/\((jkR d x)=false->kU ((x:Int)+1)/\∃(a:Nat),(((x:Int)+1=(a:Int)/\aO (jhy d) (jhg d) x+(jkj d x)=aO (jhy d) (jhg d) a/\True)/\True)/\(a<=(jhg d).length/\∀(b:Nat),b<a->Km (jhy d) (aN (U.ro d.1)) d.2.1 (jhg d) b=true)/\(jhg d).length-a<(jhg d).length-x))/\(decide ((x:Int)<(jii d))=false->d.1.isSome=true/\(decide (aO (jhy d) (jhg d) x<=(jix d).1.q4.1),())=(ij (U.ro d.1) d.2.1 d.2.2.1,())))
def BG:wD:=⟨[.val (.ptr tRo),.val .int],[.int],false,fun d=>[d.1.isSome=true,(yr (U.ro d.1)).length<=60],fun d=>(ew (yr (U.ro d.1)) d.2.1,())⟩
def BH:Ann:=fun r=>match r with
 |2=>some fun σ=>{X:=Nat,sl:=fun i=>[(12,.dat .int (i:Int)),(4,.dat .int (aP (yr (U.ro (gd (.ptr tRo) σ 0))) (gd .int σ 1) i))],ob:=fun _=>[],inv:=fun i=>i<=(yr (U.ro (gd (.ptr tRo) σ 0))).length,mu:=fun i=>(yr (U.ro (gd (.ptr tRo) σ 0))).length-i}
 |_=>none
abbrev jiQ (d:Option RoD×Int×Unit):=(wg ((((0:Int),[],[],()),[],[],(0:Int),(0:Int),[],()),[],[],[],()) d.1)
abbrev jhz (d:Option RoD×Int×Unit):=(yr (U.ro d.1))
def BI:Prop:=∀(d:Option RoD×Int×Unit),d.1.isSome=true->(jhz d).length<=60->d.1.isSome=true/\((jiQ d).2.2.1.length<4611686018427387904->(∃(x:Nat),((0=(x:Int)/\0=aP (jhz d) d.2.1 x/\True)/\True)/\x<=(jhz d).length)/\∀(x:Nat),x<=(jhz d).length->(decide ((x:Int)<(jiQ d).2.2.1.length)=true->0<=(x:Int)/\(x:Int)<(jiQ d).2.2.1.length/\(((nth (jiQ d).2.2.1 (x:Int).toNat).any fun(b:Int)=>decide (b=d.2.1))=true->0<=(x:Int)/\(x:Int)<=64/\kU ((1:Int)*2^(x:Int).toNat)/\kU ((x:Int)+1)/\∃(a:Nat),(((x:Int)+1=(a:Int)/\bor (aP (jhz d) d.2.1 x) ((1:Int)*2^(x:Int).toNat)=aP (jhz d) d.2.1 a/\True)/\True)/\a<=(jhz d).length/\(jhz d).length-a<(jhz d).length-x)/\(((nth (jiQ d).2.2.1 (x:Int).toNat).any fun(b:Int)=>decide (b=d.2.1))=false->kU ((x:Int)+1)/\∃(a:Nat),((aP (jhz d) d.2.1 x=aP (jhz d) d.2.1 a/\(x:Int)+1=(a:Int)/\True)/\True)/\a<=(jhz d).length/\(jhz d).length-a<(jhz d).length-x))/\(decide ((x:Int)<(jiQ d).2.2.1.length)=false->(aP (jhz d) d.2.1 x,())=(ew (jhz d) d.2.1,())))
def BJ:wD:=⟨[.val (.ptr tRo),.val .int,.val .int],[.bool],false,fun d=>[d.1.isSome=true,aj (U.rd (U.ro d.1)) d.2.1],fun d=>(pH (U.rd (U.ro d.1)) d.2.1 d.2.2.1,())⟩
abbrev jjc (d:Option RoD×Int×Int×Unit):=(wg ((((0:Int),[],[],()),[],[],(0:Int),(0:Int),[],()),[],[],[],()) d.1)
def BK:Prop:=∀(d:Option RoD×Int×Int×Unit),d.1.isSome=true->aj (U.rd (U.ro d.1)) d.2.1->d.1.isSome=true/\d.1.isSome=true/\0<=d.2.1/\d.2.1<(↑(jjc d).1.2.2.1.length:Int)/\(decide (bE (jjc d).1.1 (nth (jjc d).1.2.2.1 d.2.1.toNat).1 d.2.2.1=0)&&decide (jek (jjc d).1.1 (nth (jjc d).1.2.2.1 d.2.1.toNat).1 d.2.2.1=0)&&decide (d.2.2.1≠0),())=(pH (U.rd (U.ro d.1)) d.2.1 d.2.2.1,())
def nI:wD:=⟨[.val (.ptr tRo),.val .int],[.int],false,fun d=>[d.1.isSome=true,kZ (kD (U.rd (U.ro d.1)))=true,0<=d.2.1,d.2.1<=1000000],fun d=>(gn (U.rd (U.ro d.1)) d.2.1,())⟩
def EL:Ann:=fun r=>match r with
 |2=>some fun σ=>{X:=Nat,sl:=fun i=>[(14,.dat .int (i:Int)),(4,.dat .int (bZ (kI (kD (U.rd (U.ro (gd (.ptr tRo) σ 0))))) (gd .int σ 1) i))],ob:=fun _=>[],inv:=fun i=>i<=(kI (kD (U.rd (U.ro (gd (.ptr tRo) σ 0))))).length,mu:=fun i=>(kI (kD (U.rd (U.ro (gd (.ptr tRo) σ 0))))).length-i}
 |_=>none
abbrev jiy (d:Option RoD×Int×Unit):=(wg ((((0:Int),[],[],()),[],[],(0:Int),(0:Int),[],()),[],[],[],()) d.1)
abbrev jhU (d:Option RoD×Int×Unit):=(kI (kD (U.rd (U.ro d.1))))
def EM:Prop:=∀(d:Option RoD×Int×Unit),d.1.isSome=true->kZ (kD (U.rd (U.ro d.1)))=true->0<=d.2.1->d.2.1<=1000000->d.1.isSome=true/\((jiy d).1.1.2.1.length<4611686018427387904->(∃(x:Nat),((0=(x:Int)/\0=bZ (jhU d) d.2.1 x/\True)/\True)/\x<=(jhU d).length)/\∀(x:Nat),x<=(jhU d).length->(decide ((x:Int)<(jiy d).1.1.2.1.length)=true->0<=(x:Int)/\(x:Int)<(jiy d).1.1.2.1.length/\0<=(x:Int)/\(x:Int)<=64/\kU (bI (d.2.1/(2:Int)^(x:Int).toNat) (1:Int)*(nth (jiy d).1.1.2.1 (x:Int).toNat).q4.2.1)/\kU (bZ (jhU d) d.2.1 x+bI (d.2.1/(2:Int)^(x:Int).toNat) (1:Int)*(nth (jiy d).1.1.2.1 (x:Int).toNat).q4.2.1)/\kU ((x:Int)+1)/\∃(a:Nat),(((x:Int)+1=(a:Int)/\bZ (jhU d) d.2.1 x+bI (d.2.1/(2:Int)^(x:Int).toNat) (1:Int)*(nth (jiy d).1.1.2.1 (x:Int).toNat).q4.2.1=bZ (jhU d) d.2.1 a/\True)/\True)/\a<=(jhU d).length/\(jhU d).length-a<(jhU d).length-x)/\(decide ((x:Int)<(jiy d).1.1.2.1.length)=false->(bZ (jhU d) d.2.1 x,())=(gn (U.rd (U.ro d.1)) d.2.1,())))
theorem qv {d:DyD} (h:wZ d=true):(kH d).length<=4/\(1<=(wG d).length/\(wG d).length<=5)/\(0<=Nq d/\Nq d<=300)/\(0<=R9 d/\R9 d<=1440)/\(qG d).length<=30/\
 (∀r∈wG d,bX (wG d).length r=true)/\(∀b∈kH d,mn (wG d).length b=true)/\∀s∈qG d,ic (kH d).length (kI (kD d)).length s=true:=by
 unfold wZ at h;simp only[ji,jv,jR] at h;obtain⟨⟨e,f,g,i,j,k,l,m⟩,n,a,c⟩:=h;exact⟨e,⟨f,g⟩,⟨i,j⟩,⟨k,l⟩,m,n,a,c⟩
theorem jgc {d:DyD} {b:Int} (h:aj d b):U.bk d b∈kH d:=by
 unfold U.bk;exact L.kJ (by unfold aj at h;omega)
theorem lj {d:DyD} (h:wZ d=true) {b:Int} (a:aj d b):(0<=jdY (U.bk d b)/\jdY (U.bk d b)<((wG d).length:Int))/\0<=yq (U.bk d b)/\yq (U.bk d b)<dp (U.bk d b)/\dp (U.bk d b)<=1440:=by
 have:=(qv h).2.2.2.2.2.2.1 _ (jgc a);unfold mn at this;have:=ja this;omega
theorem Me {d:DyD} (h:wZ d=true) {i:Nat} (hi:i<(wG d).length):(nth (wG d) i).length=(wG d).length/\∀j,j<(wG d).length->0<=U.lo (nth (nth (wG d) i) j)/\U.lo (nth (nth (wG d) i) j)<=U.hi (nth (nth (wG d) i) j)/\U.hi (nth (nth (wG d) i) j)<=300:=by
 have:=(qv h).2.2.2.2.2.1 _ (L.kJ hi);unfold bX at this;rw[ji,jv,jR] at this;refine⟨this.1,fun j b=> ?_⟩;have a:=this.2 _ (L.kJ (l:=nth (wG d) i) (i:=j) (by omega));unfold uS at a;exact ja a
theorem WL {d:DyD} (h:wZ d=true) {a b:Int} (c:aj d a) (e:aj d b):0<=jdZ d a b/\jdZ d a b<=300:=by
 have f:=(lj h c).1;have g:=(lj h e).1;have:=(Me h (i:=(jdY (U.bk d a)).toNat) (by omega)).2 (jdY (U.bk d b)).toNat (by omega);unfold jdZ;omega
theorem BL:xN:=by
 unfold xN jih jia jhP;rintro⟨(_|r),a,b,⟨⟩⟩ h c d e;cases h;obtain⟨c1,c2,c⟩:GX (U.rd r):=c;have d:aj (U.rd r) a:=d;have e:aj (U.rd r) b:=e;have g:=lj c d;have j:=lj c e;have k:=WL c d e;have l:=(qv c).2.2.1;have m:=(Me c (i:=(jdY (U.bk (U.rd r) a)).toNat) (by omega)).1;have f:(0<=a/\a<((kH (U.rd r)).length:Int))/\0<=b/\b<((kH (U.rd r)).length:Int):=⟨d,e⟩;refine⟨rfl,f.1.1,f.1.2,rfl,f.2.1,f.2.2,?_,rfl,?_,rfl,g.1.1,g.1.2,j.1.1,?_,?_,rfl⟩;show kU (yq (U.bk (U.rd r) b)-dp (U.bk (U.rd r) a));exact iZ6;show kU (yq (U.bk (U.rd r) b)-dp (U.bk (U.rd r) a)-Nq (U.rd r));exact iZ6;show jdY (U.bk (U.rd r) b)<((nth (wG (U.rd r)) (jdY (U.bk (U.rd r) a)).toNat).length:Int);omega;show kU (yq (U.bk (U.rd r) b)-dp (U.bk (U.rd r) a)-Nq (U.rd r)-jdZ (U.rd r) a b);exact iZ6
theorem xQ:wN PR 79 xM:=wt BL Tryz.func79 kcN koN
theorem r8:o8:=by
 unfold o8 jjG;rintro⟨a,b,(_|r),⟨⟩⟩ e c d;cases e;have c:aj (U.rd r) a:=c;have d:aj (U.rd r) b:=d;exact⟨rfl,c.1,c.2,rfl,d.1,d.2,rfl⟩
theorem o9:wN PR 120 qm:=wt r8 Tryz.func120 (kcC yA (kcC ce kcN)) koN
theorem jc6 (d:DyD):iW (uY d):=by
 have e:uY d=UR (fun a b=>db (yq (U.bk d a)) (yq (U.bk d b))) db:=by
  funext a b;unfold uY;rw[wP,vb];rfl
 rw[e];exact rP (pC nj (fun a=>yq (U.bk d a))) nj
theorem WM {d:DyD} {a b:Int} (h:uY d a b=0):a=b:=by
 unfold uY at h;rw[wP] at h
 split at h
 contradiction;rw[vb] at h;exact aU.1 h
theorem WN (d:DyD) (a b:Int):decide (uY d a b<0)=dQ d a b:=by
 unfold uY dQ;rw[wP,vb];refine decide_eq_decide.2 ?_;by_cases c:yq (U.bk d a)<yq (U.bk d b);have e:db (yq (U.bk d a)) (yq (U.bk d b))= -1:=(by unfold db;rw[jd c]);rw[e];simp;omega;by_cases f:yq (U.bk d b)<yq (U.bk d a);have e:db (yq (U.bk d a)) (yq (U.bk d b))=1:=(by unfold db;rw[jc c,jd f]);rw[e];simp;omega;have e:db (yq (U.bk d a)) (yq (U.bk d b))=0:=(by unfold db;rw[jc c,jc f]);rw[e];unfold db;simp only[ne_eq,not_true_eq_false,if_false]
 split<;>(try split)<;>omega
theorem jgX (d:DyD) (l:List Int):vB (dQ d) l:=by
 have:=CG (t:= .int) (jc6 d) (l:=l) (fun _ _ _ _ h=>WM h);have e:(kK .int fun(x:Int×Int×Unit)=>(uY d x.1 x.2.1,()))=dQ d:=by
  funext a b;exact WN d a b
 rw[e] at this;exact this
theorem ltK (d:DyD):(cg fun(x:Int×Int×Unit)=>(uY d x.1 x.2.1,()))=dQ d:=by
 funext a b;exact WN d a b
theorem xR:dK:=by
 unfold dK jkQ;rintro⟨(_|r),l,⟨⟩⟩ c f;cases c;obtain⟨d,b⟩:Nv (U.rd r) l:=f;refine⟨⟨d,fun x g y h=>⟨rfl,b x g,b y h,tZ⟩,?_,tZ⟩,fun q a=> ?_⟩;have e:=ltK (U.rd r);show vB (cg fun(x:Int×Int×Unit)=>(uY (U.rd r) x.1 x.2.1,())) l;rw[e];exact jgX _ l;have e:=ltK (U.rd r);have a:q.1.1=kG (cg fun(x:Int×Int×Unit)=>(uY (U.rd r) x.1 x.2.1,())) l:=a;rw[e] at a;obtain⟨⟨q,⟨⟩⟩,⟨⟩⟩:=q;rw[show q=_ from a];rfl
theorem Mf:(NN 9 [(120,qm)] [] [(119,qL)] []).ok PR:=OT ⟨fun _=>o9,tZ⟩ trivial ⟨BE,tZ⟩ trivial
theorem ui:wN PR 77 dJ:=
 jeF (body:=wK Tryz.f77) (C:=NN 9 [(120,qm)] [] [(119,qL)] []) (hk:=hkC (NN 9 [(120,qm)] [] [(119,qL)] []) (fun _=>none) jcN [8] [(118,20,qR)]) Mf mixed Tryz.func77 (by kernel_rfl) (by kernel_rfl) (by kernel_rfl) (by decide)
  (fun B=>HH Mf mixed OO (WK nE) B) (nF.mpr xR)
theorem BM:xP:=by
 rintro⟨b,(_|r),a,⟨⟩⟩ c f e d;cases c;exact⟨rfl,f,d,e,rfl⟩
theorem xS:wN PR 78 xO:=wt BM Tryz.func78 (kcC xQ kcN) koN
theorem EO {d:DyD} {s:List Int} {i:Nat} (h:i<s.length):aO d s (i+1)=aO d s i+(dp (U.bk d (nth s i))-yq (U.bk d (nth s i))):=by
 unfold aO Cg;rw[L.kT h,j7,jz];rfl
theorem WO {d:DyD} (a:wZ d=true) {s:List Int} (c:∀b∈s,aj d b):∀i,i<=s.length->0<=aO d s i/\aO d s i<=1440*(i:Int)
 |0,_=>⟨zo _,zo _⟩
 |i+1,hi=>by
  have f:=WO a c i (by omega)
  have e:=lj a (c _ (L.kJ (l:=s) (i:=i) (by omega)))
  rw[EO (by omega)]
  omega
theorem Ps {d:DyD} {l:List Int} {b:Int}:b∈kS d l↔b∈l:=(wJ l).mem_iff
theorem Pt (d:DyD) (l:List Int):(kS d l).length=l.length:=(wJ l).length_eq
theorem Gn:EK:=by
 unfold EK jkR jii jkj jiP jhg jhy jix Prod.q4;rintro⟨(_|r),p,l,⟨⟩⟩ D v q K;cases D;obtain⟨⟨c1,c2,u⟩,v⟩:Nw r:=v;have q:Sb (U.rd r) p:=q;obtain⟨z,A⟩:Nv (U.rd r) l:=K;have N:=(wI c1).2.2.1;refine⟨rfl,⟨z,A⟩,fun _=> ?_⟩;obtain⟨s,o⟩:∃s,s=kS (U.rd r) l:=⟨_,rfl⟩;have O:s.length<=12:=(by rw[o,Pt];exact z);have k:∀b∈s,aj (U.rd r) b:=fun b d=>A b (by rw[o] at d;exact Ps.1 d)
 have t:U.ro (some r)=r:=rfl;simp only[t,<-o];refine⟨⟨0,⟨⟨rfl,rfl,tZ⟩,tZ⟩,jt _,fun b d=>by omega⟩,fun x w=>⟨fun h=> ?_,fun h=> ?_⟩⟩;have h:(x:Int)<s.length:=ja h;have a:x<s.length:=(by omega);have d:=k _ (L.kJ a);have H:=lj u d;have M:=WO u k x (by omega);have C:((x:Int)+1).toNat=x+1:=(by omega);have B:(s.drop (x+1)).take (s.length-(x+1))=s.drop (x+1):=zp (by rw[kf];omega);have I:yq (U.bk (U.rd r) (nth s x))=(nth (kH (U.rd r)) (nth s x).toNat).2.2.1:=rfl;simp only[jm,C,B];have n:(nth s x)<((aN r).length:Int):=(by rw[v];exact d.2);have m:Km (U.rd r) (aN r) p s x= !(decide (bI (nth (aN r) (nth s x).toNat/2^p.toNat) 1=0)||(s.drop (x+1)).any (fun c=>decide (cR (U.rd r) (nth s x) c<0))):=rfl;have j:((s.drop (x+1)).any (kC fun(y:Int×Unit)=>(decide (cR (U.rd r) (nth s x) y.fst<0),())))=(s.drop (x+1)).any (fun c=>decide (cR (U.rd r) (nth s x) c<0)):=rfl;unfold Sb at q;refine⟨by omega,h,rfl,d.1,d.2,rfl,d.1,d.2,?_,?_,rfl,d.1,n,q.1,by omega,fun _=>iZ6,fun _=>by omega,fun _=>by omega,fun _=>by omega,fun _ g J=>⟨rfl,⟨c1,c2,u⟩,k g (zZ J),d,tZ⟩,fun f=> ?_,fun f=>⟨iZ6,x+1,⟨⟨by simp,(EO a).symm,tZ⟩,tZ⟩,⟨by omega,fun b G=> ?_⟩,by omega⟩⟩;show kU (dp (U.bk (U.rd r) (nth s x))-yq (U.bk (U.rd r) (nth s x)));exact iZ6;show kU (aO (U.rd r) s x+(dp (U.bk (U.rd r) (nth s x))-yq (U.bk (U.rd r) (nth s x))));exact iZ6;have f:(decide (bI (nth (aN r) (nth s x).toNat/2^p.toNat) 1=0)||((s.drop (x+1)).any (kC fun(y:Int×Unit)=>(decide (cR (U.rd r) (nth s x) y.fst<0),()))))=true:=f;have f:Km (U.rd r) (aN r) p s x=false:=(by rw[m,<-j,f];rfl);have:ij r p l=false:=by
  unfold ij Ci jd1;rw[<-o];have:(List.range s.length).all (Km (U.rd r) (aN r) p s)=false:=by
   rw[zS];exact⟨x,by simpa using a,by rw[f];simp⟩
  rw[this];rfl
 rw[this];by_cases e:b=x;subst e;have f:(decide (bI (nth (aN r) (nth s b).toNat/2^p.toNat) 1=0)||((s.drop (b+1)).any (kC fun(y:Int×Unit)=>(decide (cR (U.rd r) (nth s b) y.fst<0),()))))=false:=f;rw[m,<-j,f];rfl;exact w.2 b (by omega);have h:¬(x:Int)<s.length:=je h;have a:x=s.length:=(by have:=w.1;omega);refine⟨rfl,?_⟩;have E:(List.range s.length).all (Km (U.rd r) (aN r) p s)=true:=by
  rw[jR];intro i hi;exact w.2 i (by rw[a];simpa using hi)
 have F:aO (U.rd r) s x=Cg (U.rd r) s:=by
  unfold aO;rw[a,zp (jj _)]
 rw[F];have:ij r p l=decide (Cg (U.rd r) s<=R9 (U.rd r)):=by
  unfold ij Ci jd1;rw[<-o,E,km]
 rw[this];rfl
theorem nJ:wN PR 45 nG:=vZ EJ Gn Tryz.func45 (kcC ui (kcC xS (kcC yw kcN))) koN
theorem EP (on:List (List Int)) (b:Int) (n:Nat):aP on b (n+1)=if(nth on n).any (fun x=>decide (x=b))=true then bor (aP on b n) (1*2^n) else aP on b n:=by
 unfold aP;rw[jN,jz];rfl
theorem nK (n:Nat):(1:Int)*2^n=2^n:=Int.one_mul _
theorem EQ:BI:=by
 unfold BI jhz jiQ;rintro⟨(_|r),b,⟨⟩⟩ g d;cases g;have d:(yr r).length<=60:=d;have c:U.ro (some r)=r:=rfl;refine⟨rfl,fun _=>⟨⟨0,⟨⟨rfl,rfl,tZ⟩,tZ⟩,jt _⟩,fun x f=>⟨fun h=> ?_,fun h=> ?_⟩⟩⟩;have h:(x:Int)<(yr r).length:=ja h;have e:=EP (yr r) b x;have i:BT.qH ((2:Int)^x):=BT.lA (by omega);unfold BT.qH at i;simp only[jm,c];refine⟨by omega,h,fun a=>⟨by omega,by omega,by rw[nK];exact iZ6,iZ6,x+1,⟨⟨by simp,?_,tZ⟩,tZ⟩,by omega,by omega⟩,fun a=>⟨iZ6,x+1,⟨⟨?_,by simp,tZ⟩,tZ⟩,by omega,by omega⟩⟩;rw[e];have a:((nth (yr r) x).any fun y=>decide (y=b))=true:=a;rw[jd a];rw[e];have a:((nth (yr r) x).any fun y=>decide (y=b))=false:=a;rw[jc (by rw[a];simp)];have h:¬(x:Int)<(yr r).length:=je h;have f:x<=(yr r).length:=f;rw[show x=(yr r).length by omega];rfl
theorem lK:wN PR 87 BG:=vZ BH EQ Tryz.func87 (kcC dH kcN) koN
theorem ER:BK:=by
 unfold BK jjc;rintro⟨(_|r),b,t,⟨⟩⟩ c a;cases c;have a:aj (U.rd r) b:=a;exact⟨rfl,rfl,a.1,a.2,rfl⟩
theorem lM:wN PR 21 BJ:=wt ER Tryz.func21 (kcC Pc kcN) koN
theorem HQ (l:List PeD) (t:Int) (n:Nat):bZ l t (n+1)=bZ l t n+bI (t/2^n) 1*U.fe (nth l n):=by
 unfold bZ;rw[jN,jz];rfl
theorem Jn {c:CrD} (h:kZ c=true) {i:Nat} (hi:i<(kI c).length):0<=U.fe (nth (kI c) i)/\U.fe (nth (kI c) i)<=1000:=by
 have:=(wI h).2.2.2.2.1 _ (L.kJ hi);unfold f8 at this;simp only[ji,jv] at this;obtain⟨⟨_,_,_,_,_,_,a,b⟩,_⟩:=this;exact⟨a,b⟩
theorem WP {z f:Int} (a:0<=f/\f<=1000):0<=bI z 1*f/\bI z 1*f<=1000:=by
 rcases Rz z with h|h;rw[h,Int.zero_mul];omega;rw[h,Int.one_mul];omega
theorem Jo {c:CrD} (h:kZ c=true) (t:Int):∀i,i<=(kI c).length->0<=bZ (kI c) t i/\bZ (kI c) t i<=1000*(i:Int)
 |0,_=>⟨zo _,zo _⟩
 |i+1,hi=>by
  have a:=Jo h t i (by omega)
  have:=WP (z:=t/2^i) (Jn h (i:=i) (by omega))
  rw[HQ]
  omega
theorem Gp:EM:=by
 unfold EM jhU jiy Prod.q4;rintro⟨(_|r),t,⟨⟩⟩ d a f g;cases d;have a:kZ (kD (U.rd r))=true:=a;have l:=(wI a).2.2.1;have b:U.ro (some r)=r:=rfl;refine⟨rfl,fun _=>⟨⟨0,⟨⟨rfl,rfl,tZ⟩,tZ⟩,jt _⟩,fun x c=>⟨fun h=> ?_,fun h=> ?_⟩⟩⟩;have h:(x:Int)<(kI (kD (U.rd r))).length:=ja h;have e:=HQ (kI (kD (U.rd r))) t x;have j:=Jo a t x (by omega);have k:=WP (z:=t/2^x) (Jn a (i:=x) (by omega));simp only[jm,b];refine⟨by omega,h,by omega,by omega,L.Cs (by show _<=bI (t/2^x) 1*U.fe (nth (kI (kD (U.rd r))) x);omega) (by show bI (t/2^x) 1*U.fe (nth (kI (kD (U.rd r))) x)<=_;omega),L.Cs (by show _<=bZ _ t x+bI (t/2^x) 1*U.fe (nth (kI (kD (U.rd r))) x);omega) (by show bZ _ t x+bI (t/2^x) 1*U.fe (nth (kI (kD (U.rd r))) x)<=_;omega),iZ6,x+1,⟨⟨by simp,e.symm,tZ⟩,tZ⟩,by omega,by omega⟩;have h:¬(x:Int)<(kI (kD (U.rd r))).length:=je h;have c:x<=(kI (kD (U.rd r))).length:=c;rw[show x=(kI (kD (U.rd r))).length by omega];rfl
theorem ES:wN PR 46 nI:=vZ EL Gp Tryz.func46 kcN koN
theorem r9 {l:List ShD} {s:ShD}:s∈wS l↔s∈l:=by
 have e:wS l=bO (fun a b=>decide (a=b)) (kG (kK tSh fun x=>(dR x.1 x.2.1,())) l):=by
  unfold wS;congr 1
 rw[e,L.comp_mem];exact(wJ l).mem_iff
theorem Mg (l:List ShD):(wS l).Nodup:=by
 have e:wS l=bO (fun a b=>decide (a=b)) (kG (kK tSh fun x=>(dR x.1 x.2.1,())) l):=by
  unfold wS;congr 1
 rw[e];refine L.asc_nodup (lt:=kK tSh fun x=>(dR x.1 x.2.1,())) (fun x=> ?_) (L.comp_asc (ZW _) (cu (ZW l)));exact(ZW [x]).irrefl x (ky.2 rfl)
theorem jbB (l:List ShD):∀i,i<=l.length->∀k,w4 0 (wv .int k (yk [] l i))=(((l.take i).countP (fun s=>decide (yZ s=k)):Nat):Int)
 |0,_,k=>rfl
 |i+1,hi,k=>by
  have a:=jbB l i (by omega)
  rw[fN (by omega),L.kT (by omega),zL]
  unfold oK
  by_cases e:k=yZ (nth l i)
  rw[e]
  rw[M.sD (kt:= .int) (yZ (nth l i)) (w4 0 (wv .int (yZ (nth l i)) (yk [] l i))+1) (yk [] l i)]
  show w4 0 (wv .int (yZ (nth l i)) (yk [] l i))+1=_
  rw[a]
  simp
  rw[M.eN (kt:= .int) (k:=yZ (nth l i)) (k':=k) e (w4 0 (wv .int (yZ (nth l i)) (yk [] l i))+1) (yk [] l i),a]
  have:decide (yZ (nth l i)=k)=false:=zz fun h=>e h.symm
  simp[this]
theorem RC {l:List ShD} {i:Nat} (h:i<l.length):uX [] l i=(l.take i).any (fun s=>decide (yZ s=yZ (nth l i))):=by
 unfold uX Sa;rw[<-fN h,jbB l (i+1) (by omega),L.kT h,zL];rw[j8,jv,zh];have b:List.countP (fun s=>decide (yZ s=yZ (nth l i))) [nth l i]=1:=(by simp);rw[b];constructor;intro a;have:0<(l.take i).countP (fun s=>decide (yZ s=yZ (nth l i))):=(by omega);rw[List.countP_pos_iff] at this;exact this;intro a;have:0<(l.take i).countP (fun s=>decide (yZ s=yZ (nth l i))):=List.countP_pos_iff.2 a;omega
theorem jc7 (l:List ShD):UT l=false↔(l.map yZ).Nodup:=by
 have g:UT l=false↔∀i,i<l.length->uX [] l i=false:=by
  unfold UT;constructor;intro h i hi;cases k:uX [] l i with
  |false=>rfl
  |true=>
   exfalso;have b:(List.range l.length).findIdx? (uX [] l)≠none:=by
    intro f;rw[List.findIdx?_eq_none_iff] at f;have:=f i (jp.2 hi);rw[k] at this;cases this
   unfold nX yO at h;cases d:(List.range l.length).findIdx? (uX [] l) with
   |none=>exact b d
   |some j=>
    rw[d] at h;have h:=je h;exact h (jQ j)
  intro h;rw[(HN h).1];rfl
 rw[g,List.nodup_iff_pairwise_ne,zJ,zq];constructor;intro h i j hi a m e;have:=h j a;rw[RC a,zu] at this;have c:=this (l[i]) (by rw[zj];exact⟨i,by omega,rfl⟩);rw[L.wz a] at c;simp[e] at c;intro h i hi;rw[RC hi,zu];intro s b;rw[zj] at b;obtain⟨j,a,rfl⟩:=b;have:=h j i (by omega) hi (by omega);rw[L.wz hi];simpa using this
theorem WQ (l:List ShD):UT (wS l)=false↔∀a∈l,∀b∈l,yZ a=yZ b->a=b:=by
 rw[jc7];constructor;intro h a c b d e;exact L.nodup_inj h (r9.2 c) (r9.2 d) e;intro h;rw[List.nodup_iff_pairwise_ne,zJ];exact(List.Pairwise.imp_of_mem (fun{a b} c d f e=>f (h a (r9.1 c) b (r9.1 d) e)) (Mg l))
theorem Mh (l:List ShD):bY l=false↔∀a∈l,∀b∈l,yZ a=yZ b->a=b:=by
 have k:bY l=false↔∀i,i<l.length->∀j,j<i->FF (nth l i) (nth l j)=false:=by
  unfold bY ab CQ;rw[zu];constructor;intro h i hi j d;have:=h i (jp.2 hi);rw[kw,zu] at this;have:=this (nth l j) (by rw[zj];exact⟨j,by omega,(L.wz (by omega)).symm⟩);simpa using this;intro h i hi;have hi:=jp.1 hi;rw[kw,zu];intro s g;rw[zj] at g;obtain⟨j,d,rfl⟩:=g;have:=h i hi j (by omega);rw[L.wz (l:=l) (i:=j) (by omega)] at this;simpa using this
 rw[k];have f:∀a b:ShD,FF a b=false↔(yZ a=yZ b->a=b):=by
  intro a b;unfold FF;rw[Bool.and_eq_false_iff];simp only[jI,zv,jv];constructor;rintro(h|h) e;exact absurd e h;exact h;intro h;by_cases e:yZ a=yZ b;exact .inr (h e);exact .inl e
 constructor;intro h a m b n e;obtain⟨i,hi,rfl⟩:=L.mem_iff.1 m;obtain⟨j,d,rfl⟩:=L.mem_iff.1 n;rcases kl i j with c|rfl|c;exact((f _ _).1 (h j d i c) e.symm).symm;rfl;exact(f _ _).1 (h i hi j c) e;intro h i hi j d;exact(f _ _).2 (h _ (L.kJ hi) _ (L.kJ (by omega)))
theorem WR (l:List ShD):UT (wS l)=bY l:=by
 have:=(WQ l).trans (Mh l).symm;cases a:UT (wS l) with
 |false=>exact(this.1 a).symm
 |true=>
  cases b:bY l with
  |false=>rw[this.2 b] at a;cases a
  |true=>rfl
theorem vC (d:DyD):wj d=gx d:=by
 unfold wj Av gx;rw[WR]
 split
 rfl
 split
 rfl;rw[jc (by simp)]
abbrev tSt:Ty:= .st [.int,.int]
abbrev jfP:Sh:= .box 73 [.dat .int,.dat (.slice tPe),.dat (.slice tLw),.dat (.slice (.slice tSp)),.dat (.slice tBk),.dat .int,.dat .int,.dat (.slice tSh),.row 3 .int .yes,.row 31 (.slice .int) .no,.row 3 .int .unk]
namespace U
def noI:List Int:=[]
def v8 (b:jfP.D):RoD:=(((b.1,b.2.1,b.2.2.1,()),b.2.2.2.1,b.2.2.2.2.1,b.2.2.2.2.2.1,b.2.2.2.2.2.2.1,b.2.2.2.2.2.2.2.1,()),b.2.2.2.2.2.2.2.2.1,b.2.2.2.2.2.2.2.2.2.1,b.2.2.2.2.2.2.2.2.2.2.1,())
def Cj (b:jfP.D) (x:List (List Int)×List Int):jfP.D:=(b.1,b.2.1,b.2.2.1,b.2.2.2.1,b.2.2.2.2.1,b.2.2.2.2.2.1,b.2.2.2.2.2.2.1,b.2.2.2.2.2.2.2.1,b.2.2.2.2.2.2.2.2.1,x.1,x.2,())
def dr (s:ShD):Int×Int×Unit:=(bP s,au s,())
def qr (l:List ShD) (n:Nat):List ((Int×Int×Unit)×ShD):=(l.take n).foldl (fun m s=>iv tSt (dr s) s m) []
def ve (m:List ((Int×Int×Unit)×ShD)) (s:ShD):Bool:= !(!decide (w4 (Ty.dflt tSh) (wv tSt (dr s) m)=s)|| !decide (YV s=1))
def Nx (d:DyD) (cZ:List Int) (m:List ((Int×Int×Unit)×ShD)) (x:List (List Int)×List Int) (s:ShD):List (List Int)×List Int:=
 if ve m s=true then(if Ci d cZ (au s) (nth x.1 (au s).toNat++[bP s])=true then(x.1.set (au s).toNat (nth x.1 (au s).toNat++[bP s]),x.2) else(x.1,x.2++[yZ s])) else x
def jg6 (l:List ShD):List ShD:=kG (kK tSh fun x=>(kY x.1 x.2.1,())) l
def wm (d:DyD):List ShD:=jg6 (wS (qG d))
def qM (r:RoD) (l:List ShD) (n:Nat):List (List Int)×List Int:=(l.take n).foldl (Nx (rd r) (aN r) (qr l l.length)) (yr r,jgu r)
def bQ (r:RoD):List (List Int)×List Int:=((qM r (wm (rd r)) (wm (rd r)).length).1,FD (qM r (wm (rd r)) (wm (rd r)).length).2)
def ja8 (l:List (List Int)):Prop:=∀x∈l,x=noI
def ja9 (r:RoD):Prop:=(wj (rd r)=0/\(aN r).length=(kH (rd r)).length)/\((yr r).length=(kI (kD (rd r))).length/\ja8 (yr r))/\jgu r=noI
def dS (r:RoD) (l:List ShD) (n:Nat) (x:List (List Int)×List Int):Prop:=x.1.length=(kI (kD (rd r))).length/\x.2.length<=n/\∀p:Nat,(nth x.1 p).Nodup/\∀b∈nth x.1 p,aj (rd r) b/\∃i:Nat,i<n/\dr (nth l i)=(b,(p:Int),())/\w4 (Ty.dflt tSh) (wv tSt (dr (nth l i)) (qr l l.length))=nth l i
end U
def bx (σ:St) (o:Nat):List SV:=match σ.obj o with|some (.box _ _ cs)=>cs|_=>[]
def gb (t:Ty) (σ:St) (o:Nat):t.Data:=match yy σ t (bx σ o) with|some (x,_)=>x|none=>t.dflt
abbrev Gq:qC:=Wf 3
def xT:qC:=⟨[.own jfP true],[],fun d=>[ja9 (v8 d.1)],fun d=>((),(Cj d.1 (bQ (v8 d.1)),()))⟩
def xU:Ann:=fun r=>match r with
 |4=>some fun σ=>{X:=Nat,sl:=fun i=>[(20,.dat .int (i:Int))],ob:=fun i=>[(9,some (.map false tSt tSh (qr (gr tSh σ 3) i)))],inv:=fun i=>i<=(gr tSh σ 3).length,mu:=fun i=>(gr tSh σ 3).length-i}
 |9=>some fun σ=>{X:=Nat,sl:=fun i=>[(34,.dat .int (i:Int))],ob:=fun i=>[(400009,some (.row 31 (.slice .int) false .no (qM (gb tRo σ 1000000) (gr tSh σ 3) i).1)),(400010,some (.row 3 .int false .unk (qM (gb tRo σ 1000000) (gr tSh σ 3) i).2))],inv:=fun i=>i<=(gr tSh σ 3).length/\dS (gb tRo σ 1000000) (gr tSh σ 3) i (qM (gb tRo σ 1000000) (gr tSh σ 3) i),mu:=fun i=>(gr tSh σ 3).length-i}
 |_=>none
abbrev jhp (d:(Int×List PeD×List LwD×List (List (Int×Int×Unit))×List BkD×Int×Int×List ShD×List Int×List (List Int)×List Int×Unit)×Unit):=(((d.1.1,d.1.2.1,d.1.2.2.1,()),d.1.2.2.2.1,d.1.q4.1,d.1.q4.2.1,d.1.q4.2.2.1,d.1.q4.2.2.2.1,()),d.1.q4.q4)
abbrev jjH:=(Ty.int.pair (Ty.int.pair Ty.unit))
abbrev jkS:=(kK (Ty.int.pair (Ty.int.pair (Ty.int.pair jjH))) fun(a:ShD×ShD×Unit)=>(kY a.1 a.2.1,()))
abbrev jg8 (d:(Int×List PeD×List LwD×List (List (Int×Int×Unit))×List BkD×Int×Int×List ShD×List Int×List (List Int)×List Int×Unit)×Unit):=(kG jkS (wS d.1.q4.2.2.2.1))
abbrev jhb (d:(Int×List PeD×List LwD×List (List (Int×Int×Unit))×List BkD×Int×Int×List ShD×List Int×List (List Int)×List Int×Unit)×Unit)(a:Nat):=(nth (jg8 d) (a:Int).toNat)
abbrev jhj (d:(Int×List PeD×List LwD×List (List (Int×Int×Unit))×List BkD×Int×Int×List ShD×List Int×List (List Int)×List Int×Unit)×Unit)(a:Nat):=(qM (jhp d) (jg8 d) a)
abbrev jiR (d:(Int×List PeD×List LwD×List (List (Int×Int×Unit))×List BkD×Int×Int×List ShD×List Int×List (List Int)×List Int×Unit)×Unit)(a:Nat):=(some (((d.1.1,d.1.2.1,d.1.2.2.1,()),d.1.2.2.2.1,d.1.q4.1,d.1.q4.2.1,d.1.q4.2.2.1,d.1.q4.2.2.2.1,()),d.1.q4.q4.1,(jhj d a).1,(jhj d a).2,()))
abbrev jkT:=((0:Int),(0:Int),(0:Int),(0:Int),(0:Int),())
def xV:Prop:=∀(d:(Int×List PeD×List LwD×List (List (Int×Int×Unit))×List BkD×Int×Int×List ShD×List Int×List (List Int)×List Int×Unit)×Unit),ja9 (v8 d.1)->d.1.q4.2.2.2.1.length<=100000/\(∀(c:ShD),c∈wS d.1.q4.2.2.2.1->∀(y:ShD),y∈wS d.1.q4.2.2.2.1->kV [])/\vB jkS (wS d.1.q4.2.2.2.1)/\((jg8 d).length<4611686018427387904->(∃(x:Nat),((0=(x:Int)/\True)/\[]=qr (jg8 d) x/\True)/\x<=(jg8 d).length)/\∀(x:Nat),x<=(jg8 d).length->(decide ((x:Int)<(jg8 d).length)=true->0<=(x:Int)/\(x:Int)<(jg8 d).length/\kU ((x:Int)+1)/\∃(b:Nat),(((x:Int)+1=(b:Int)/\True)/\iv jjH (nth (jg8 d) (x:Int).toNat).2.2.2 (nth (jg8 d) (x:Int).toNat) (qr (jg8 d) x)=qr (jg8 d) b/\True)/\b<=(jg8 d).length/\(jg8 d).length-b<(jg8 d).length-x)/\(decide ((x:Int)<(jg8 d).length)=false->(jg8 d).length<4611686018427387904->(∃(x:Nat),((0=(x:Int)/\True)/\d.1.q4.q4.2.1=(qM (jhp d) (jg8 d) x).1/\d.1.q4.q4.2.2.1=(qM (jhp d) (jg8 d) x).2/\True)/\x<=(jg8 d).length/\dS (jhp d) (jg8 d) x (qM (jhp d) (jg8 d) x))/\∀(a:Nat),a<=(jg8 d).length/\dS (jhp d) (jg8 d) a (jhj d a)->(decide ((a:Int)<(jg8 d).length)=true->0<=(a:Int)/\(a:Int)<(jg8 d).length/\((!decide (w4 jkT (wv jjH (jhb d a).2.2.2 (qr (jg8 d) x))=nth (jg8 d) (a:Int).toNat)||decide ((jhb d a).2.2.1≠1))=true->kU ((a:Int)+1)/\∃(b:Nat),(((a:Int)+1=(b:Int)/\True)/\(jhj d a).2=(qM (jhp d) (jg8 d) b).2/\(jhj d a).1=(qM (jhp d) (jg8 d) b).1/\True)/\(b<=(jg8 d).length/\dS (jhp d) (jg8 d) b (qM (jhp d) (jg8 d) b))/\(jg8 d).length-b<(jg8 d).length-a)/\((!decide (w4 jkT (wv jjH (jhb d a).2.2.2 (qr (jg8 d) x))=nth (jg8 d) (a:Int).toNat)||decide ((jhb d a).2.2.1≠1))=false->(0:Int)<=(jhb d a).q4.1/\(jhb d a).q4.1<(↑(jhj d a).1.length:Int)/\(0:Int)<=(jhb d a).q4.1/\(jhb d a).q4.1<(↑(jhj d a).1.length:Int)/\(0:Int)<=(jhb d a).q4.1/\(jhb d a).q4.1<(↑(jhj d a).1.length:Int)/\(↑(nth (jhj d a).1 (jhb d a).q4.1.toNat).length:Int)=(nth (jhj d a).1 (jhb d a).q4.1.toNat).length/\(↑(nth (jhj d a).1 (jhb d a).q4.1.toNat).length:Int)=(nth (jhj d a).1 (jhb d a).q4.1.toNat).length/\((nth (jhj d a).1 (jhb d a).q4.1.toNat).length+[(jhb d a).2.2.2.1].length)*8<=140737488355328/\(jiR d a).isSome=true/\Nw (U.ro (jiR d a))/\Sb (U.rd (U.ro (jiR d a))) (jhb d a).q4.1/\Nv (U.rd (U.ro (jiR d a))) (nth (jhj d a).1 (jhb d a).q4.1.toNat++[(jhb d a).2.2.2.1])/\(ij (U.ro (jiR d a)) (jhb d a).q4.1 (nth (jhj d a).1 (jhb d a).q4.1.toNat++[(jhb d a).2.2.2.1])=true->(0:Int)<=(jhb d a).q4.1/\(jhb d a).q4.1<(↑(jhj d a).1.length:Int)/\kU ((a:Int)+1)/\∃(b:Nat),(((a:Int)+1=(b:Int)/\True)/\(jhj d a).2=(qM (jhp d) (jg8 d) b).2/\(jhj d a).1.set (jhb d a).q4.1.toNat (nth (jhj d a).1 (jhb d a).q4.1.toNat++[(jhb d a).2.2.2.1])=(qM (jhp d) (jg8 d) b).1/\True)/\(b<=(jg8 d).length/\dS (jhp d) (jg8 d) b (qM (jhp d) (jg8 d) b))/\(jg8 d).length-b<(jg8 d).length-a)/\(ij (U.ro (jiR d a)) (jhb d a).q4.1 (nth (jhj d a).1 (jhb d a).q4.1.toNat++[(jhb d a).2.2.2.1])=false->((jhj d a).2.length+[(jhb d a).1].length)*8<=140737488355328/\kU ((a:Int)+1)/\∃(b:Nat),(((a:Int)+1=(b:Int)/\True)/\(jhj d a).1=(qM (jhp d) (jg8 d) b).1/\(d.1.1=d.1.1/\d.1.2.1=d.1.2.1/\d.1.2.2.1=d.1.2.2.1/\d.1.2.2.2.1=d.1.2.2.2.1/\d.1.q4.1=d.1.q4.1/\d.1.q4.2.1=d.1.q4.2.1/\d.1.q4.2.2.1=d.1.q4.2.2.1/\d.1.q4.2.2.2.1=d.1.q4.2.2.2.1/\True/\True/\True/\True)/\(jhj d a).2++[(jhb d a).1]=(qM (jhp d) (jg8 d) b).2/\True)/\(b<=(jg8 d).length/\dS (jhp d) (jg8 d) b (qM (jhp d) (jg8 d) b))/\(jg8 d).length-b<(jg8 d).length-a)))/\(decide ((a:Int)<(jg8 d).length)=false->()=()/\((d.1.1,d.1.2.1,d.1.2.2.1,d.1.2.2.2.1,d.1.q4.1,d.1.q4.2.1,d.1.q4.2.2.1,d.1.q4.2.2.2.1,d.1.q4.q4.1,(jhj d a).1,FD (jhj d a).2,()),())=(Cj d.1 (bQ (v8 d.1)),()))))
theorem wL {d:DyD} (h:wj d=0):GX d/\∀a∈qG d,∀b∈qG d,yZ a=yZ b->a=b:=by
 unfold wj Av at h;cases c:kZ (kD d) with
 |false=>rw[c] at h;simp at h
 |true=>
  cases e:Nr d with
  |false=>rw[c,e] at h;simp at h
  |true=>
   cases f:wZ d with
   |false=>rw[c,e,f] at h;simp at h
   |true=>
    cases g:UT (wS (qG d)) with
    |true=>rw[c,e,f,g] at h;simp at h
    |false=>exact⟨⟨c,e,f⟩,(WQ _).1 g⟩
theorem jc8:iW kY:=by
 have e:kY=UR (fun a b=>db (Kw a) (Kw b)) (fun a b=>db (yZ a) (yZ b)):=by
  funext a b;unfold kY;rw[wP,vb];rfl
 rw[e];exact rP (pC nj Kw) (pC nj yZ)
theorem WS {a b:ShD} (h:kY a b=0):yZ a=yZ b:=by
 unfold kY at h;rw[wP,vb] at h
 split at h
 contradiction;exact aU.1 h
theorem jgG {d:DyD} (h:wj d=0):vB (kK tSh fun x=>(kY x.1 x.2.1,())) (wS (qG d)):=
 CG jc8 (fun a b e f c=>(wL h).2 a (r9.1 e) b (r9.1 f) (WS c))
theorem gD {d:DyD} {s:ShD}:s∈wm d↔s∈qG d:=((wJ _).mem_iff).trans r9
theorem gg (d:DyD):(wm d).Nodup:=(wJ _).nodup_iff.2 (Mg _)
theorem jc9 (d:DyD):(wm d).length<=(qG d).length:=by
 unfold wm jg6;rw[(wJ _).length_eq];exact WG _
theorem oA {d:DyD} (h:wZ d=true) {s:ShD} (a:s∈qG d):(0<=au s/\au s<((kI (kD d)).length:Int))/\aj d (bP s):=by
 have:=(qv h).2.2.2.2.2.2.2 _ a;unfold ic at this;have:=ja this;unfold aj;omega
theorem ET {l:List ShD} {i:Nat} (h:i<l.length):qr l (i+1)=iv tSt (dr (nth l i)) (nth l i) (qr l i):=by
 unfold qr;rw[L.kT h,jz];rfl
theorem uj {r:RoD} {l:List ShD} {i:Nat} (h:i<l.length):qM r l (i+1)=Nx (U.rd r) (aN r) (qr l l.length) (qM r l i) (nth l i):=by
 unfold qM;rw[L.kT h,jz];rfl
theorem jgd {d:DyD} {l:List Int} (c:l.Nodup) (a:∀b∈l,aj d b):l.length<=(kH d).length:=by
 have:=L.nodup_len l ((List.range (kH d).length).map (fun(b:Nat)=>(b:Int))) c (fun x e=>by
  have:=a x e;unfold aj at this;exact jG.2 ⟨x.toNat,jp.2 (by omega),by omega⟩)
 simpa using this
section
variable {r:RoD} {l:List ShD} {i:Nat}
theorem Mi (t:wZ (U.rd r)=true) (u:∀s∈l,s∈qG (U.rd r)) (nd:l.Nodup) (h:i<l.length) {x:List (List Int)×List Int} (w:dS (U.rd r,aN r,yr r,jgu r,()) l i x)
 (g:ve (qr l l.length) (nth l i)=true):(nth x.1 (au (nth l i)).toNat++[bP (nth l i)]).Nodup/\(∀b∈nth x.1 (au (nth l i)).toNat++[bP (nth l i)],aj (U.rd r) b)/\
  ∀b∈nth x.1 (au (nth l i)).toNat++[bP (nth l i)],∃j:Nat,j<i+1/\dr (nth l j)=(b,((au (nth l i)).toNat:Int),())/\w4 (Ty.dflt tSh) (wv tSt (dr (nth l j)) (qr l l.length))=nth l j:=by
 obtain⟨z,A,p⟩:=w;have v:=oA t (u _ (L.kJ h));have d:w4 (Ty.dflt tSh) (wv tSt (dr (nth l i)) (qr l l.length))=nth l i:=by
  unfold ve at g;simp only[jV,jS,zv,jv] at g;exact g.1
 have n:((au (nth l i)).toNat:Int)=au (nth l i):=(by omega);obtain⟨y,k⟩:=p (au (nth l i)).toNat;refine⟨?_,fun b c=> ?_,fun b c=> ?_⟩;refine zK.2 ⟨y,by simp,fun a q b c e=> ?_⟩;simp at c;subst c;subst e;obtain⟨_,j,m,f,e2⟩:=k _ q;rw[n] at f;have o:dr (nth l j)=dr (nth l i):=f;rw[o,d] at e2;have:=(List.nodup_iff_pairwise_ne.1 nd);rw[zq] at this;refine this j i (by omega) h m ?_;rw[<-L.wz,<-L.wz h];exact e2.symm;rcases ju.1 c with c|c;exact(k b c).1;simp at c;subst c;exact v.2;rcases ju.1 c with c|c;obtain⟨_,j,m,f,e2⟩:=k b c;exact⟨j,by omega,f,e2⟩;simp at c;subst c;exact⟨i,by omega,by rw[n];rfl,d⟩
theorem WT {r:RoD} {x:List (List Int)×List Int} (a:dS r l i x):dS r l (i+1) x:=
 ⟨a.1,by have:=a.2.1;omega,fun p=>⟨(a.2.2 p).1,fun b c=>⟨((a.2.2 p).2 b c).1,by
  obtain⟨j,d,e⟩:=((a.2.2 p).2 b c).2
  exact⟨j,by omega,e⟩⟩⟩⟩
theorem jbC (g:wZ (U.rd r)=true) (j:∀s∈l,s∈qG (U.rd r)) (nd:l.Nodup) (h:i<l.length) {x:List (List Int)×List Int} (a:dS r l i x):
 dS r l (i+1) (Nx (U.rd r) (aN r) (qr l l.length) x (nth l i)):=by
 unfold Nx;cases k:ve (qr l l.length) (nth l i) with
 |false=>rw[jc (by simp)];exact WT a
 |true=>
  rw[jd rfl];have d:=Mi g j nd h a k;have m:=oA g (j _ (L.kJ h))
  split
  refine⟨by show(x.1.set _ _).length=_;rw[zA];exact a.1,by have:=a.2.1;show x.2.length<=_;omega,fun p=> ?_⟩;have c:(au (nth l i)).toNat<x.1.length:=(by rw[a.1];omega);show(nth (x.1.set (au (nth l i)).toNat (nth x.1 (au (nth l i)).toNat++[bP (nth l i)])) p).Nodup/\_;rw[L.vM c]
  split
  rename_i e;subst e;exact⟨d.1,fun b f=>⟨d.2.1 b f,d.2.2 b f⟩⟩;exact(WT a).2.2 p;refine⟨a.1,?_,(WT a).2.2⟩;have:=a.2.1;show(x.2++[yZ (nth l i)]).length<=_;rw[jK];simp;omega
end
theorem Jp {l:List (List Int)} (h:ja8 l) (p:Nat):nth l p=[]:=by
 by_cases a:p<l.length;exact h _ (L.kJ a);unfold nth;rw[za,List.getElem?_eq_none (by omega)];rfl
theorem WU {r:RoD} {l:List ShD} (a:(yr r).length=(kI (kD (U.rd r))).length) (c:ja8 (yr r)) (d:jgu r=U.noI):dS r l 0 (qM r l 0):=by
 refine⟨a,?_,fun p=> ?_⟩;show(jgu r).length<=0;rw[d];exact jj 0;have e:nth (qM r l 0).1 p=[]:=Jp c p;rw[e];exact⟨List.nodup_nil,fun b f=>by cases f⟩
theorem jeN (m:List ((Int×Int×Unit)×ShD)) (s:ShD):ve m s= !(!decide (w4 (Ty.dflt tSh) (wv tSt (dr s) m)=s)||decide (YV s≠1)):=by
 unfold ve;by_cases h:YV s=1<;>simp[h]
section
variable {r:RoD} {l:List ShD} {i:Nat}
theorem CH (h:i<l.length) (a:ve (qr l l.length) (nth l i)=false):qM r l (i+1)=qM r l i:=by
 rw[uj h];unfold Nx;rw[a,jc (by simp)]
theorem EU (h:i<l.length) (a:ve (qr l l.length) (nth l i)=true) (b:Ci (U.rd r) (aN r) (au (nth l i)) (nth (qM r l i).1 (au (nth l i)).toNat++[bP (nth l i)])=true):
 qM r l (i+1)=((qM r l i).1.set (au (nth l i)).toNat (nth (qM r l i).1 (au (nth l i)).toNat++[bP (nth l i)]),(qM r l i).2):=by
 rw[uj h];unfold Nx;rw[a,jd rfl,jd b]
theorem RE (h:i<l.length) (a:ve (qr l l.length) (nth l i)=true) (b:Ci (U.rd r) (aN r) (au (nth l i)) (nth (qM r l i).1 (au (nth l i)).toNat++[bP (nth l i)])=false):
 qM r l (i+1)=((qM r l i).1,(qM r l i).2++[yZ (nth l i)]):=by
 rw[uj h];unfold Nx;rw[a,jd rfl,b,jc (by simp)]
end
theorem BN:xV:=by
 unfold xV jkT jiR jhj jhb jg8 jkS jjH jhp Prod.q4;rintro⟨b,⟨⟩⟩ J;obtain⟨⟨hk,N⟩,⟨O,B⟩,C⟩:ja9 (v8 b):=J;have F:=(wL hk).1;have u:=F.2.2;have v:(qG (U.rd (v8 b))).length<=30:=(qv u).2.2.2.2.1;have H:b.2.2.2.2.2.2.2.1.length<=30:=v;have M:(wm (U.rd (v8 b))).length<=30:=jF (jc9 _) v;have g:∀s∈wm (U.rd (v8 b)),s∈qG (U.rd (v8 b)):=fun s D=>gD.1 D
 have w:=gg (U.rd (v8 b));have K:(kH (U.rd (v8 b))).length<=4:=(qv u).1;refine⟨by show b.2.2.2.2.2.2.2.1.length<=100000;omega,fun _ _ _ _=>tZ,jgG hk,fun _=>⟨⟨0,⟨⟨rfl,tZ⟩,rfl,tZ⟩,jt _⟩,fun x I=>⟨fun h=> ?_,fun h _=>⟨⟨0,⟨⟨rfl,tZ⟩,rfl,rfl,tZ⟩,jt _,WU (r:=v8 b) O B C⟩,fun y n=>⟨fun t=> ?_,fun t=> ?_⟩⟩⟩⟩⟩;have h:(x:Int)<(wm (U.rd (v8 b))).length:=ja h;have D:=ET (l:=wm (U.rd (v8 b))) (i:=x) (by omega);exact⟨by omega,h,iZ6,x+1,⟨⟨by simp,tZ⟩,D.symm,tZ⟩,by show x+1<=(wm (U.rd (v8 b))).length;omega,by show(wm (U.rd (v8 b))).length-(x+1)<(wm (U.rd (v8 b))).length-x;omega⟩;have I:x<=(wm (U.rd (v8 b))).length:=I;have h:¬(x:Int)<(wm (U.rd (v8 b))).length:=je h;have E:x=(wm (U.rd (v8 b))).length:=(by omega);have t:(y:Int)<(wm (U.rd (v8 b))).length:=ja t;have a:y<(wm (U.rd (v8 b))).length:=(by omega);obtain⟨_,e⟩:y<=(wm (U.rd (v8 b))).length/\dS (v8 b) (wm (U.rd (v8 b))) y (qM (v8 b) (wm (U.rd (v8 b))) y):=n;have c:=jbC (r:=v8 b) u g w a e;rw[<-uj a] at c;have up:y+1<=(wm (U.rd (v8 b))).length:=a;have A:(wm (U.rd (v8 b))).length-(y+1)<(wm (U.rd (v8 b))).length-y:=(by omega);have q:=oA u (g _ (L.kJ a));have o:=jeN (qr (wm (U.rd (v8 b))) (wm (U.rd (v8 b))).length) (nth (wm (U.rd (v8 b))) y);subst E;refine⟨by omega,t,fun p=> ?_,fun p=> ?_⟩;have f:ve (qr (wm (U.rd (v8 b))) (wm (U.rd (v8 b))).length) (nth (wm (U.rd (v8 b))) y)=false:=by
  rw[o];have p:(!decide (w4 (Ty.dflt tSh) (wv tSt (dr (nth (wm (U.rd (v8 b))) y)) (qr (wm (U.rd (v8 b))) (wm (U.rd (v8 b))).length))=nth (wm (U.rd (v8 b))) y)||decide (YV (nth (wm (U.rd (v8 b))) y)≠1))=true:=p;rw[p];rfl
 have d:=CH (r:=v8 b) a f;exact⟨iZ6,y+1,⟨⟨by simp,tZ⟩,jP (·.2) d.symm,jP (·.1) d.symm,tZ⟩,⟨up,c⟩,A⟩;have f:ve (qr (wm (U.rd (v8 b))) (wm (U.rd (v8 b))).length) (nth (wm (U.rd (v8 b))) y)=true:=by
  rw[o];have p:(!decide (w4 (Ty.dflt tSh) (wv tSt (dr (nth (wm (U.rd (v8 b))) y)) (qr (wm (U.rd (v8 b))) (wm (U.rd (v8 b))).length))=nth (wm (U.rd (v8 b))) y)||decide (YV (nth (wm (U.rd (v8 b))) y)≠1))=false:=p;rw[p];rfl
 have j:=Mi (r:=v8 b) u g w a e f;have z:=jgd j.1 j.2.1;have G:(nth (qM (v8 b) (wm (U.rd (v8 b))) y).1 (au (nth (wm (U.rd (v8 b))) y)).toNat).length<=4:=by
  rw[jK] at z;omega
 have k:0<=au (nth (wm (U.rd (v8 b))) y):=q.1.1;have m:au (nth (wm (U.rd (v8 b))) y)<((qM (v8 b) (wm (U.rd (v8 b))) y).1.length:Int):=(by rw[e.1];exact q.1.2);have P:=e.2.1;refine⟨k,m,k,m,k,m,rfl,rfl,?_,rfl,⟨F,N⟩,q.1,⟨jF z (by omega),j.2.1⟩,fun n=> ?_,fun n=> ?_⟩;show((nth (qM (v8 b) (wm (U.rd (v8 b))) y).1 (au (nth (wm (U.rd (v8 b))) y)).toNat).length+1)*8<=140737488355328;omega;have d:=EU (r:=v8 b) a f n;exact⟨k,m,iZ6,y+1,⟨⟨by simp,tZ⟩,jP (·.2) d.symm,jP (·.1) d.symm,tZ⟩,⟨up,c⟩,A⟩;have d:=RE (r:=v8 b) a f n;refine⟨?_,iZ6,y+1,⟨⟨by simp,tZ⟩,jP (·.1) d.symm,⟨rfl,rfl,rfl,rfl,rfl,rfl,rfl,rfl,tZ,tZ,tZ,tZ⟩,jP (·.2) d.symm,tZ⟩,⟨up,c⟩,A⟩;show((qM (v8 b) (wm (U.rd (v8 b))) y).2.length+1)*8<=140737488355328;omega;have t:¬(y:Int)<(wm (U.rd (v8 b))).length:=je t;have n:=n.1;have n:y<=(wm (U.rd (v8 b))).length:=n;have a:y=(wm (U.rd (v8 b))).length:=(by omega);subst a;exact⟨rfl,rfl⟩
theorem Gr:ga PR 74 Gq:=ZD Tryz.sortI 3 (qQ Tryz.func74 (c:=wK Tryz.f74) (by kernel_rfl) (by kernel_rfl))
theorem xW:ga PR 42 xT:=AV xU BN Tryz.func42 (kcC Pl (kcC nJ kcN)) (koC uc (koC bV (koC Gr koN)))
end Go.X
namespace Go.X
open U
open Go.Proofs
namespace U
def lR (l:List Int) (n:Nat):Int:=(l.take n).foldl (fun s p=>bor s (1*2^p.toNat)) 0
def Ny (l:List Int):Int:=lR l l.length
def qN (d:DyD) (n:Nat):List Int:=((kH d).take n).map (fun b=>Ny (cZ (kD d) (yY b)))
def jd2 (d:DyD):List (List Int):=List.replicate (kI (kD d)).length noI
def de (d:DyD):RoD:=(d,qN d (kH d).length,jd2 d,noI,())
def gS (d:DyD):RoD:=(d,qN d (kH d).length,(bQ (de d)).1,(bQ (de d)).2,())
def qq (d:DyD):Option RoD:=if wj d=0 then some (gS d) else none
end U
def Mj:qC:=⟨[.val tDy,.nil true],[.cl (.dat (.ptr tRo)),.cl (.dat .int)],fun d=>[(qG d.1).length<=100000],fun d=>((qq d.1,wj d.1,()),())⟩
def WV:Ann:=fun r=>match r with
 |8=>some fun σ=>{X:=Nat,sl:=fun i=>[(39,.dat .int (i:Int))],ob:=fun i=>[(27,some (.box 73 false (((bx σ 27).set 8 (.own (bK 27 8) .int)).set 10 (.own (bK 27 10) .int)))),(bK 27 10,some (.row 3 .int false .yes U.noI)),(bK 27 8,some (.row 3 .int false .yes (qN (gb tDy σ 2) i)))],inv:=fun i=>i<=(kH (gb tDy σ 2)).length,mu:=fun i=>(kH (gb tDy σ 2)).length-i}
 |13=>some fun σ=>{X:=Nat,sl:=fun i=>[(53,.dat .int (i:Int)),(12,.dat .int (lR (gd (.slice .int) σ 51) i))],ob:=fun _=>[],inv:=fun i=>i<=(gd (.slice .int) σ 51).length,mu:=fun i=>(gd (.slice .int) σ 51).length-i}
 |3000005=>some fun _=>{X:=Unit,sl:=fun _=>[],ob:=fun _=>[],inv:=fun _=>True,mu:=fun _=>0}
 |_=>none
abbrev jhq (d:DyD×Unit×Unit)(x:Nat):=(cZ d.1.1 (nth d.1.2.2.1 (x:Int).toNat).1)
abbrev jkU (d:DyD×Unit×Unit):=(d.1.1.1=d.1.1.1/\d.1.1.2.1=d.1.1.2.1/\d.1.1.2.2.1=d.1.1.2.2.1/\d.1.2.1=d.1.2.1/\d.1.2.2.1=d.1.2.2.1/\d.1.2.2.2.1=d.1.2.2.2.1/\d.1.q4.1=d.1.q4.1/\d.1.q4.2.1=d.1.q4.2.1/\True/\True/\True/\True)
abbrev jiS (d:DyD×Unit×Unit):=(d.1.1.2.1.length:Int)
abbrev jkV (d:DyD×Unit×Unit)(x:Nat):=(v8 (d.1.1.1,d.1.1.2.1,d.1.1.2.2.1,d.1.2.1,d.1.2.2.1,d.1.2.2.2.1,d.1.q4.1,d.1.q4.2.1,qN d.1 x,List.replicate (jiS d).toNat [],U.noI,()))
abbrev jhQ (d:DyD×Unit×Unit)(x:Nat):=(Cj (d.1.1.1,d.1.1.2.1,d.1.1.2.2.1,d.1.2.1,d.1.2.2.1,d.1.2.2.2.1,d.1.q4.1,d.1.q4.2.1,qN d.1 x,List.replicate (jiS d).toNat [],U.noI,()) (bQ (jkV d x)))
def Mk:Prop:=∀(d:DyD×Unit×Unit),(qG d.1).length<=100000->(qG d.1).length<=100000/\(decide (wj d.1≠0)=true->(none,wj d.1,())=(qq d.1,wj d.1,())/\()=())/\(decide (wj d.1≠0)=false->0<=(jiS d)/\(jiS d)=(jiS d)/\(jiS d).toNat*24<=140737488355328/\((!true)=true->(!true)=true/\(!true)=true/\False)/\((!true)=false->(!true)=false/\(!true)=false/\(!true)=false/\(!true)=false/\(false=true->(none,(1:Int),())=(qq d.1,wj d.1,())/\()=())/\(qF->d.1.2.2.1.length<4611686018427387904->(∃(x:Nat),((0=(x:Int)/\True)/\(jkU d)/\U.noI=[]/\qN d.1 x=[]/\True)/\x<=(kH d.1).length)/\∀(x:Nat),x<=(kH d.1).length->(decide ((x:Int)<d.1.2.2.1.length)=true->0<=(x:Int)/\(x:Int)<d.1.2.2.1.length/\((jhq d x).length<4611686018427387904->(∃(a:Nat),((0=(a:Int)/\0=lR (jhq d x) a/\True)/\True)/\a<=(jhq d x).length)/\∀(a:Nat),a<=(jhq d x).length->(decide ((a:Int)<(jhq d x).length)=true->0<=(a:Int)/\(a:Int)<(jhq d x).length/\0<=nth (jhq d x) (a:Int).toNat/\nth (jhq d x) (a:Int).toNat<=64/\kU ((1:Int)*2^(nth (jhq d x) (a:Int).toNat).toNat)/\kU ((a:Int)+1)/\∃(b:Nat),(((a:Int)+1=(b:Int)/\bor (lR (jhq d x) a) ((1:Int)*2^(nth (jhq d x) (a:Int).toNat).toNat)=lR (jhq d x) b/\True)/\True)/\b<=(jhq d x).length/\(jhq d x).length-b<(jhq d x).length-a)/\(decide ((a:Int)<(jhq d x).length)=false->((qN d.1 x).length+[lR (jhq d x) a].length)*8<=140737488355328/\kU ((x:Int)+1)/\∃(b:Nat),(((x:Int)+1=(b:Int)/\True)/\U.noI=U.noI/\(jkU d)/\qN d.1 x++[lR (jhq d x) a]=qN d.1 b/\True)/\b<=(kH d.1).length/\(kH d.1).length-b<(kH d.1).length-x)))/\(decide ((x:Int)<d.1.2.2.1.length)=false->ja9 (jkV d x)/\(some ((((jhQ d x).1,(jhQ d x).2.1,(jhQ d x).2.2.1,()),(jhQ d x).2.2.2.1,(jhQ d x).q4.1,(jhQ d x).q4.2.1,(jhQ d x).q4.2.2.1,(jhQ d x).q4.2.2.2.1,()),(jhQ d x).q4.q4.1,(jhQ d x).q4.q4.2.1,(jhQ d x).q4.q4.2.2.1,()),(0:Int),())=(qq d.1,wj d.1,())/\()=()))))
theorem xX {l:List Int} {i:Nat} (h:i<l.length):lR l (i+1)=bor (lR l i) (1*2^(nth l i).toNat):=by
 unfold lR;rw[L.kT h,jz];rfl
theorem WW {d:DyD} {i:Nat} (h:i<(kH d).length):qN d (i+1)=qN d i++[Ny (cZ (kD d) (yY (nth (kH d) i)))]:=by
 unfold qN;rw[L.kT h,j7];rfl
theorem Z1 (d:DyD) (i:Nat):(qN d i).length<=i:=by
 unfold qN;rw[zc,j0];omega
theorem Pu {c:CrD} (h:kZ c=true) {j:JbD} {p:Int} (a:p∈cZ c j):0<=p/\p<8:=by
 have d:=(wI h).2.2.1;unfold cZ at a
 split at a
 unfold cT at a;obtain⟨n,b,rfl⟩:=jG.1 a;have:=jp.1 (jD.1 b).1;omega;cases a
theorem jda {c:CrD} (h:kZ c=true) (j:JbD):(cZ c j).length<=8:=by
 have a:=(wI h).2.2.1;unfold cZ
 split
 unfold cT;rw[zc];exact jF (zH _ _) (by simpa using a);exact jt _
theorem Ml {d:DyD} (h:wj d=0):ja9 (de d):=by
 refine⟨⟨h,?_⟩,⟨?_,fun x a=> ?_⟩,rfl⟩;show(qN d (kH d).length).length=(kH d).length;unfold qN;simp;show(jd2 d).length=(kI (kD d)).length;unfold jd2;simp;have a:x∈jd2 d:=a;unfold jd2 at a;exact(List.mem_replicate.1 a).2
theorem Pv:Mk:=by
 unfold Mk jhQ jkV jiS jkU jhq Prod.q4;rintro⟨d,⟨⟩,⟨⟩⟩ j;refine⟨j,fun h=>⟨?_,rfl⟩,fun h=>⟨jQ _,rfl,?_,fun c=>(by cases c),fun _=>⟨rfl,rfl,rfl,rfl,fun c=>(by cases c),fun _=> ?_⟩⟩⟩;have h:wj d≠0:=ja h;show(none,wj d,())=(qq d,wj d,());unfold qq;rw[jc h];have hk:wj d=0:=jZ.1 (je h);have e:=(wI (wL hk).1.1).2.2.1;have e:d.1.2.1.length<=8:=e;show((d.1.2.1.length:Int)).toNat*24<=140737488355328;omega;have hk:wj d=0:=jZ.1 (je h);clear j h;have f:=(wL hk).1;have r:=f.2.2;have g:(kH d).length<=4:=(qv r).1;have n:d.2.2.1.length<=4:=g;refine fun _=>⟨⟨0,⟨⟨rfl,tZ⟩,⟨rfl,rfl,rfl,rfl,rfl,rfl,rfl,rfl,tZ,tZ,tZ,tZ⟩,rfl,rfl,tZ⟩,jt _⟩,fun x o=>⟨fun h=>⟨by omega,ja h,fun _=>⟨⟨0,⟨⟨rfl,rfl,tZ⟩,tZ⟩,jt _⟩,fun y p=>⟨fun a=> ?_,fun a=> ?_⟩⟩⟩,fun h=> ?_⟩⟩
 have a:(y:Int)<(cZ (kD d) (nth d.2.2.1 (x:Int).toNat).1).length:=ja a;have b:y<(cZ (kD d) (nth d.2.2.1 (x:Int).toNat).1).length:=(by omega);have s:=Pu f.1 (L.kJ b);have k:=xX b;have e:=jda f.1 (nth d.2.2.1 (x:Int).toNat).1;have q:BT.qH ((2:Int)^(nth (cZ (kD d) (nth d.2.2.1 (x:Int).toNat).1) y).toNat):=BT.lA (by omega);unfold BT.qH at q;exact⟨by omega,a,s.1,by show nth (cZ (kD d) (nth d.2.2.1 (x:Int).toNat).1) y<=64;omega,by show kU (1*2^(nth (cZ (kD d) (nth d.2.2.1 (x:Int).toNat).1) y).toNat);rw[nK];exact iZ6,iZ6,y+1,⟨⟨by simp,k.symm,tZ⟩,tZ⟩,by show y+1<=(cZ (kD d) (nth d.2.2.1 (x:Int).toNat).1).length;omega,by show(cZ (kD d) (nth d.2.2.1 (x:Int).toNat).1).length-(y+1)<(cZ (kD d) (nth d.2.2.1 (x:Int).toNat).1).length-y;omega⟩;have h:(x:Int)<(kH d).length:=ja h;have k:=WW (d:=d) (i:=x) (by omega);have j:=Z1 d x;have p:y<=(cZ (kD d) (nth d.2.2.1 (x:Int).toNat).1).length:=p;have a:¬(y:Int)<(cZ (kD d) (nth d.2.2.1 (x:Int).toNat).1).length:=je a;have m:y=(cZ (kD d) (nth d.2.2.1 (x:Int).toNat).1).length:=(by omega);subst m;refine⟨?_,iZ6,x+1,⟨⟨by simp,tZ⟩,rfl,⟨rfl,rfl,rfl,rfl,rfl,rfl,rfl,rfl,tZ,tZ,tZ,tZ⟩,k.symm,tZ⟩,by show x+1<=(kH d).length;omega,by show(kH d).length-(x+1)<(kH d).length-x;omega⟩;show((qN d x).length+1)*8<=140737488355328;omega;have h:¬(x:Int)<(kH d).length:=je h;have o:x<=(kH d).length:=o;have l:x=(kH d).length:=(by omega);subst l;refine⟨Ml hk,?_⟩;refine⟨?_,rfl⟩;show(some (gS d),(0:Int),())=(qq d,wj d,());unfold qq;rw[jd hk,hk]
theorem nL:ga PR 20 Mj:=AV WV Pv Tryz.func20 (kcC HO (kcC ZQ kcN)) (koC xW koN)
namespace U
def ag (d:DyD) (n:Nat):List Int:=(List.range n).map (fun(b:Nat)=>ew (yr (gS d)) (b:Int))
def bR (d:DyD):List Int:=if wj d=0 then ag d (kH d).length else[]
def Sc (d:DyD) (b:Nat):Bool:=pH d (b:Int) (ew (yr (gS d)) (b:Int))
def gO (d:DyD) (n:Nat):List Int:=((List.range n).filter (Sc d)).map (fun(b:Nat)=>(b:Int))
def kB (d:DyD):List Int:=if wj d=0 then gO d (kH d).length else[]
def Nz (d:DyD) (p:Int):Bool:=kA p 0 (((kI (kD d)).length:Int)-1)
def YH (d:DyD) (b:Int):Bool:=kA b 0 (((kH d).length:Int)-1)
end U
def Tt:wD:=⟨[.val tDy],[.slice .int,.int],false,fun d=>[(qG d.1).length<=100000],fun d=>(bR d.1,wj d.1,())⟩
def Tu:Ann:=fun r=>match r with
 |6=>some fun σ=>{X:=Nat,sl:=fun i=>[(19,.dat .int (i:Int)),(6,.own 6 .int)],ob:=fun i=>[(6,some (.row 3 .int false .yes (ag (gb tDy σ 1) i)))],inv:=fun i=>i<=(kH (gb tDy σ 1)).length,mu:=fun i=>(kH (gb tDy σ 1)).length-i}
 |_=>none
def Tv:Prop:=∀(d:DyD×Unit),(qG d.1).length<=100000->(qG d.1).length<=100000/\(decide (wj d.1≠0)=true->([],wj d.1,())=(bR d.1,wj d.1,()))/\(decide (wj d.1≠0)=false->d.1.2.2.1.length<4611686018427387904->(∃(x:Nat),((0=(x:Int)/\True/\True)/\ag d.1 x=[]/\True)/\x<=(kH d.1).length)/\∀(x:Nat),x<=(kH d.1).length->(decide ((x:Int)<d.1.2.2.1.length)=true->(qq d.1).isSome=true/\(yr (U.ro (qq d.1))).length<=60/\((ag d.1 x).length+[ew (yr (U.ro (qq d.1))) (x:Int)].length)*8<=140737488355328/\kU ((x:Int)+1)/\∃(a:Nat),(((x:Int)+1=(a:Int)/\True/\True)/\ag d.1 x++[ew (yr (U.ro (qq d.1))) (x:Int)]=ag d.1 a/\True)/\a<=(kH d.1).length/\(kH d.1).length-a<(kH d.1).length-x)/\(decide ((x:Int)<d.1.2.2.1.length)=false->(ag d.1 x,(0:Int),())=(bR d.1,wj d.1,())))
def Pw:wD:=⟨[.val tDy],[.slice .int,.int],false,fun d=>[(qG d.1).length<=100000],fun d=>(kB d.1,wj d.1,())⟩
def Px:Ann:=fun r=>match r with
 |6=>some fun σ=>{X:=Nat,sl:=fun i=>[(19,.dat .int (i:Int)),(6,.own 6 .int)],ob:=fun i=>[(6,some (.row 3 .int false .yes (gO (gb tDy σ 1) i)))],inv:=fun i=>i<=(kH (gb tDy σ 1)).length,mu:=fun i=>(kH (gb tDy σ 1)).length-i}
 |_=>none
def Py:Prop:=∀(d:DyD×Unit),(qG d.1).length<=100000->(qG d.1).length<=100000/\(decide (wj d.1≠0)=true->([],wj d.1,())=(kB d.1,wj d.1,()))/\(decide (wj d.1≠0)=false->d.1.2.2.1.length<4611686018427387904->(∃(x:Nat),((0=(x:Int)/\True/\True)/\gO d.1 x=[]/\True)/\x<=(kH d.1).length)/\∀(x:Nat),x<=(kH d.1).length->(decide ((x:Int)<d.1.2.2.1.length)=true->(qq d.1).isSome=true/\(yr (U.ro (qq d.1))).length<=60/\(qq d.1).isSome=true/\aj (U.rd (U.ro (qq d.1))) (x:Int)/\(pH (U.rd (U.ro (qq d.1))) (x:Int) (ew (yr (U.ro (qq d.1))) (x:Int))=true->((gO d.1 x).length+[(x:Int)].length)*8<=140737488355328/\kU ((x:Int)+1)/\∃(a:Nat),(((x:Int)+1=(a:Int)/\True/\True)/\gO d.1 x++[(x:Int)]=gO d.1 a/\True)/\a<=(kH d.1).length/\(kH d.1).length-a<(kH d.1).length-x)/\(pH (U.rd (U.ro (qq d.1))) (x:Int) (ew (yr (U.ro (qq d.1))) (x:Int))=false->kU ((x:Int)+1)/\∃(a:Nat),((True/\(x:Int)+1=(a:Int)/\True)/\gO d.1 x=gO d.1 a/\True)/\a<=(kH d.1).length/\(kH d.1).length-a<(kH d.1).length-x))/\(decide ((x:Int)<d.1.2.2.1.length)=false->(gO d.1 x,(0:Int),())=(kB d.1,wj d.1,())))
theorem EV {r:RoD} {l:List ShD} (d:wZ (U.rd r)=true) (e:∀s∈l,s∈qG (U.rd r)) (nd:l.Nodup) (a:(yr r).length=(kI (kD (U.rd r))).length) (b:ja8 (yr r)) (c:jgu r=U.noI):
 ∀i,i<=l.length->dS r l i (qM r l i)
 |0,_=>WU a b c
 |i+1,hi=>by
  rw[uj hi]
  exact jbC d e nd hi (EV d e nd a b c i (by omega))
structure jdb (d:DyD):Prop where
 may:Nw (gS d)
 len:(yr (gS d)).length=(kI (kD d)).length
 row:∀p,(nth (yr (gS d)) p).Nodup/\∀b∈nth (yr (gS d)) p,aj d b
theorem HR {d:DyD} (h:wj d=0):jdb d:=by
 obtain⟨⟨_,i⟩,⟨j,c⟩,e⟩:=Ml h;have f:=(wL h).1;have a:=EV (r:=de d) (l:=wm d) f.2.2 (fun s k=>gD.1 k) (gg d) j c e _ (jj _);refine⟨⟨f,i⟩,a.1,fun p=> ?_⟩;have:=a.2.2 p;exact⟨this.1,fun b g=>(this.2 b g).1⟩
theorem jdb.len60 {d:DyD} (h:jdb d):(yr (gS d)).length<=60:=by
 have a:=(wI h.may.1.1).2.2.1;have a:(kI (kD d)).length<=8:=a;rw[h.len];omega
theorem WX {d:DyD} (h:wj d=0):qq d=some (gS d):=jd h
theorem Tw (d:DyD) (n:Nat):ag d (n+1)=ag d n++[ew (yr (gS d)) (n:Int)]:=by
 unfold ag;rw[jN,j7];rfl
theorem WY:Tv:=by
 rintro⟨d,⟨⟩⟩ j;refine⟨j,fun h=> ?_,fun h _=>⟨⟨0,⟨⟨rfl,tZ,tZ⟩,rfl,tZ⟩,jt _⟩,fun x g=>⟨fun a=> ?_,fun a=> ?_⟩⟩⟩;have h:wj d≠0:=ja h;show([],wj d,())=(bR d,wj d,());unfold bR;rw[jc h];have hk:wj d=0:=jZ.1 (je h);have f:=HR hk;have i:(kH d).length<=4:=(qv f.may.1.2.2).1;have a:(x:Int)<(kH d).length:=ja a;have k:=Tw d x;have e:(ag d x).length=x:=(by unfold ag;simp);have b:=WX hk;refine⟨by show(qq d).isSome=true;rw[b];rfl,by show(yr (U.ro (qq d))).length<=60;rw[b];exact f.len60,?_,iZ6,x+1,⟨⟨by simp,tZ,tZ⟩,?_,tZ⟩,by show x+1<=(kH d).length;omega,by show(kH d).length-(x+1)<(kH d).length-x;omega⟩;show((ag d x).length+1)*8<=_;omega;show ag d x++[ew (yr (U.ro (qq d))) (x:Int)]=ag d (x+1);rw[b,k];rfl;have hk:wj d=0:=jZ.1 (je h);have g:x<=(kH d).length:=g;have a:¬(x:Int)<(kH d).length:=je a;have c:x=(kH d).length:=(by omega);subst c;show(ag d _,(0:Int),())=(bR d,wj d,());unfold bR;rw[jd hk,hk]
theorem Tx:wN PR 49 Tt:=vZ Tu WY Tryz.func49 (kcC lK kcN) (koC nL koN)
theorem Tz (d:DyD) (n:Nat):gO d (n+1)=gO d n++(if Sc d n=true then[(n:Int)] else[]):=by
 unfold gO;rw[L.vD,j7];by_cases h:Sc d n=true;rw[jd h,jd h];rfl;rw[jc h,jc h];rfl
theorem TA:Py:=by
 rintro⟨d,⟨⟩⟩ p;refine⟨p,fun h=> ?_,fun h _=>⟨⟨0,⟨⟨rfl,tZ,tZ⟩,rfl,tZ⟩,jt _⟩,fun x m=>⟨fun b=> ?_,fun b=> ?_⟩⟩⟩;have h:wj d≠0:=ja h;show([],wj d,())=(kB d,wj d,());unfold kB;rw[jc h];have hk:wj d=0:=jZ.1 (je h);have l:=HR hk;have o:(kH d).length<=4:=(qv l.may.1.2.2).1;have b:(x:Int)<(kH d).length:=ja b;have e:=Tz d x;have k:(gO d x).length<=x:=by
  unfold gO;rw[zc];exact jF (zH _ _) (by simp)
 have c:=WX hk;have i:(qq d).isSome=true:=(by rw[c];rfl);have e2:(yr (U.ro (qq d))).length<=60:=(by rw[c];exact l.len60);have n:aj (U.rd (U.ro (qq d))) (x:Int):=(by rw[c];exact⟨by omega,b⟩);have j:pH (U.rd (U.ro (qq d))) (x:Int) (ew (yr (U.ro (qq d))) (x:Int))=Sc d x:=(by rw[c];rfl);have up:x+1<=(kH d).length:=(by omega);have g:(kH d).length-(x+1)<(kH d).length-x:=(by omega);refine⟨i,e2,i,n,fun a=> ?_,fun a=> ?_⟩;have a:Sc d x=true:=(by rw[<-j];exact a);refine⟨?_,iZ6,x+1,⟨⟨by simp,tZ,tZ⟩,?_,tZ⟩,up,g⟩;show((gO d x).length+1)*8<=_;omega;rw[jd a] at e;exact e.symm;have a:Sc d x=false:=(by rw[<-j];exact a);refine⟨iZ6,x+1,⟨⟨tZ,by simp,tZ⟩,?_,tZ⟩,up,g⟩;rw[jc (by rw[a];simp),jY] at e;exact e.symm;have hk:wj d=0:=jZ.1 (je h);have m:x<=(kH d).length:=m;have b:¬(x:Int)<(kH d).length:=je b;have f:x=(kH d).length:=(by omega);subst f;show(gO d _,(0:Int),())=(kB d,wj d,());unfold kB;rw[jd hk,hk]
theorem Pz:wN PR 50 Pw:=vZ Px TA Tryz.func50 (kcC lK (kcC lM kcN)) (koC nL koN)
theorem lk {l:List Int} (h:∀p∈l,0<=p/\p<8):∀n,n<=l.length->BT.qH (lR l n)/\∀q,BT.FS (lR l n) q=true->q<8
 |0,_=>⟨BT.u7,fun q a=>by rw[show lR l 0=0 from rfl,BT.n9] at a;cases a⟩
 |n+1,d=>by
  have b:=lk h n (by omega)
  have e:=h _ (L.kJ (l:=l) (i:=n) (by omega))
  have c:BT.qH ((2:Int)^(nth l n).toNat):=BT.lA (by omega)
  rw[xX (by omega),nK]
  refine⟨BT.bor_set b.1 c,fun q a=> ?_⟩
  rw[BT.has_bor b.1 c,zG,BT.CT,jv] at a
  rcases a with a|a
  exact b.2 q a
  omega
end Go.X
