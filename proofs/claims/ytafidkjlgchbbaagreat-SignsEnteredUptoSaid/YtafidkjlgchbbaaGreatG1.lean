/-
  Plain facts on lists and numbers.
-/
import Derived.Test.YtafidkjlgchbbaaGreatK1
import Derived.Test.YtafidkjlgchbbaaGreatK8
import Derived.Test.YtafidkjlgchbbaaGreatK0
namespace Go.X
namespace L

theorem nth_lt {α : Type} [Inhabited α] {l : List α} {i : Nat} (h : i < l.length) : nth l i = l[i] := by
  unfold nth; simp [h]

theorem take_succ {α : Type} [Inhabited α] {l : List α} {i : Nat} (h : i < l.length) : l.take (i + 1) = l.take i ++ [nth l i] := by
  rw [nth_lt h]; exact List.take_succ_eq_append_getElem h

theorem mem_nth {α : Type} [Inhabited α] {l : List α} {i : Nat} (h : i < l.length) : nth l i ∈ l := by
  rw [nth_lt h]; exact List.getElem_mem h

theorem mem_iff {α : Type} [Inhabited α] {l : List α} {x : α} : x ∈ l ↔ ∃ i, i < l.length ∧ nth l i = x := by
  constructor
  · intro h
    obtain ⟨i, hi, e⟩ := List.getElem_of_mem h
    exact ⟨i, hi, by rw [nth_lt hi, e]⟩
  · rintro ⟨i, hi, rfl⟩; exact mem_nth hi

theorem all_take {α : Type} [Inhabited α] {l : List α} {i : Nat} {p : α → Bool} (h : i < l.length) (h1 : (l.take i).all p = true) (h2 : p (nth l i) = true) : (l.take (i + 1)).all p = true := by
  rw [take_succ h, List.all_append, h1]; simp [h2]

theorem all_of_take {α : Type} {l : List α} {i : Nat} {p : α → Bool} (h : l.length ≤ i) (h1 : (l.take i).all p = true) : l.all p = true := by
  rwa [List.take_of_length_le h] at h1

theorem all_false {α : Type} [Inhabited α] {l : List α} {i : Nat} {p : α → Bool} (h : i < l.length) (h2 : p (nth l i) = false) : l.all p = false := by
  rw [List.all_eq_false]; exact ⟨nth l i, mem_nth h, by simp [h2]⟩

theorem in64 {x : Int} (h1 : -9223372036854775808 ≤ x) (h2 : x ≤ 9223372036854775807) : In64 x := ⟨h1, h2⟩

theorem exN {Q : Nat → Prop} {k : Int} {n : Nat} (h : k = (n : Int)) (hq : Q n) : ∃ x' : Nat, (((k = (x' : Int)) ∧ True) ∧ True) ∧ Q x' := ⟨n, ⟨⟨h, trivial⟩, trivial⟩, hq⟩

end L
end Go.X
/-
  The kit's sorts of this program: laid.
-/
namespace Go.Proofs
open Go.Shelf
def Tryz.sortE_ren : Go.Shelf.Ren := ⟨fun | 6 => 120 | 15 => 103 | 14 => 142 | 28 => 130 | 29 => 131 | 20 => 160 | 21 => 161 | 22 => 162 | 23 => 163 | 24 => 164 | 25 => 165 | 26 => 166 | 27 => 167 | 46 => 172 | 47 => 144 | 48 => 145 | 49 => 173 | 50 => 174 | 57 => 176 | n => n, fun | 22 => 22 | 24 => 44 | 25 => 100 | 3 => 3 | 39 => 53 | 0 => 0 | 53 => 148 | 55 => 150 | 4 => 4 | 46 => 141 | 45 => 140 | 50 => 145 | 5 => 5 | 9 => 9 | 66 => 158 | 70 => 162 | 76 => 176 | 77 => 177 | n => n, fun | n => n⟩
theorem Tryz.sortE : Go.Proofs.SlLaysF0.n6 Tryz.prog Tryz.sortE_ren := {
  mixed := by kernel_rfl
  f6 := ⟨Tryz.f120.name, by decide, Tryz.func120.trans (congrArg some (by kernel_rfl))⟩
  f14 := ⟨Tryz.f142.name, by decide, Tryz.func142.trans (congrArg some (by kernel_rfl))⟩
  f15 := Tryz.func103.trans (congrArg some (by kernel_rfl))
  f20 := ⟨Tryz.f160.name, by decide, Tryz.func160.trans (congrArg some (by kernel_rfl))⟩
  f21 := ⟨Tryz.f161.name, by decide, Tryz.func161.trans (congrArg some (by kernel_rfl))⟩
  f22 := ⟨Tryz.f162.name, by decide, Tryz.func162.trans (congrArg some (by kernel_rfl))⟩
  f23 := ⟨Tryz.f163.name, by decide, Tryz.func163.trans (congrArg some (by kernel_rfl))⟩
  f24 := ⟨Tryz.f164.name, by decide, Tryz.func164.trans (congrArg some (by kernel_rfl))⟩
  f25 := ⟨Tryz.f165.name, by decide, Tryz.func165.trans (congrArg some (by kernel_rfl))⟩
  f26 := ⟨Tryz.f166.name, by decide, Tryz.func166.trans (congrArg some (by kernel_rfl))⟩
  f27 := ⟨Tryz.f167.name, by decide, Tryz.func167.trans (congrArg some (by kernel_rfl))⟩
  f28 := Tryz.func130.trans (congrArg some (by kernel_rfl))
  f29 := Tryz.func131.trans (congrArg some (by kernel_rfl))
  f46 := ⟨Tryz.f172.name, by decide, Tryz.func172.trans (congrArg some (by kernel_rfl))⟩
  f47 := Tryz.func144.trans (congrArg some (by kernel_rfl))
  f48 := Tryz.func145.trans (congrArg some (by kernel_rfl))
  f49 := ⟨Tryz.f173.name, by decide, Tryz.func173.trans (congrArg some (by kernel_rfl))⟩
  f50 := ⟨Tryz.f174.name, by decide, Tryz.func174.trans (congrArg some (by kernel_rfl))⟩
  f57 := ⟨Tryz.f176.name, by decide, Tryz.func176.trans (congrArg some (by kernel_rfl))⟩
  t0 := Tryz.underlying0
  a0 := Tryz.isAgg0
  z0 := Tryz.sizeOf0
  v0 := Tryz.zeroValue0
  t3 := Tryz.underlying3
  a3 := Tryz.isAgg3
  z3 := Tryz.sizeOf3
  v3 := Tryz.zeroValue3
  t4 := Tryz.underlying4
  a4 := Tryz.isAgg4
  z4 := Tryz.sizeOf4
  v4 := Tryz.zeroValue4
  t5 := Tryz.underlying5
  a5 := Tryz.isAgg5
  z5 := Tryz.sizeOf5
  v5 := Tryz.zeroValue5
  t9 := Tryz.underlying9
  a9 := Tryz.isAgg9
  z9 := Tryz.sizeOf9
  v9 := Tryz.zeroValue9
  t22 := Tryz.underlying22
  a22 := Tryz.isAgg22
  z22 := Tryz.sizeOf22
  v22 := Tryz.zeroValue22
  t25 := Tryz.underlying100
  a25 := Tryz.isAgg100
  z25 := Tryz.sizeOf100
  v25 := Tryz.zeroValue100
  t39 := Tryz.underlying53
  a39 := Tryz.isAgg53
  z39 := Tryz.sizeOf53
  v39 := Tryz.zeroValue53
  t45 := Tryz.underlying140
  a45 := Tryz.isAgg140
  z45 := Tryz.sizeOf140
  v45 := Tryz.zeroValue140
  t46 := Tryz.underlying141
  a46 := Tryz.isAgg141
  z46 := Tryz.sizeOf141
  v46 := Tryz.zeroValue141
  t50 := Tryz.underlying145
  a50 := Tryz.isAgg145
  z50 := Tryz.sizeOf145
  v50 := Tryz.zeroValue145
  t53 := Tryz.underlying148
  a53 := Tryz.isAgg148
  z53 := Tryz.sizeOf148
  v53 := Tryz.zeroValue148
  t55 := Tryz.underlying150
  a55 := Tryz.isAgg150
  z55 := Tryz.sizeOf150
  v55 := Tryz.zeroValue150
  t66 := Tryz.underlying158
  a66 := Tryz.isAgg158
  z66 := Tryz.sizeOf158
  v66 := Tryz.zeroValue158
  t70 := Tryz.underlying162
  a70 := Tryz.isAgg162
  z70 := Tryz.sizeOf162
  v70 := Tryz.zeroValue162
  t76 := Tryz.underlying176
  a76 := Tryz.isAgg176
  z76 := Tryz.sizeOf176
  v76 := Tryz.zeroValue176
  t77 := Tryz.underlying177
  a77 := Tryz.isAgg177
  z77 := Tryz.sizeOf177
  v77 := Tryz.zeroValue177 }
def Tryz.sortP_ren : Go.Shelf.Ren := ⟨fun | 6 => 69 | 15 => 103 | 14 => 102 | 28 => 130 | 29 => 131 | 20 => 122 | 21 => 123 | 22 => 124 | 23 => 125 | 24 => 126 | 25 => 127 | 26 => 128 | 27 => 129 | 46 => 143 | 47 => 144 | 48 => 145 | 49 => 146 | 50 => 147 | 57 => 168 | n => n, fun | 22 => 59 | 24 => 63 | 25 => 105 | 3 => 3 | 39 => 53 | 0 => 0 | 53 => 148 | 55 => 150 | 4 => 4 | 46 => 141 | 45 => 140 | 50 => 145 | 5 => 5 | 9 => 9 | 66 => 158 | 70 => 162 | 76 => 176 | 77 => 177 | n => n, fun | n => n⟩
theorem Tryz.sortP : Go.Proofs.SlLaysF0.n6 Tryz.prog Tryz.sortP_ren := {
  mixed := by kernel_rfl
  f6 := ⟨Tryz.f69.name, by decide, Tryz.func69.trans (congrArg some (by kernel_rfl))⟩
  f14 := ⟨Tryz.f102.name, by decide, Tryz.func102.trans (congrArg some (by kernel_rfl))⟩
  f15 := Tryz.func103.trans (congrArg some (by kernel_rfl))
  f20 := ⟨Tryz.f122.name, by decide, Tryz.func122.trans (congrArg some (by kernel_rfl))⟩
  f21 := ⟨Tryz.f123.name, by decide, Tryz.func123.trans (congrArg some (by kernel_rfl))⟩
  f22 := ⟨Tryz.f124.name, by decide, Tryz.func124.trans (congrArg some (by kernel_rfl))⟩
  f23 := ⟨Tryz.f125.name, by decide, Tryz.func125.trans (congrArg some (by kernel_rfl))⟩
  f24 := ⟨Tryz.f126.name, by decide, Tryz.func126.trans (congrArg some (by kernel_rfl))⟩
  f25 := ⟨Tryz.f127.name, by decide, Tryz.func127.trans (congrArg some (by kernel_rfl))⟩
  f26 := ⟨Tryz.f128.name, by decide, Tryz.func128.trans (congrArg some (by kernel_rfl))⟩
  f27 := ⟨Tryz.f129.name, by decide, Tryz.func129.trans (congrArg some (by kernel_rfl))⟩
  f28 := Tryz.func130.trans (congrArg some (by kernel_rfl))
  f29 := Tryz.func131.trans (congrArg some (by kernel_rfl))
  f46 := ⟨Tryz.f143.name, by decide, Tryz.func143.trans (congrArg some (by kernel_rfl))⟩
  f47 := Tryz.func144.trans (congrArg some (by kernel_rfl))
  f48 := Tryz.func145.trans (congrArg some (by kernel_rfl))
  f49 := ⟨Tryz.f146.name, by decide, Tryz.func146.trans (congrArg some (by kernel_rfl))⟩
  f50 := ⟨Tryz.f147.name, by decide, Tryz.func147.trans (congrArg some (by kernel_rfl))⟩
  f57 := ⟨Tryz.f168.name, by decide, Tryz.func168.trans (congrArg some (by kernel_rfl))⟩
  t0 := Tryz.underlying0
  a0 := Tryz.isAgg0
  z0 := Tryz.sizeOf0
  v0 := Tryz.zeroValue0
  t3 := Tryz.underlying3
  a3 := Tryz.isAgg3
  z3 := Tryz.sizeOf3
  v3 := Tryz.zeroValue3
  t4 := Tryz.underlying4
  a4 := Tryz.isAgg4
  z4 := Tryz.sizeOf4
  v4 := Tryz.zeroValue4
  t5 := Tryz.underlying5
  a5 := Tryz.isAgg5
  z5 := Tryz.sizeOf5
  v5 := Tryz.zeroValue5
  t9 := Tryz.underlying9
  a9 := Tryz.isAgg9
  z9 := Tryz.sizeOf9
  v9 := Tryz.zeroValue9
  t22 := Tryz.underlying59
  a22 := Tryz.isAgg59
  z22 := Tryz.sizeOf59
  v22 := Tryz.zeroValue59
  t25 := Tryz.underlying105
  a25 := Tryz.isAgg105
  z25 := Tryz.sizeOf105
  v25 := Tryz.zeroValue105
  t39 := Tryz.underlying53
  a39 := Tryz.isAgg53
  z39 := Tryz.sizeOf53
  v39 := Tryz.zeroValue53
  t45 := Tryz.underlying140
  a45 := Tryz.isAgg140
  z45 := Tryz.sizeOf140
  v45 := Tryz.zeroValue140
  t46 := Tryz.underlying141
  a46 := Tryz.isAgg141
  z46 := Tryz.sizeOf141
  v46 := Tryz.zeroValue141
  t50 := Tryz.underlying145
  a50 := Tryz.isAgg145
  z50 := Tryz.sizeOf145
  v50 := Tryz.zeroValue145
  t53 := Tryz.underlying148
  a53 := Tryz.isAgg148
  z53 := Tryz.sizeOf148
  v53 := Tryz.zeroValue148
  t55 := Tryz.underlying150
  a55 := Tryz.isAgg150
  z55 := Tryz.sizeOf150
  v55 := Tryz.zeroValue150
  t66 := Tryz.underlying158
  a66 := Tryz.isAgg158
  z66 := Tryz.sizeOf158
  v66 := Tryz.zeroValue158
  t70 := Tryz.underlying162
  a70 := Tryz.isAgg162
  z70 := Tryz.sizeOf162
  v70 := Tryz.zeroValue162
  t76 := Tryz.underlying176
  a76 := Tryz.isAgg176
  z76 := Tryz.sizeOf176
  v76 := Tryz.zeroValue176
  t77 := Tryz.underlying177
  a77 := Tryz.isAgg177
  z77 := Tryz.sizeOf177
  v77 := Tryz.zeroValue177 }
def Tryz.sortI_ren : Go.Shelf.Ren := ⟨fun | 189 => 115 | 125 => 103 | 257 => 139 | 128 => 130 | 129 => 131 | 294 => 151 | 295 => 152 | 296 => 153 | 297 => 154 | 298 => 155 | 299 => 156 | 216 => 157 | 300 => 158 | 301 => 159 | 328 => 169 | 329 => 144 | 330 => 145 | 331 => 170 | 332 => 171 | 215 => 101 | 343 => 175 | n => n, fun | 28 => 25 | 3 => 3 | 46 => 53 | 0 => 0 | 51 => 148 | 53 => 150 | 4 => 4 | 183 => 141 | 182 => 140 | 131 => 145 | 5 => 5 | 9 => 9 | 218 => 158 | 222 => 162 | 228 => 176 | 229 => 177 | n => n, fun | n => n⟩
theorem Tryz.sortI : Go.Proofs.Lays.n189 Tryz.prog Tryz.sortI_ren := {
  mixed := by kernel_rfl
  f125 := Tryz.func103.trans (congrArg some (by kernel_rfl))
  f128 := Tryz.func130.trans (congrArg some (by kernel_rfl))
  f129 := Tryz.func131.trans (congrArg some (by kernel_rfl))
  f189 := Tryz.func115.trans (congrArg some (by kernel_rfl))
  f215 := Tryz.func101.trans (congrArg some (by kernel_rfl))
  f216 := Tryz.func157.trans (congrArg some (by kernel_rfl))
  f257 := Tryz.func139.trans (congrArg some (by kernel_rfl))
  f294 := Tryz.func151.trans (congrArg some (by kernel_rfl))
  f295 := Tryz.func152.trans (congrArg some (by kernel_rfl))
  f296 := Tryz.func153.trans (congrArg some (by kernel_rfl))
  f297 := Tryz.func154.trans (congrArg some (by kernel_rfl))
  f298 := Tryz.func155.trans (congrArg some (by kernel_rfl))
  f299 := Tryz.func156.trans (congrArg some (by kernel_rfl))
  f300 := Tryz.func158.trans (congrArg some (by kernel_rfl))
  f301 := Tryz.func159.trans (congrArg some (by kernel_rfl))
  f328 := Tryz.func169.trans (congrArg some (by kernel_rfl))
  f329 := Tryz.func144.trans (congrArg some (by kernel_rfl))
  f330 := Tryz.func145.trans (congrArg some (by kernel_rfl))
  f331 := Tryz.func170.trans (congrArg some (by kernel_rfl))
  f332 := Tryz.func171.trans (congrArg some (by kernel_rfl))
  f343 := Tryz.func175.trans (congrArg some (by kernel_rfl))
  t0 := Tryz.underlying0
  a0 := Tryz.isAgg0
  z0 := Tryz.sizeOf0
  v0 := Tryz.zeroValue0
  t3 := Tryz.underlying3
  a3 := Tryz.isAgg3
  z3 := Tryz.sizeOf3
  v3 := Tryz.zeroValue3
  t4 := Tryz.underlying4
  a4 := Tryz.isAgg4
  z4 := Tryz.sizeOf4
  v4 := Tryz.zeroValue4
  t5 := Tryz.underlying5
  a5 := Tryz.isAgg5
  z5 := Tryz.sizeOf5
  v5 := Tryz.zeroValue5
  t9 := Tryz.underlying9
  a9 := Tryz.isAgg9
  z9 := Tryz.sizeOf9
  v9 := Tryz.zeroValue9
  t28 := Tryz.underlying25
  a28 := Tryz.isAgg25
  z28 := Tryz.sizeOf25
  v28 := Tryz.zeroValue25
  t46 := Tryz.underlying53
  a46 := Tryz.isAgg53
  z46 := Tryz.sizeOf53
  v46 := Tryz.zeroValue53
  t51 := Tryz.underlying148
  a51 := Tryz.isAgg148
  z51 := Tryz.sizeOf148
  v51 := Tryz.zeroValue148
  t53 := Tryz.underlying150
  a53 := Tryz.isAgg150
  z53 := Tryz.sizeOf150
  v53 := Tryz.zeroValue150
  t131 := Tryz.underlying145
  a131 := Tryz.isAgg145
  z131 := Tryz.sizeOf145
  v131 := Tryz.zeroValue145
  t182 := Tryz.underlying140
  a182 := Tryz.isAgg140
  z182 := Tryz.sizeOf140
  v182 := Tryz.zeroValue140
  t183 := Tryz.underlying141
  a183 := Tryz.isAgg141
  z183 := Tryz.sizeOf141
  v183 := Tryz.zeroValue141
  t218 := Tryz.underlying158
  a218 := Tryz.isAgg158
  z218 := Tryz.sizeOf158
  v218 := Tryz.zeroValue158
  t222 := Tryz.underlying162
  a222 := Tryz.isAgg162
  z222 := Tryz.sizeOf162
  v222 := Tryz.zeroValue162
  t228 := Tryz.underlying176
  a228 := Tryz.isAgg176
  z228 := Tryz.sizeOf176
  v228 := Tryz.zeroValue176
  t229 := Tryz.underlying177
  a229 := Tryz.isAgg177
  z229 := Tryz.sizeOf177
  v229 := Tryz.zeroValue177 }
end Go.Proofs

namespace Go.X
open Go.Proofs

theorem ok120 : OFnOK PR 120 (soSort (.st [.int, .int, .int, .st [.int, .int, .int, .int, .int, .slice .int], .st [.int, .int]]) 44) :=
  sortFunc_ok Tryz.sortE 44 rfl (Nat.le_of_ble_eq_true (by kernel_rfl)) Tryz.isAgg44 Tryz.sizeOf44 (enters_of Tryz.func120 (c := bodyOf Tryz.f120) (by kernel_rfl) (by kernel_rfl))
theorem ok69 : OFnOK PR 69 (soSort (.st [.int, .int]) 63) :=
  sortFunc_ok Tryz.sortP 63 rfl (Nat.le_of_ble_eq_true (by kernel_rfl)) Tryz.isAgg63 Tryz.sizeOf63 (enters_of Tryz.func69 (c := bodyOf Tryz.f69) (by kernel_rfl) (by kernel_rfl))
theorem ok115 : OFnOK PR 115 (soSortI 3) :=
  sortI_ok Tryz.sortI 3 (enters_of Tryz.func115 (c := bodyOf Tryz.f115) (by kernel_rfl) (by kernel_rfl))

end Go.X
/-
  Signs: what the smallest functions are asked to return.
-/
namespace Go.X
open Go.Proofs

abbrev tSp : Ty := .st [.int, .int]
abbrev tFm : Ty := .st [.int, .int, .int, .int, .int, .slice .int]
abbrev tE : Ty := .st [.int, .int, .int, tFm, tSp]
abbrev tSn : Ty := .st [.int, .int, .int, .int, .int, tSp, tSp, tSp, .slice .int]
abbrev tSe : Ty := .st [tSn]
abbrev SpD : Type := Int × Int × Unit
abbrev FmD : Type := Int × Int × Int × Int × Int × List Int × Unit
abbrev ED : Type := Int × Int × Int × FmD × SpD × Unit
abbrev SnD : Type := Int × Int × Int × Int × Int × SpD × SpD × SpD × List Int × Unit

namespace U
def lo (s : SpD) : Int := s.1
def hi (s : SpD) : Int := s.2.1
def rt (f : FmD) : Int := f.1
def lf (f : FmD) : Int := f.2.1
def co (f : FmD) : Int := f.2.2.1
def rw' (f : FmD) : Int := f.2.2.2.1
def fc (f : FmD) : Int := f.2.2.2.2.1
def mv (f : FmD) : List Int := f.2.2.2.2.2.1
def id' (x : ED) : Int := x.1
def sg (x : ED) : Int := x.2.1
def rg (x : ED) : Int := x.2.2.1
def fm (x : ED) : FmD := x.2.2.2.1
def ag (x : ED) : SpD := x.2.2.2.2.1
def within (n lo hi : Int) : Bool := decide (lo ≤ n ∧ n ≤ hi)
def cmp (a b : Int) : Int := if a < b then -1 else if b < a then 1 else 0
def firstNZ (l : List Int) : Int := match l.find? (fun n => decide (n ≠ 0)) with | some n => n | none => 0
def cmpL : List Int → List Int → Int
  | [], [] => 0
  | [], _ :: _ => -1
  | _ :: _, [] => 1
  | a :: r, b :: s => if cmp a b ≠ 0 then cmp a b else cmpL r s
def order (a b : FmD) : Int := firstNZ [cmp (rw' a) (rw' b), cmp (co a) (co b), cmp (rt a) (rt b), cmp (lf a) (lf b), cmp (fc a) (fc b), cmpL (mv a) (mv b)]
def idx {α : Type} (p : α → Bool) (l : List α) : Int := match l.findIdx? p with | some i => (i : Int) | none => -1
def apply {α : Type} (F : α × Unit → Bool × Unit) (g : α) : Bool := (F (g, ())).1
def okMove (n : Int) : Bool := decide (0 ≤ n ∧ n ≤ 7)
def okForm (f : FmD) : Bool := decide (-1 ≤ rt f ∧ rt f ≤ 31 ∧ -1 ≤ lf f ∧ lf f ≤ 31 ∧ (0 ≤ rt f ∨ 0 ≤ lf f) ∧ -3 ≤ co f ∧ co f ≤ 3 ∧ 0 ≤ rw' f ∧ rw' f ≤ 5 ∧ 0 ≤ fc f ∧ fc f ≤ 7 ∧ (mv f).length ≤ 6) && (mv f).all okMove
def mirM (l : List Int) : List Int := l.map (fun n => (8 - n).tmod 8)
def mir (f : FmD) : FmD := (lf f, rt f, -(co f), rw' f, fc f, mirM (mv f), ())
def canon (f : FmD) : FmD := if order (mir f) f < 0 then mir f else mir (mir f)
end U

/-- the function in a slot -/
def gfb (t : Ty) (σ : St) (s : Nat) : (Ty.st [t]).Data → (Ty.st [.bool]).Data := gfn [t] [.bool] σ s

/-! whether a number is from low to high -/
def sp97 : Spec := ⟨[.val .int, .val .int, .val .int], [.bool], false, fun _ => [], fun d => (U.within d.1 d.2.1 d.2.2.1, ())⟩
def vc97 : Prop :=
  ∀ (d : Int × Int × Int × Unit), (decide (d.2.1 ≤ d.1) && decide (d.1 ≤ d.2.2.1), ()) = (U.within d.1 d.2.1 d.2.2.1, ())

theorem vc97_eq : fnVC (ctx 15 [] []) (fun _ => none) Tryz.f97 (bodyOf Tryz.f97) sp97 = vc97 := by kernel_rfl

def sp55 : Spec := ⟨[.val .int, .val .int, .val .int], [.bool], false, fun _ => [], fun d => (U.within d.1 d.2.1 d.2.2.1, ())⟩
def vc55 : Prop :=
  ∀ (d : Int × Int × Int × Unit), (decide (d.2.1 ≤ d.1) && decide (d.1 ≤ d.2.2.1), ()) = (U.within d.1 d.2.1 d.2.2.1, ())

theorem vc55_eq : fnVC (ctx 15 [] []) (fun _ => none) Tryz.f55 (bodyOf Tryz.f55) sp55 = vc55 := by kernel_rfl


def sp101 : Spec := ⟨[.val .int], [.bool], false, fun _ => [], fun _ => (false, ())⟩
def vc101 : Prop :=
  ∀ (d : Int × Unit), (decide (d.1 ≠ d.1), ()) = (false, ())

theorem vc101_eq : fnVC (ctx 6 [] []) (fun _ => none) Tryz.f101 (bodyOf Tryz.f101) sp101 = vc101 := by kernel_rfl

def sp64 : Spec := ⟨[.val .int, .val .int], [.int], false, fun _ => [], fun d => (U.cmp d.1 d.2.1, ())⟩
def vc64 : Prop :=
  ∀ (d : Int × Int × Unit),
  (false = true → (false = true → ((0 : Int), ()) = (U.cmp d.1 d.2.1, ())) ∧ (false = false → ((-1 : Int), ()) = (U.cmp d.1 d.2.1, ()))) ∧
  (false = false →
  (false = true → ((1 : Int), ()) = (U.cmp d.1 d.2.1, ())) ∧
  (false = false →
  (decide (d.1 < d.2.1) = true → ((-1 : Int), ()) = (U.cmp d.1 d.2.1, ())) ∧
  (decide (d.1 < d.2.1) = false → (decide (d.2.1 < d.1) = true → ((1 : Int), ()) = (U.cmp d.1 d.2.1, ())) ∧ (decide (d.2.1 < d.1) = false → ((0 : Int), ()) = (U.cmp d.1 d.2.1, ())))))

theorem vc64_eq : fnVC (ctx 20 [(101, sp101)] []) (fun _ => none) Tryz.f64 (bodyOf Tryz.f64) sp64 = vc64 := by kernel_rfl

def sp62 : Spec := ⟨[.val (.slice .int)], [.int], false, fun _ => [], fun d => (U.firstNZ d.1, ())⟩
def an62 : Ann := fun r => match r with
  | 3 => some fun σ => { X := Nat, sl := fun i => [(8, .dat .int (i : Int))], ob := fun _ => [], inv := fun i => i ≤ (gd (.slice .int) σ 0).length ∧ ∀ n ∈ (gd (.slice .int) σ 0).take i, n = 0, mu := fun i => (gd (.slice .int) σ 0).length - i }
  | _ => none
def vc62 : Prop :=
  ∀ (d : List Int × Unit),
  d.1.length < 4611686018427387904 →
  (∃ (x : Nat), (((0 : Int) = (x : Int) ∧ True) ∧ True) ∧ x ≤ d.1.length ∧ ∀ (n : Int), n ∈ List.take x d.1 → n = (0 : Int)) ∧
  ∀ (x : Nat),
  (x ≤ d.1.length ∧ ∀ (n : Int), n ∈ List.take x d.1 → n = (0 : Int)) →
  (decide ((x : Int) < (d.1.length : Int)) = true →
  0 ≤ (x : Int) ∧
  (x : Int) < (d.1.length : Int) ∧
  (decide (nth d.1 (x : Int).toNat ≠ (0 : Int)) = true → (nth d.1 (x : Int).toNat, ()) = (U.firstNZ d.1, ())) ∧
  (decide (nth d.1 (x : Int).toNat ≠ (0 : Int)) = false →
  In64 ((x : Int) + 1) ∧
  ∃ (x' : Nat), (((x : Int) + 1 = (x' : Int) ∧ True) ∧ True) ∧ (x' ≤ d.1.length ∧ ∀ (n : Int), n ∈ List.take x' d.1 → n = (0 : Int)) ∧ d.1.length - x' < d.1.length - x)) ∧
  (decide ((x : Int) < (d.1.length : Int)) = false → ((0 : Int), ()) = (U.firstNZ d.1, ()))

theorem vc62_eq : fnVC (ctx 18 [] []) (an62) Tryz.f62 (bodyOf Tryz.f62) sp62 = vc62 := by kernel_rfl

def sp71 : Spec := ⟨[.val (.slice .int), .val (.slice .int)], [.int], false, fun _ => [], fun d => (U.cmpL d.1 d.2.1, ())⟩
def an71 : Ann := fun r => match r with
  | 2 => some fun σ => { X := Nat, sl := fun i => [(11, .dat .int (i : Int))], ob := fun _ => [], inv := fun i => i ≤ (gd (.slice .int) σ 0).length ∧ i ≤ (gd (.slice .int) σ 1).length ∧ (gd (.slice .int) σ 0).take i = (gd (.slice .int) σ 1).take i, mu := fun i => (gd (.slice .int) σ 0).length - i }
  | _ => none
def vc71 : Prop :=
  ∀ (d : List Int × List Int × Unit),
  d.1.length < 4611686018427387904 →
  (∃ (x : Nat), (((0 : Int) = (x : Int) ∧ True) ∧ True) ∧ x ≤ d.1.length ∧ x ≤ d.2.1.length ∧ List.take x d.1 = List.take x d.2.1) ∧
  ∀ (x : Nat),
  x ≤ d.1.length ∧ x ≤ d.2.1.length ∧ List.take x d.1 = List.take x d.2.1 →
  (decide ((x : Int) < (d.1.length : Int)) = true →
  0 ≤ (x : Int) ∧
  (x : Int) < (d.1.length : Int) ∧
  (d.2.1.length < 4611686018427387904 →
  (decide ((d.2.1.length : Int) ≤ (x : Int)) = true → ((1 : Int), ()) = (U.cmpL d.1 d.2.1, ())) ∧
  (decide ((d.2.1.length : Int) ≤ (x : Int)) = false →
  0 ≤ (x : Int) ∧
  (x : Int) < (d.2.1.length : Int) ∧
  (decide (U.cmp (nth d.1 (x : Int).toNat) (nth d.2.1 (x : Int).toNat) ≠ (0 : Int)) = true → (U.cmp (nth d.1 (x : Int).toNat) (nth d.2.1 (x : Int).toNat), ()) = (U.cmpL d.1 d.2.1, ())) ∧
  (decide (U.cmp (nth d.1 (x : Int).toNat) (nth d.2.1 (x : Int).toNat) ≠ (0 : Int)) = false →
  In64 ((x : Int) + 1) ∧
  ∃ (x' : Nat), (((x : Int) + 1 = (x' : Int) ∧ True) ∧ True) ∧ (x' ≤ d.1.length ∧ x' ≤ d.2.1.length ∧ List.take x' d.1 = List.take x' d.2.1) ∧ d.1.length - x' < d.1.length - x)))) ∧
  (decide ((x : Int) < (d.1.length : Int)) = false →
  d.1.length < 4611686018427387904 →
  d.2.1.length < 4611686018427387904 →
  (decide ((d.1.length : Int) < (d.2.1.length : Int)) = true → ((-1 : Int), ()) = (U.cmpL d.1 d.2.1, ())) ∧
  (decide ((d.1.length : Int) < (d.2.1.length : Int)) = false → ((0 : Int), ()) = (U.cmpL d.1 d.2.1, ())))

theorem vc71_eq : fnVC (ctx 36 [(64, sp64)] []) (an71) Tryz.f71 (bodyOf Tryz.f71) sp71 = vc71 := by kernel_rfl

def sp63 : Spec := ⟨[.val tFm, .val tFm], [.int], false, fun _ => [], fun d => (U.order d.1 d.2.1, ())⟩
def vc63 : Prop :=
  ∀ (d : FmD × FmD × Unit),
  (U.firstNZ
  [U.cmp d.1.2.2.2.1 d.2.1.2.2.2.1, U.cmp d.1.2.2.1 d.2.1.2.2.1, U.cmp d.1.1 d.2.1.1, U.cmp d.1.2.1 d.2.1.2.1,
  U.cmp d.1.2.2.2.2.1 d.2.1.2.2.2.2.1, U.cmpL d.1.2.2.2.2.2.1 d.2.1.2.2.2.2.2.1],
  ()) =
  (U.order d.1 d.2.1, ())

theorem vc63_eq : fnVC (ctx 37 [(62, sp62), (64, sp64), (71, sp71)] []) (fun _ => none) Tryz.f63 (bodyOf Tryz.f63) sp63 = vc63 := by kernel_rfl


def sp148 : Spec := ⟨[.val (.slice .int), .fn [.int] [.bool]], [.int], false, fun d => [∀ g ∈ d.1, U.allP (d.2.1.pre (g, ()))], fun d => (U.idx (U.apply (α := Int) d.2.1.F) d.1, ())⟩
def an148 : Ann := fun r => match r with
  | 2 => some fun σ => { X := Nat, sl := fun i => [(8, .dat .int (i : Int))], ob := fun _ => [], inv := fun i => i ≤ (gd (.slice .int) σ 0).length ∧ ∀ b : Nat, b < i → U.apply (gfb .int σ 1) (nth (gd (.slice .int) σ 0) b) = false, mu := fun i => (gd (.slice .int) σ 0).length - i }
  | _ => none
def vc148 : Prop :=
  ∀ (d : List Int × FnD [Ty.int] [Ty.bool] × Unit),
  (∀ (g : Int), g ∈ d.1 → U.allP (d.2.1.1 (g, ()))) →
  d.1.length < 4611686018427387904 →
  (∃ (x : Nat), (((0 : Int) = (x : Int) ∧ True) ∧ True) ∧ x ≤ d.1.length ∧ ∀ (b : Nat), b < x → U.apply d.2.1.2 (nth d.1 b) = false) ∧
  ∀ (x : Nat),
  (x ≤ d.1.length ∧ ∀ (b : Nat), b < x → U.apply d.2.1.2 (nth d.1 b) = false) →
  (decide ((x : Int) < (d.1.length : Int)) = true →
  0 ≤ (x : Int) ∧
  (x : Int) < (d.1.length : Int) ∧
  asks (d.2.1.1 (nth d.1 (x : Int).toNat, ()))
  (((d.2.1.2 (nth d.1 (x : Int).toNat, ())).1 = true → ((x : Int), ()) = (U.idx (U.apply d.2.1.2) d.1, ())) ∧
  ((d.2.1.2 (nth d.1 (x : Int).toNat, ())).1 = false →
  In64 ((x : Int) + 1) ∧
  ∃ (x' : Nat), (((x : Int) + 1 = (x' : Int) ∧ True) ∧ True) ∧ (x' ≤ d.1.length ∧ ∀ (b : Nat), b < x' → U.apply d.2.1.2 (nth d.1 b) = false) ∧ d.1.length - x' < d.1.length - x))) ∧
  (decide ((x : Int) < (d.1.length : Int)) = false → ((-1 : Int), ()) = (U.idx (U.apply d.2.1.2) d.1, ()))

theorem vc148_eq : fnVC (ctx 19 [] []) (an148) Tryz.f148 (bodyOf Tryz.f148) sp148 = vc148 := by kernel_rfl

def sp132 : Spec := ⟨[.val (.slice .int), .fn [.int] [.bool]], [.bool], false, fun d => [∀ g ∈ d.1, U.allP (d.2.1.pre (g, ()))], fun d => (d.1.any (U.apply (α := Int) d.2.1.F), ())⟩
def vc132 : Prop :=
  ∀ (d : List Int × FnD [Ty.int] [Ty.bool] × Unit),
  (∀ (g : Int), g ∈ d.1 → U.allP (d.2.1.1 (g, ()))) → (∀ (g : Int), g ∈ d.1 → U.allP (d.2.1.1 (g, ()))) ∧ (decide ((0 : Int) ≤ U.idx (U.apply d.2.1.2) d.1), ()) = (d.1.any (U.apply d.2.1.2), ())

theorem vc132_eq : fnVC (ctx 9 [(148, sp148)] []) (fun _ => none) Tryz.f132 (bodyOf Tryz.f132) sp132 = vc132 := by kernel_rfl


end Go.X
/-
  Signs: the smallest functions return what they are asked to.
-/
namespace Go.X
open Go.Proofs

theorem h97 : vc97 := by
  intro d
  simp [U.within, Bool.decide_and]
theorem ok97 : FnOK PR 97 sp97 := mkFn (vc97_eq.mpr h97) Tryz.func97 (by kernel_rfl) (by kernel_rfl) (by kernel_rfl) (by kernel_rfl) trivial trivial
theorem h55 : vc55 := by
  intro d
  simp only [U.within]
  congr 1
  rw [Bool.eq_iff_iff]
  simp
theorem ok55 : FnOK PR 55 sp55 := mkFn (vc55_eq.mpr h55) Tryz.func55 (by kernel_rfl) (by kernel_rfl) (by kernel_rfl) (by kernel_rfl) trivial trivial
theorem h101 : vc101 := by
  intro d
  simp
theorem ok101 : FnOK PR 101 sp101 := mkFn (vc101_eq.mpr h101) Tryz.func101 (by kernel_rfl) (by kernel_rfl) (by kernel_rfl) (by kernel_rfl) trivial trivial
theorem h64 : vc64 := by
  rintro ⟨a, b, ⟨⟩⟩
  simp only [U.cmp]
  refine ⟨fun h => by simp at h, fun _ => ⟨fun h => by simp at h, fun _ => ⟨fun h => ?_, fun h => ⟨fun h2 => ?_, fun h2 => ?_⟩⟩⟩⟩
  · have h : a < b := by simpa using h
    rw [if_pos h]
  · have h : ¬ a < b := by simpa using h
    have h2 : b < a := by simpa using h2
    rw [if_neg h, if_pos h2]
  · have h : ¬ a < b := by simpa using h
    have h2 : ¬ b < a := by simpa using h2
    rw [if_neg h, if_neg h2]
theorem ok64 : FnOK PR 64 sp64 := mkFn (vc64_eq.mpr h64) Tryz.func64 (by kernel_rfl) (by kernel_rfl) (by kernel_rfl) (by kernel_rfl) ⟨fun _ => ok101, trivial⟩ trivial
theorem h62 : vc62 := by
  rintro ⟨l, ⟨⟩⟩ hl
  refine ⟨⟨0, ⟨⟨rfl, trivial⟩, trivial⟩, Nat.zero_le _, fun g hg => by simp at hg⟩, fun i hi => ⟨fun h => ?_, fun h => ?_⟩⟩
  · have h : i < l.length := by simpa using h
    simp only [Int.toNat_natCast] at *
    refine ⟨by omega, by omega, fun hb => ?_, fun hb => ⟨L.in64 (by omega) (by omega), i + 1, ⟨⟨by simp, trivial⟩, trivial⟩, ⟨by omega, ?_⟩, by omega⟩⟩
    · have hb : nth l i ≠ 0 := of_decide_eq_true hb
      have : l.find? (fun n => decide (n ≠ 0)) = some (nth l i) := by
        have e : l = l.take i ++ nth l i :: l.drop (i + 1) := by
          rw [L.nth_lt h, ← List.drop_eq_getElem_cons h, List.take_append_drop]
        rw [e, List.find?_append, List.find?_eq_none.2 (fun g hg => by simpa using hi.2 g hg)]
        rw [← e]
        simp [List.find?, hb]
      unfold U.firstNZ; rw [this]
    · have hb : ¬ nth l i ≠ 0 := of_decide_eq_false hb
      intro g hg
      rw [L.take_succ h] at hg
      rcases List.mem_append.1 hg with hg | hg
      · exact hi.2 g hg
      · simp at hg; subst hg; omega
  · have h : l.length ≤ i := by simpa using h
    have : l.find? (fun n => decide (n ≠ 0)) = none := List.find?_eq_none.2 (fun g hg => by simpa using hi.2 g (by rw [List.take_of_length_le h]; exact hg))
    unfold U.firstNZ; rw [this]
theorem ok62 : FnOK PR 62 sp62 := mkFn (vc62_eq.mpr h62) Tryz.func62 (by kernel_rfl) (by kernel_rfl) (by kernel_rfl) (by kernel_rfl) trivial trivial

theorem cmp_zero {a b : Int} : U.cmp a b = 0 ↔ a = b := by
  unfold U.cmp
  split
  · simp; omega
  · split
    · simp; omega
    · simp; omega

theorem cmpL_skip : ∀ (n : Nat) (a b : List Int), n ≤ a.length → n ≤ b.length → a.take n = b.take n → U.cmpL a b = U.cmpL (a.drop n) (b.drop n)
  | 0, a, b, _, _, _ => by simp
  | n + 1, [], b, h, _, _ => by simp at h
  | n + 1, a, [], _, h, _ => by simp at h
  | n + 1, x :: a, y :: b, h1, h2, h => by
    simp only [List.take_succ_cons, List.cons.injEq] at h
    obtain ⟨rfl, h⟩ := h
    have hz : U.cmp x x = 0 := cmp_zero.2 rfl
    simp only [U.cmpL, hz, ne_eq, not_true_eq_false, if_false, List.drop_succ_cons]
    exact cmpL_skip n a b (by simpa using h1) (by simpa using h2) h

theorem drop_nth {α : Type} [Inhabited α] {l : List α} {i : Nat} (h : i < l.length) : l.drop i = nth l i :: l.drop (i + 1) := by
  rw [L.nth_lt h]; exact List.drop_eq_getElem_cons h

theorem h71 : vc71 := by
  rintro ⟨a, b, ⟨⟩⟩ hl
  refine ⟨⟨0, ⟨⟨rfl, trivial⟩, trivial⟩, Nat.zero_le _, Nat.zero_le _, by simp⟩, fun i hi => ⟨fun h => ?_, fun h => ?_⟩⟩
  · have h : i < a.length := by simpa using h
    obtain ⟨h1, h2, h3⟩ := hi
    simp only [Int.toNat_natCast] at *
    refine ⟨by omega, by omega, fun hlb => ⟨fun hb => ?_, fun hb => ?_⟩⟩
    · have hb : b.length ≤ i := by simpa using hb
      have e := cmpL_skip i a b h1 h2 h3
      rw [e, drop_nth h, List.drop_of_length_le hb]
      rfl
    · have hb : i < b.length := by simpa using hb
      have e := cmpL_skip i a b h1 h2 h3
      rw [drop_nth h, drop_nth hb] at e
      refine ⟨by omega, by omega, fun hc => ?_, fun hc => ?_⟩
      · have hc : U.cmp (nth a i) (nth b i) ≠ 0 := by simpa using hc
        rw [e]
        simp only [U.cmpL]
        rw [if_pos hc]
      · have hc : U.cmp (nth a i) (nth b i) = 0 := by simpa using hc
        refine ⟨L.in64 (by omega) (by omega), i + 1, ⟨⟨by simp, trivial⟩, trivial⟩, ⟨by omega, by omega, ?_⟩, by omega⟩
        rw [L.take_succ h, L.take_succ hb, h3, cmp_zero.1 hc]
  · have h : a.length ≤ i := by simpa using h
    obtain ⟨h1, h2, h3⟩ := hi
    have h1 : i ≤ a.length := h1
    have h2 : i ≤ b.length := h2
    have e := cmpL_skip i a b h1 h2 h3
    rw [List.drop_of_length_le h] at e
    refine fun hla hlb => ⟨fun hb => ?_, fun hb => ?_⟩
    · have hb : a.length < b.length := by simpa using hb
      rw [e, drop_nth (by omega : i < b.length)]
      rfl
    · have hb : b.length ≤ a.length := by simpa using hb
      rw [e, List.drop_of_length_le (by omega)]
      rfl
theorem ok71 : FnOK PR 71 sp71 := mkFn (vc71_eq.mpr h71) Tryz.func71 (by kernel_rfl) (by kernel_rfl) (by kernel_rfl) (by kernel_rfl) ⟨fun _ => ok64, trivial⟩ trivial
theorem h63 : vc63 := by
  intro d
  rfl
theorem ok63 : FnOK PR 63 sp63 := mkFn (vc63_eq.mpr h63) Tryz.func63 (by kernel_rfl) (by kernel_rfl) (by kernel_rfl) (by kernel_rfl) ⟨fun _ => ok62, fun _ => ok64, fun _ => ok71, trivial⟩ trivial

theorem asks_of : ∀ (l : List Prop) {k : Prop}, U.allP l → k → asks l k
  | [], _, _, hk => hk
  | _ :: r, _, h, hk => ⟨h.1, asks_of r h.2 hk⟩

theorem findIdx_at {α : Type} [Inhabited α] {l : List α} {p : α → Bool} {i : Nat} (h : i < l.length) (h1 : ∀ b : Nat, b < i → p (nth l b) = false) (h2 : p (nth l i) = true) : U.idx p l = i := by
  have : l.findIdx? p = some i := by
    rw [List.findIdx?_eq_some_iff_getElem]
    refine ⟨h, by rw [← L.nth_lt h]; exact h2, fun j hj => ?_⟩
    have := h1 j hj
    rw [L.nth_lt (by omega)] at this
    simp [this]
  unfold U.idx; rw [this]
theorem findIdx_none {α : Type} [Inhabited α] {l : List α} {p : α → Bool} {i : Nat} (h : l.length ≤ i) (h1 : ∀ b : Nat, b < i → p (nth l b) = false) : U.idx p l = -1 := by
  have : l.findIdx? p = none := by
    rw [List.findIdx?_eq_none_iff]
    intro x hx
    obtain ⟨k, hk, rfl⟩ := L.mem_iff.1 hx
    exact h1 k (by omega)
  unfold U.idx; rw [this]
theorem idx_any {α : Type} (p : α → Bool) (l : List α) : decide (0 ≤ U.idx p l) = l.any p := by
  rw [Bool.eq_iff_iff]
  unfold U.idx
  simp only [decide_eq_true_eq]
  split
  · rename_i i e
    rw [List.findIdx?_eq_some_iff_getElem] at e
    obtain ⟨h, h1, _⟩ := e
    exact ⟨fun _ => List.any_eq_true.2 ⟨_, List.getElem_mem h, h1⟩, fun _ => by omega⟩
  · rename_i e
    rw [List.findIdx?_eq_none_iff] at e
    refine ⟨fun h => by omega, fun h => ?_⟩
    obtain ⟨x, hx, h1⟩ := List.any_eq_true.1 h
    have := e x hx
    exact absurd (h1.symm.trans this) (by simp)

theorem h148 : vc148 := by
  rintro ⟨l, f, ⟨⟩⟩ hpre hl
  refine ⟨⟨0, ⟨⟨rfl, trivial⟩, trivial⟩, Nat.zero_le _, fun b hb => by omega⟩, fun i hi => ⟨fun h => ?_, fun h => ?_⟩⟩
  · have h : i < l.length := by simpa using h
    simp only [Int.toNat_natCast] at *
    refine ⟨by omega, by omega, asks_of _ (hpre _ (L.mem_nth h)) ⟨fun hb => ?_, fun hb => ⟨L.in64 (by omega) (by omega), i + 1, ⟨⟨by simp, trivial⟩, trivial⟩, ⟨by omega, fun b hb' => ?_⟩, by omega⟩⟩⟩
    · rw [findIdx_at (p := U.apply (α := Int) f.F) h hi.2 hb]
    · by_cases e : b = i
      · subst e; exact hb
      · exact hi.2 b (by omega)
  · have h : l.length ≤ i := by simpa using h
    rw [findIdx_none (p := U.apply (α := Int) f.F) h hi.2]
theorem ok148 : FnOK PR 148 sp148 := mkFn (vc148_eq.mpr h148) Tryz.func148 (by kernel_rfl) (by kernel_rfl) (by kernel_rfl) (by kernel_rfl) trivial trivial
theorem h132 : vc132 := by
  rintro ⟨l, f, ⟨⟩⟩ hpre
  refine ⟨hpre, ?_⟩
  exact congrArg (·, ()) (idx_any (U.apply (α := Int) f.F) l)
theorem ok132 : FnOK PR 132 sp132 := mkFn (vc132_eq.mpr h132) Tryz.func132 (by kernel_rfl) (by kernel_rfl) (by kernel_rfl) (by kernel_rfl) ⟨fun _ => ok148, trivial⟩ trivial

end Go.X
/-
  Signs: what the functions on forms are asked to return.
-/
namespace Go.X
open Go.Proofs

namespace U
def mirTo (l : List Int) (i : Nat) : List Int := mirM (l.take i) ++ l.drop i
def sgn (n : Int) : Int := if n < 0 then -1 else min n 1
def keyL (f : FmD) : List Int := [rw' f, co f, rt f, lf f, fc f]
def canF (f : FmD) : FmD × Int × Unit := if okForm f = true then (canon f, 0, ()) else ((0, 0, 0, 0, 0, [], ()), 10, ())
def canR (f : FmD) : FmD := if order (mir f) f < 0 then mir f else f
def canRF (f : FmD) : FmD × Int × Unit := if okForm f = true then (canR f, 0, ()) else ((0, 0, 0, 0, 0, [], ()), 10, ())
def comF (a b : FmD) : Int × Int × Unit := if okForm a = true ∧ okForm b = true then (order (canon a) (canon b), 0, ()) else (0, 10, ())
def comRF (a b : FmD) : Int × Int × Unit := if okForm a = true ∧ okForm b = true then (order (canR a) (canR b), 0, ()) else (0, 10, ())
def meet (a b : SpD) : Bool := decide (lo a ≤ hi b ∧ lo b ≤ hi a)
end U

/-- the object in a box, one cell turned -/
def cellSet (σ : St) (b j : Nat) (v : SV) : Option Ob := match σ.obj b with
  | some (.box T fz cs) => some (.box T fz (cs.set j v))
  | _ => none

def so134 : OSpec := ⟨[.val (.slice .int)], [.cl (.row 3 .int .unk)], fun d => [d.1.length ≤ 1000], fun d => ((d.1, ()), ())⟩
def vc134 : Prop :=
  ∀ (d : List Int × Unit),
  d.1.length ≤ 1000 → ∀ (β : Bool), (β = true → d.1 = []) → (β = true → ([], ()) = d ∧ () = ()) ∧ (β = false → (0 + d.1.length) * 8 ≤ 140737488355328 ∧ ([] ++ d.1, ()) = d ∧ () = ())

theorem vc134_eq : ofnVC (ctx 8 [] []) (fun _ => none) Tryz.f134 (bodyOf Tryz.f134) so134 = vc134 := by kernel_rfl


def sp106 : Spec := ⟨[.val tFm], [tFm], false, fun d => [U.okForm d.1 = true], fun d => (U.mir d.1, ())⟩
def an106 : Ann := fun r => match r with
  | 5 => some fun σ => { X := Nat, sl := fun i => [(22, .dat .int (i : Int))], ob := fun i => [(500025, some (.row 3 .int false .unk (U.mirTo (gr .int σ 500025) i)))], inv := fun i => i ≤ (gr .int σ 500025).length, mu := fun i => (gr .int σ 500025).length - i }
  | _ => none
def vc106 : Prop :=
  ∀ (d : FmD × Unit),
  U.okForm d.1 = true →
  In64 (-d.1.2.2.1) ∧
  d.1.2.2.2.2.2.1.length ≤ 1000 ∧
  (d.1.2.2.2.2.2.1.length < 4611686018427387904 →
  (∃ (x : Nat), (((0 : Int) = (x : Int) ∧ True) ∧ d.1.2.2.2.2.2.1 = U.mirTo d.1.2.2.2.2.2.1 x ∧ True) ∧ x ≤ d.1.2.2.2.2.2.1.length) ∧
  ∀ (x : Nat),
  x ≤ d.1.2.2.2.2.2.1.length →
  (decide ((x : Int) < (d.1.2.2.2.2.2.1.length : Int)) = true →
  0 ≤ (x : Int) ∧
  (x : Int) < (↑(U.mirTo d.1.2.2.2.2.2.1 x).length : Int) ∧
  In64 ((8 : Int) - nth (U.mirTo d.1.2.2.2.2.2.1 x) (x : Int).toNat) ∧
  (8 : Int) ≠ (0 : Int) ∧
  0 ≤ (x : Int) ∧
  (x : Int) < (↑(U.mirTo d.1.2.2.2.2.2.1 x).length : Int) ∧
  In64 ((x : Int) + 1) ∧
  ∃ (x' : Nat),
  (((x : Int) + 1 = (x' : Int) ∧ True) ∧
  (U.mirTo d.1.2.2.2.2.2.1 x).set (x : Int).toNat (((8 : Int) - nth (U.mirTo d.1.2.2.2.2.2.1 x) (x : Int).toNat).tmod (8 : Int)) =
  U.mirTo d.1.2.2.2.2.2.1 x' ∧
  True) ∧
  x' ≤ d.1.2.2.2.2.2.1.length ∧ d.1.2.2.2.2.2.1.length - x' < d.1.2.2.2.2.2.1.length - x) ∧
  (decide ((x : Int) < (d.1.2.2.2.2.2.1.length : Int)) = false →
  ((d.1.2.1, d.1.1, -d.1.2.2.1, d.1.2.2.2.1, d.1.2.2.2.2.1, U.mirTo d.1.2.2.2.2.2.1 x, ()), ()) = (U.mir d.1, ())))

theorem vc106_eq : fnVC (ctx 36 [] [(134, so134)]) (an106) Tryz.f106 (bodyOf Tryz.f106) sp106 = vc106 := by kernel_rfl


def sp77 : Spec := ⟨[.val tFm], [tFm], false, fun d => [U.okForm d.1 = true], fun d => (U.canon d.1, ())⟩
def vc77 : Prop :=
  ∀ (d : FmD × Unit),
  U.okForm d.1 = true →
  U.okForm d.1 = true ∧
  (decide (U.order (U.mir d.1) d.1 < (0 : Int)) = true → (U.mir d.1, ()) = (U.canon d.1, ())) ∧
  (decide (U.order (U.mir d.1) d.1 < (0 : Int)) = false → U.okForm (U.mir d.1) = true ∧ (U.mir (U.mir d.1), ()) = (U.canon d.1, ()))

theorem vc77_eq : fnVC (ctx 13 [(106, sp106), (63, sp63)] []) (fun _ => none) Tryz.f77 (bodyOf Tryz.f77) sp77 = vc77 := by kernel_rfl


def sp104 : Spec := ⟨[.val .int], [.bool], false, fun _ => [], fun d => (U.okMove d.1, ())⟩
def vc104 : Prop :=
  ∀ (d : Int × Unit), (U.within d.1 (0 : Int) (7 : Int), ()) = (U.okMove d.1, ())

theorem vc104_eq : fnVC (ctx 5 [(97, sp97)] []) (fun _ => none) Tryz.f104 (bodyOf Tryz.f104) sp104 = vc104 := by kernel_rfl


def sp68 : Spec := ⟨[.val tSp, .val tSp], [.bool], false, fun _ => [], fun d => (U.meet d.1 d.2.1, ())⟩
def vc68 : Prop :=
  ∀ (d : SpD × SpD × Unit), (decide (d.1.1 ≤ d.2.1.2.1) && decide (d.2.1.1 ≤ d.1.2.1), ()) = (U.meet d.1 d.2.1, ())

theorem vc68_eq : fnVC (ctx 17 [] []) (fun _ => none) Tryz.f68 (bodyOf Tryz.f68) sp68 = vc68 := by kernel_rfl


def sp29 : Spec := ⟨[.val tFm], [tFm], false, fun d => [U.okForm d.1 = true], fun d => (U.mir d.1, ())⟩
def an29 : Ann := fun r => match r with
  | 3 => some fun σ => { X := Nat, sl := fun i => [(4, .dat .int (i : Int))], ob := fun i => [(3, cellSet σ 3 5 (.own 500065 .int)), (500065, some (.row 3 .int false .yes (U.mirM ((U.mv (gd tFm σ 0)).take i))))], inv := fun i => i ≤ (U.mv (gd tFm σ 0)).length, mu := fun i => (U.mv (gd tFm σ 0)).length - i }
  | _ => none
def vc29 : Prop :=
  ∀ (d : FmD × Unit),
  U.okForm d.1 = true →
  In64 (-d.1.2.2.1) ∧
  (∃ (x : Nat),
  (((0 : Int) = (x : Int) ∧ True) ∧
  (d.1.2.1 = d.1.2.1 ∧ d.1.1 = d.1.1 ∧ -d.1.2.2.1 = -d.1.2.2.1 ∧ d.1.2.2.2.1 = d.1.2.2.2.1 ∧ d.1.2.2.2.2.1 = d.1.2.2.2.2.1 ∧ True ∧ True) ∧
  U.mirM (List.take x (U.mv d.1)) = [] ∧ True) ∧
  x ≤ (U.mv d.1).length) ∧
  ∀ (x : Nat),
  x ≤ (U.mv d.1).length →
  d.1.2.2.2.2.2.1.length < 4611686018427387904 →
  (decide ((x : Int) < (d.1.2.2.2.2.2.1.length : Int)) = true →
  0 ≤ (x : Int) ∧
  (x : Int) < (d.1.2.2.2.2.2.1.length : Int) ∧
  In64 ((8 : Int) - nth d.1.2.2.2.2.2.1 (x : Int).toNat) ∧
  (8 : Int) ≠ (0 : Int) ∧
  ((U.mirM (List.take x (U.mv d.1))).length + [((8 : Int) - nth d.1.2.2.2.2.2.1 (x : Int).toNat).tmod (8 : Int)].length) * 8 ≤ 140737488355328 ∧
  In64 ((x : Int) + 1) ∧
  ∃ (x' : Nat),
  (((x : Int) + 1 = (x' : Int) ∧ True) ∧
  (d.1.2.1 = d.1.2.1 ∧
  d.1.1 = d.1.1 ∧ -d.1.2.2.1 = -d.1.2.2.1 ∧ d.1.2.2.2.1 = d.1.2.2.2.1 ∧ d.1.2.2.2.2.1 = d.1.2.2.2.2.1 ∧ True ∧ True) ∧
  U.mirM (List.take x (U.mv d.1)) ++ [((8 : Int) - nth d.1.2.2.2.2.2.1 (x : Int).toNat).tmod (8 : Int)] = U.mirM (List.take x' (U.mv d.1)) ∧ True) ∧
  x' ≤ (U.mv d.1).length ∧ (U.mv d.1).length - x' < (U.mv d.1).length - x) ∧
  (decide ((x : Int) < (d.1.2.2.2.2.2.1.length : Int)) = false →
  ((d.1.2.1, d.1.1, -d.1.2.2.1, d.1.2.2.2.1, d.1.2.2.2.2.1, U.mirM (List.take x (U.mv d.1)), ()), ()) = (U.mir d.1, ()))

theorem vc29_eq : fnVC (ctx 37 [] []) (an29) Tryz.f29 (bodyOf Tryz.f29) sp29 = vc29 := by kernel_rfl


def sp107 : Spec := ⟨[.val .int], [.int], false, fun _ => [], fun d => (U.sgn d.1, ())⟩
def vc107 : Prop :=
  ∀ (d : Int × Unit), (decide (d.1 < (0 : Int)) = true → ((-1 : Int), ()) = (U.sgn d.1, ())) ∧ (decide (d.1 < (0 : Int)) = false → (min d.1 (1 : Int), ()) = (U.sgn d.1, ()))

theorem vc107_eq : fnVC (ctx 7 [] []) (fun _ => none) Tryz.f107 (bodyOf Tryz.f107) sp107 = vc107 := by kernel_rfl


def sp79 : Spec := ⟨[.val tFm, .val tFm], [.int], false, fun d => [U.okForm d.1 = true, U.okForm d.2.1 = true], fun d => (U.order d.1 d.2.1, ())⟩
def an79 : Ann := fun r => match r with
  | 4 => some fun σ => { X := Nat, sl := fun i => [(7, .dat .int (i : Int))], ob := fun _ => [], inv := fun i => i ≤ 5 ∧ ∀ b : Nat, b < i → nth (U.keyL (gd tFm σ 0)) b = nth (U.keyL (gd tFm σ 1)) b, mu := fun i => 5 - i }
  | 9 => some fun σ => { X := Nat, sl := fun i => [(8, .dat .int (i : Int))], ob := fun _ => [], inv := fun i => i ≤ (U.mv (gd tFm σ 0)).length ∧ i ≤ (U.mv (gd tFm σ 1)).length ∧ (U.mv (gd tFm σ 0)).take i = (U.mv (gd tFm σ 1)).take i, mu := fun i => (U.mv (gd tFm σ 0)).length - i }
  | _ => none
def vc79 : Prop :=
  ∀ (d : FmD × FmD × Unit),
  U.okForm d.1 = true →
  U.okForm d.2.1 = true →
  (∃ (x : Nat), (((0 : Int) = (x : Int) ∧ True) ∧ True) ∧ x ≤ 5 ∧ ∀ (b : Nat), b < x → nth (U.keyL d.1) b = nth (U.keyL d.2.1) b) ∧
  ∀ (x : Nat),
  (x ≤ 5 ∧ ∀ (b : Nat), b < x → nth (U.keyL d.1) b = nth (U.keyL d.2.1) b) →
  [d.1.2.2.2.1, d.1.2.2.1, d.1.1, d.1.2.1, d.1.2.2.2.2.1].length < 4611686018427387904 →
  (decide ((x : Int) < (↑[d.1.2.2.2.1, d.1.2.2.1, d.1.1, d.1.2.1, d.1.2.2.2.2.1].length : Int)) = true →
  0 ≤ (x : Int) ∧
  (x : Int) < (↑[d.1.2.2.2.1, d.1.2.2.1, d.1.1, d.1.2.1, d.1.2.2.2.2.1].length : Int) ∧
  0 ≤ (x : Int) ∧
  (x : Int) < (↑[d.2.1.2.2.2.1, d.2.1.2.2.1, d.2.1.1, d.2.1.2.1, d.2.1.2.2.2.2.1].length : Int) ∧
  (decide
  (nth [d.1.2.2.2.1, d.1.2.2.1, d.1.1, d.1.2.1, d.1.2.2.2.2.1] (x : Int).toNat ≠
  nth [d.2.1.2.2.2.1, d.2.1.2.2.1, d.2.1.1, d.2.1.2.1, d.2.1.2.2.2.2.1] (x : Int).toNat) =
  true →
  0 ≤ (x : Int) ∧
  (x : Int) < (↑[d.1.2.2.2.1, d.1.2.2.1, d.1.1, d.1.2.1, d.1.2.2.2.2.1].length : Int) ∧
  0 ≤ (x : Int) ∧
  (x : Int) < (↑[d.2.1.2.2.2.1, d.2.1.2.2.1, d.2.1.1, d.2.1.2.1, d.2.1.2.2.2.2.1].length : Int) ∧
  In64
  (nth [d.1.2.2.2.1, d.1.2.2.1, d.1.1, d.1.2.1, d.1.2.2.2.2.1] (x : Int).toNat -
  nth [d.2.1.2.2.2.1, d.2.1.2.2.1, d.2.1.1, d.2.1.2.1, d.2.1.2.2.2.2.1] (x : Int).toNat) ∧
  (U.sgn
  (nth [d.1.2.2.2.1, d.1.2.2.1, d.1.1, d.1.2.1, d.1.2.2.2.2.1] (x : Int).toNat -
  nth [d.2.1.2.2.2.1, d.2.1.2.2.1, d.2.1.1, d.2.1.2.1, d.2.1.2.2.2.2.1] (x : Int).toNat),
  ()) =
  (U.order d.1 d.2.1, ())) ∧
  (decide
  (nth [d.1.2.2.2.1, d.1.2.2.1, d.1.1, d.1.2.1, d.1.2.2.2.2.1] (x : Int).toNat ≠
  nth [d.2.1.2.2.2.1, d.2.1.2.2.1, d.2.1.1, d.2.1.2.1, d.2.1.2.2.2.2.1] (x : Int).toNat) =
  false →
  In64 ((x : Int) + 1) ∧
  ∃ (x' : Nat), (((x : Int) + 1 = (x' : Int) ∧ True) ∧ True) ∧ (x' ≤ 5 ∧ ∀ (b : Nat), b < x' → nth (U.keyL d.1) b = nth (U.keyL d.2.1) b) ∧ 5 - x' < 5 - x)) ∧
  (decide ((x : Int) < (↑[d.1.2.2.2.1, d.1.2.2.1, d.1.1, d.1.2.1, d.1.2.2.2.2.1].length : Int)) = false →
  (∃ (x : Nat), (((0 : Int) = (x : Int) ∧ True) ∧ True) ∧ x ≤ (U.mv d.1).length ∧ x ≤ (U.mv d.2.1).length ∧ List.take x (U.mv d.1) = List.take x (U.mv d.2.1)) ∧
  ∀ (x : Nat),
  x ≤ (U.mv d.1).length ∧ x ≤ (U.mv d.2.1).length ∧ List.take x (U.mv d.1) = List.take x (U.mv d.2.1) →
  d.1.2.2.2.2.2.1.length < 4611686018427387904 →
  (decide ((x : Int) < (d.1.2.2.2.2.2.1.length : Int)) = true → d.2.1.2.2.2.2.2.1.length < 4611686018427387904) →
  ((decide ((x : Int) < (d.1.2.2.2.2.2.1.length : Int)) && decide ((x : Int) < (d.2.1.2.2.2.2.2.1.length : Int))) = true →
  0 ≤ (x : Int) ∧
  (x : Int) < (d.1.2.2.2.2.2.1.length : Int) ∧
  0 ≤ (x : Int) ∧
  (x : Int) < (d.2.1.2.2.2.2.2.1.length : Int) ∧
  (decide (nth d.1.2.2.2.2.2.1 (x : Int).toNat ≠ nth d.2.1.2.2.2.2.2.1 (x : Int).toNat) = true →
  0 ≤ (x : Int) ∧
  (x : Int) < (d.1.2.2.2.2.2.1.length : Int) ∧
  0 ≤ (x : Int) ∧
  (x : Int) < (d.2.1.2.2.2.2.2.1.length : Int) ∧
  In64 (nth d.1.2.2.2.2.2.1 (x : Int).toNat - nth d.2.1.2.2.2.2.2.1 (x : Int).toNat) ∧
  (U.sgn (nth d.1.2.2.2.2.2.1 (x : Int).toNat - nth d.2.1.2.2.2.2.2.1 (x : Int).toNat), ()) = (U.order d.1 d.2.1, ())) ∧
  (decide (nth d.1.2.2.2.2.2.1 (x : Int).toNat ≠ nth d.2.1.2.2.2.2.2.1 (x : Int).toNat) = false →
  In64 ((x : Int) + 1) ∧
  ∃ (x' : Nat),
  (((x : Int) + 1 = (x' : Int) ∧ True) ∧ True) ∧
  (x' ≤ (U.mv d.1).length ∧ x' ≤ (U.mv d.2.1).length ∧ List.take x' (U.mv d.1) = List.take x' (U.mv d.2.1)) ∧ (U.mv d.1).length - x' < (U.mv d.1).length - x)) ∧
  ((decide ((x : Int) < (d.1.2.2.2.2.2.1.length : Int)) && decide ((x : Int) < (d.2.1.2.2.2.2.2.1.length : Int))) = false →
  d.1.2.2.2.2.2.1.length < 4611686018427387904 →
  d.2.1.2.2.2.2.2.1.length < 4611686018427387904 →
  In64 ((d.1.2.2.2.2.2.1.length : Int) - (d.2.1.2.2.2.2.2.1.length : Int)) ∧
  (U.sgn ((d.1.2.2.2.2.2.1.length : Int) - (d.2.1.2.2.2.2.2.1.length : Int)), ()) = (U.order d.1 d.2.1, ())))

theorem vc79_eq : fnVC (ctx 101 [(107, sp107)] []) (an79) Tryz.f79 (bodyOf Tryz.f79) sp79 = vc79 := by kernel_rfl


def sp39 : Spec := ⟨[.val tFm], [tFm], false, fun d => [(U.mv d.1).length ≤ 1000], fun d => (d.1, ())⟩
def vc39 : Prop :=
  ∀ (d : FmD × Unit),
  (U.mv d.1).length ≤ 1000 →
  (0 + d.1.2.2.2.2.2.1.length) * 8 ≤ 140737488355328 ∧
  ((d.1.1, d.1.2.1, d.1.2.2.1, d.1.2.2.2.1, d.1.2.2.2.2.1, [] ++ d.1.2.2.2.2.2.1, ()), ()) = d

theorem vc39_eq : fnVC (ctx 9 [] []) (fun _ => none) Tryz.f39 (bodyOf Tryz.f39) sp39 = vc39 := by kernel_rfl


def sp78 : Spec := ⟨[.val tFm], [tFm], false, fun d => [U.okForm d.1 = true], fun d => (U.canR d.1, ())⟩
def vc78 : Prop :=
  ∀ (d : FmD × Unit),
  U.okForm d.1 = true →
  U.okForm d.1 = true ∧
  U.okForm (U.mir d.1) = true ∧
  U.okForm d.1 = true ∧
  (decide (U.order (U.mir d.1) d.1 < (0 : Int)) = true → (U.mir d.1, ()) = (U.canR d.1, ())) ∧ (decide (U.order (U.mir d.1) d.1 < (0 : Int)) = false → (U.mv d.1).length ≤ 1000 ∧ d = (U.canR d.1, ()))

theorem vc78_eq : fnVC (ctx 13 [(29, sp29), (79, sp79), (39, sp39)] []) (fun _ => none) Tryz.f78 (bodyOf Tryz.f78) sp78 = vc78 := by kernel_rfl


def sp43 : Spec := ⟨[.val tFm], [.bool], false, fun _ => [], fun d => (U.okForm d.1, ())⟩
def an43 : Ann := fun r => match r with
  | 2 => some fun σ => { X := Nat, sl := fun i => [(3, .dat .int (i : Int))], ob := fun _ => [], inv := fun i => i ≤ (U.mv (gd tFm σ 0)).length ∧ ((U.mv (gd tFm σ 0)).take i).all U.okMove = true, mu := fun i => (U.mv (gd tFm σ 0)).length - i }
  | _ => none
def vc43 : Prop :=
  ∀ (d : FmD × Unit),
  (∃ (x : Nat), (((0 : Int) = (x : Int) ∧ True) ∧ True) ∧ x ≤ (U.mv d.1).length ∧ (List.take x (U.mv d.1)).all U.okMove = true) ∧
  ∀ (x : Nat),
  x ≤ (U.mv d.1).length ∧ (List.take x (U.mv d.1)).all U.okMove = true →
  d.1.2.2.2.2.2.1.length < 4611686018427387904 →
  (decide ((x : Int) < (d.1.2.2.2.2.2.1.length : Int)) = true →
  0 ≤ (x : Int) ∧
  (x : Int) < (d.1.2.2.2.2.2.1.length : Int) ∧
  ((!U.within (nth d.1.2.2.2.2.2.1 (x : Int).toNat) (0 : Int) (7 : Int)) = true → (false, ()) = (U.okForm d.1, ())) ∧
  ((!U.within (nth d.1.2.2.2.2.2.1 (x : Int).toNat) (0 : Int) (7 : Int)) = false →
  In64 ((x : Int) + 1) ∧
  ∃ (x' : Nat), (((x : Int) + 1 = (x' : Int) ∧ True) ∧ True) ∧ (x' ≤ (U.mv d.1).length ∧ (List.take x' (U.mv d.1)).all U.okMove = true) ∧ (U.mv d.1).length - x' < (U.mv d.1).length - x)) ∧
  (decide ((x : Int) < (d.1.2.2.2.2.2.1.length : Int)) = false →
  ((U.within d.1.1 (-1 : Int) (31 : Int) && U.within d.1.2.1 (-1 : Int) (31 : Int)) = true → In64 (d.1.1 + d.1.2.1)) ∧
  (((U.within d.1.1 (-1 : Int) (31 : Int) && U.within d.1.2.1 (-1 : Int) (31 : Int) && decide ((-2 : Int) < d.1.1 + d.1.2.1) && U.within d.1.2.2.1 (-3 : Int) (3 : Int) &&
  U.within d.1.2.2.2.1 (0 : Int) (5 : Int) &&
  U.within d.1.2.2.2.2.1 (0 : Int) (7 : Int)) =
  true →
  d.1.2.2.2.2.2.1.length < 4611686018427387904) →
  (U.within d.1.1 (-1 : Int) (31 : Int) && U.within d.1.2.1 (-1 : Int) (31 : Int) && decide ((-2 : Int) < d.1.1 + d.1.2.1) && U.within d.1.2.2.1 (-3 : Int) (3 : Int) &&
  U.within d.1.2.2.2.1 (0 : Int) (5 : Int) &&
  U.within d.1.2.2.2.2.1 (0 : Int) (7 : Int) &&
  decide ((d.1.2.2.2.2.2.1.length : Int) ≤ (6 : Int)),
  ()) =
  (U.okForm d.1, ())))

theorem vc43_eq : fnVC (ctx 55 [(55, sp55)] []) (an43) Tryz.f43 (bodyOf Tryz.f43) sp43 = vc43 := by kernel_rfl







end Go.X
/-
  Signs: the functions on forms return what they are asked to.
-/
namespace Go.X
open Go.Proofs

theorem okMove_iff {n : Int} : U.okMove n = true ↔ 0 ≤ n ∧ n ≤ 7 := by unfold U.okMove; simp
theorem okForm_iff {f : FmD} : U.okForm f = true ↔ (-1 ≤ f.1 ∧ f.1 ≤ 31 ∧ -1 ≤ f.2.1 ∧ f.2.1 ≤ 31 ∧ (0 ≤ f.1 ∨ 0 ≤ f.2.1) ∧ -3 ≤ f.2.2.1 ∧ f.2.2.1 ≤ 3 ∧ 0 ≤ f.2.2.2.1 ∧ f.2.2.2.1 ≤ 5 ∧ 0 ≤ f.2.2.2.2.1 ∧ f.2.2.2.2.1 ≤ 7 ∧ f.2.2.2.2.2.1.length ≤ 6) ∧ ∀ n ∈ f.2.2.2.2.2.1, 0 ≤ n ∧ n ≤ 7 := by
  unfold U.okForm U.rt U.lf U.co U.rw' U.fc U.mv
  simp only [Bool.and_eq_true, decide_eq_true_eq, List.all_eq_true, okMove_iff]

theorem okForm_moves {f : FmD} (h : U.okForm f = true) : (U.mv f).all U.okMove = true := by
  unfold U.okForm at h
  simp only [Bool.and_eq_true] at h
  exact h.2
theorem okForm_len {f : FmD} (h : U.okForm f = true) : (U.mv f).length ≤ 6 := by
  have := (okForm_iff.1 h).1
  unfold U.mv; omega

theorem turn_ok {n : Int} (h : 0 ≤ n ∧ n ≤ 7) : (0 ≤ (8 - n).tmod 8 ∧ (8 - n).tmod 8 ≤ 7) ∧ (8 - (8 - n).tmod 8).tmod 8 = n := by
  have : n = 0 ∨ n = 1 ∨ n = 2 ∨ n = 3 ∨ n = 4 ∨ n = 5 ∨ n = 6 ∨ n = 7 := by omega
  rcases this with rfl | rfl | rfl | rfl | rfl | rfl | rfl | rfl <;> decide

theorem mirM_ok {l : List Int} (h : ∀ n ∈ l, 0 ≤ n ∧ n ≤ 7) : ∀ n ∈ U.mirM l, 0 ≤ n ∧ n ≤ 7 := by
  intro n hn
  unfold U.mirM at hn
  obtain ⟨m, hm, rfl⟩ := List.mem_map.1 hn
  exact (turn_ok (h m hm)).1
theorem mirM_mirM {l : List Int} (h : ∀ n ∈ l, 0 ≤ n ∧ n ≤ 7) : U.mirM (U.mirM l) = l := by
  unfold U.mirM
  rw [List.map_map]
  conv => rhs; rw [← List.map_id l]
  apply List.map_congr_left
  intro n hn
  exact (turn_ok (h n hn)).2

theorem mir_ok {f : FmD} (h : U.okForm f = true) : U.okForm (U.mir f) = true := by
  obtain ⟨h1, h2⟩ := okForm_iff.1 h
  refine okForm_iff.2 ⟨?_, mirM_ok h2⟩
  unfold U.mir U.mirM U.rt U.lf U.co U.rw' U.fc U.mv
  simp only [List.length_map]
  omega
theorem mir_mir {f : FmD} (h : U.okForm f = true) : U.mir (U.mir f) = f := by
  obtain ⟨h1, h2⟩ := okForm_iff.1 h
  obtain ⟨a, b, c, d, e, l, ⟨⟩⟩ := f
  unfold U.mir U.rt U.lf U.co U.rw' U.fc U.mv
  simp only [mirM_mirM h2, Int.neg_neg]
theorem canon_eq {f : FmD} (h : U.okForm f = true) : U.canon f = U.canR f := by
  unfold U.canon U.canR
  rw [mir_mir h]
theorem canR_ok {f : FmD} (h : U.okForm f = true) : U.okForm (U.canR f) = true := by
  unfold U.canR
  split
  · exact mir_ok h
  · exact h

theorem h134 : vc134 := by
  rintro ⟨l, ⟨⟩⟩ hl β hβ
  refine ⟨fun hb => ?_, fun hb => ⟨by simp only [Nat.zero_add] at *; omega, by simp⟩⟩
  have : l = [] := hβ hb
  subst this
  exact ⟨rfl, rfl⟩
theorem ok134 : OFnOK PR 134 so134 := mkFnO (vc134_eq.mpr h134) Tryz.func134 (by kernel_rfl) (by kernel_rfl) (by kernel_rfl) (by kernel_rfl) (by kernel_rfl) trivial trivial

theorem mirTo_len (l : List Int) (i : Nat) : (U.mirTo l i).length = l.length := by
  unfold U.mirTo U.mirM
  simp only [List.length_append, List.length_map, List.length_take, List.length_drop]; omega
theorem mirTo_nth {l : List Int} {i : Nat} (h : i < l.length) : nth (U.mirTo l i) i = nth l i := by
  unfold U.mirTo U.mirM nth
  rw [List.getD_eq_getElem?_getD, List.getD_eq_getElem?_getD, List.getElem?_append_right (by simp; omega)]
  simp only [List.length_map, List.length_take]
  rw [show i - min i l.length = 0 by omega, List.getElem?_drop]; simp
theorem mirTo_set {l : List Int} {i : Nat} (h : i < l.length) : (U.mirTo l i).set i ((8 - nth l i).tmod 8) = U.mirTo l (i + 1) := by
  unfold U.mirTo
  rw [List.set_append_right _ _ (by simp [U.mirM]; omega)]
  have e : i - (U.mirM (l.take i)).length = 0 := by simp [U.mirM]; omega
  rw [e, L.take_succ h]
  have e2 : l.drop i = nth l i :: l.drop (i + 1) := drop_nth h
  rw [e2]
  unfold U.mirM
  simp

theorem h106 : vc106 := by
  intro d hok
  obtain ⟨h1, h2⟩ := okForm_iff.1 hok
  obtain ⟨⟨a, b, c, e, g, l, ⟨⟩⟩, ⟨⟩⟩ := d
  simp only at h1 h2 ⊢
  refine ⟨by unfold In64; omega, by omega, fun hl => ⟨⟨0, ⟨⟨rfl, trivial⟩, by simp [U.mirTo, U.mirM], trivial⟩, Nat.zero_le _⟩, fun i hi => ⟨fun h => ?_, fun h => ?_⟩⟩⟩
  · have h : i < l.length := by simpa using h
    simp only [Int.toNat_natCast, mirTo_len, mirTo_nth h]
    have := h2 _ (L.mem_nth h)
    refine ⟨by omega, by omega, by unfold In64; omega, by omega, by omega, by omega, L.in64 (by omega) (by omega), i + 1, ⟨⟨by simp, trivial⟩, mirTo_set h, trivial⟩, by omega, by omega⟩
  · have h : l.length ≤ i := by simpa using h
    unfold U.mirTo U.mir U.rt U.lf U.co U.rw' U.fc U.mv
    simp only [List.take_of_length_le h, List.drop_of_length_le h, List.append_nil]
theorem ok106 : FnOK PR 106 sp106 := mkFn (vc106_eq.mpr h106) Tryz.func106 (by kernel_rfl) (by kernel_rfl) (by kernel_rfl) (by kernel_rfl) trivial ⟨ok134, trivial⟩

theorem h77 : vc77 := by
  intro d hok
  refine ⟨hok, fun h => ?_, fun h => ⟨mir_ok hok, ?_⟩⟩
  · unfold U.canon
    rw [if_pos (of_decide_eq_true h)]
  · unfold U.canon
    rw [if_neg (of_decide_eq_false h)]
theorem ok77 : FnOK PR 77 sp77 := mkFn (vc77_eq.mpr h77) Tryz.func77 (by kernel_rfl) (by kernel_rfl) (by kernel_rfl) (by kernel_rfl) ⟨fun _ => ok106, fun _ => ok63, trivial⟩ trivial

theorem h104 : vc104 := by
  intro d
  rfl
theorem ok104 : FnOK PR 104 sp104 := mkFn (vc104_eq.mpr h104) Tryz.func104 (by kernel_rfl) (by kernel_rfl) (by kernel_rfl) (by kernel_rfl) ⟨fun _ => ok97, trivial⟩ trivial
theorem h68 : vc68 := by
  intro d
  unfold U.meet U.lo U.hi
  congr 1
  rw [Bool.eq_iff_iff]
  simp
theorem ok68 : FnOK PR 68 sp68 := mkFn (vc68_eq.mpr h68) Tryz.func68 (by kernel_rfl) (by kernel_rfl) (by kernel_rfl) (by kernel_rfl) trivial trivial

theorem h29 : vc29 := by
  intro d hok
  obtain ⟨h1, h2⟩ := okForm_iff.1 hok
  obtain ⟨⟨a, b, c, e, g, l, ⟨⟩⟩, ⟨⟩⟩ := d
  simp only [U.mv] at h1 h2 ⊢
  refine ⟨by unfold In64; omega, ⟨0, ⟨⟨rfl, trivial⟩, ⟨trivial, trivial, trivial, trivial, trivial, trivial, trivial⟩, by simp [U.mirM], trivial⟩, Nat.zero_le _⟩, fun i hi hl => ⟨fun h => ?_, fun h => ?_⟩⟩
  · have h : i < l.length := by simpa using h
    simp only [Int.toNat_natCast]
    have := h2 _ (L.mem_nth h)
    refine ⟨by omega, by omega, by unfold In64; omega, by omega, by simp [U.mirM]; omega, L.in64 (by omega) (by omega), i + 1, ⟨⟨by simp, trivial⟩, ⟨trivial, trivial, trivial, trivial, trivial, trivial, trivial⟩, ?_, trivial⟩, by omega, by omega⟩
    rw [L.take_succ h]
    simp [U.mirM]
  · have h : l.length ≤ i := by simpa using h
    unfold U.mir U.rt U.lf U.co U.rw' U.fc U.mv
    simp only [List.take_of_length_le h]
theorem ok29 : FnOK PR 29 sp29 := mkFn (vc29_eq.mpr h29) Tryz.func29 (by kernel_rfl) (by kernel_rfl) (by kernel_rfl) (by kernel_rfl) trivial trivial
theorem h107 : vc107 := by
  intro d
  unfold U.sgn
  exact ⟨fun h => by rw [if_pos (of_decide_eq_true h)], fun h => by rw [if_neg (of_decide_eq_false h)]⟩
theorem ok107 : FnOK PR 107 sp107 := mkFn (vc107_eq.mpr h107) Tryz.func107 (by kernel_rfl) (by kernel_rfl) (by kernel_rfl) (by kernel_rfl) trivial trivial

theorem sgn_cmp {a b : Int} : U.sgn (a - b) = U.cmp a b := by
  unfold U.sgn U.cmp
  split <;> split <;> (try split) <;> omega

theorem firstNZ_app {a b : List Int} (h : ∀ n ∈ a, n = 0) : U.firstNZ (a ++ b) = U.firstNZ b := by
  unfold U.firstNZ
  rw [List.find?_append, List.find?_eq_none.2 (fun n hn => by simpa using h n hn)]
  rfl

/-- the first place at which the keys differ -/
theorem order_key {a b : FmD} {i : Nat} (hi : i < 5) (h : ∀ j : Nat, j < i → nth (U.keyL a) j = nth (U.keyL b) j) (hne : nth (U.keyL a) i ≠ nth (U.keyL b) i) : U.order a b = U.cmp (nth (U.keyL a) i) (nth (U.keyL b) i) := by
  have hz : ∀ {x y : Int}, x = y → U.cmp x y = 0 := fun e => cmp_zero.2 e
  have hn : ∀ {x y : Int}, x ≠ y → U.cmp x y ≠ 0 := fun e h => e (cmp_zero.1 h)
  have key : ∀ (l1 l2 : List Int) (x : Int), (∀ n ∈ l1, n = 0) → x ≠ 0 → U.firstNZ (l1 ++ x :: l2) = x := by
    intro l1 l2 x h1 h2
    rw [firstNZ_app h1]
    unfold U.firstNZ
    simp [List.find?, h2]
  have k0 := h 0; have k1 := h 1; have k2 := h 2; have k3 := h 3; have k4 := h 4
  unfold U.keyL nth at *
  simp only [List.getD_cons_zero, List.getD_cons_succ] at k0 k1 k2 k3 k4
  unfold U.order
  have : i = 0 ∨ i = 1 ∨ i = 2 ∨ i = 3 ∨ i = 4 := by omega
  rcases this with rfl | rfl | rfl | rfl | rfl
  · simp only [List.getD_cons_zero] at hne ⊢
    exact key [] _ _ (by simp) (hn hne)
  · simp only [List.getD_cons_zero, List.getD_cons_succ] at hne ⊢
    exact key [_] _ _ (by simp [hz (k0 (by omega))]) (hn hne)
  · simp only [List.getD_cons_zero, List.getD_cons_succ] at hne ⊢
    exact key [_, _] _ _ (by simp [hz (k0 (by omega)), hz (k1 (by omega))]) (hn hne)
  · simp only [List.getD_cons_zero, List.getD_cons_succ] at hne ⊢
    exact key [_, _, _] _ _ (by simp [hz (k0 (by omega)), hz (k1 (by omega)), hz (k2 (by omega))]) (hn hne)
  · simp only [List.getD_cons_zero, List.getD_cons_succ] at hne ⊢
    exact key [_, _, _, _] _ _ (by simp [hz (k0 (by omega)), hz (k1 (by omega)), hz (k2 (by omega)), hz (k3 (by omega))]) (hn hne)

theorem order_moves {a b : FmD} (h : ∀ j : Nat, j < 5 → nth (U.keyL a) j = nth (U.keyL b) j) : U.order a b = U.cmpL (U.mv a) (U.mv b) := by
  have hz : ∀ {x y : Int}, x = y → U.cmp x y = 0 := fun e => cmp_zero.2 e
  have k0 := h 0 (by omega); have k1 := h 1 (by omega); have k2 := h 2 (by omega); have k3 := h 3 (by omega); have k4 := h 4 (by omega)
  unfold U.keyL nth at *
  simp only [List.getD_cons_zero, List.getD_cons_succ] at k0 k1 k2 k3 k4
  unfold U.order
  rw [hz k0, hz k1, hz k2, hz k3, hz k4]
  unfold U.firstNZ
  simp only [List.find?]
  by_cases e : U.cmpL (U.mv a) (U.mv b) = 0 <;> simp [e]

theorem keyL_small {a : FmD} (h : U.okForm a = true) (j : Nat) : -3 ≤ nth (U.keyL a) j ∧ nth (U.keyL a) j ≤ 31 := by
  obtain ⟨h1, _⟩ := okForm_iff.1 h
  unfold U.keyL U.rt U.lf U.co U.rw' U.fc nth
  match j with
  | 0 => simp only [List.getD_cons_zero]; omega
  | 1 => simp only [List.getD_cons_zero, List.getD_cons_succ]; omega
  | 2 => simp only [List.getD_cons_zero, List.getD_cons_succ]; omega
  | 3 => simp only [List.getD_cons_zero, List.getD_cons_succ]; omega
  | 4 => simp only [List.getD_cons_zero, List.getD_cons_succ]; omega
  | j + 5 => simp

theorem h79 : vc79 := by
  intro d ha hb
  have la := okForm_len ha
  have lb := okForm_len hb
  obtain ⟨h1, h2⟩ := okForm_iff.1 ha
  obtain ⟨h3, h4⟩ := okForm_iff.1 hb
  have sa := keyL_small ha
  have sb := keyL_small hb
  refine ⟨⟨0, ⟨⟨rfl, trivial⟩, trivial⟩, by omega, fun b hb => by omega⟩, fun i hi hl => ⟨fun h => ?_, fun h => ?_⟩⟩
  · have h : i < 5 := by simp at h; omega
    simp only [Int.toNat_natCast]
    have ea : [d.fst.snd.snd.snd.fst, d.fst.snd.snd.fst, d.fst.fst, d.fst.snd.fst, d.fst.snd.snd.snd.snd.fst] = U.keyL d.fst := rfl
    have eb : [d.snd.fst.snd.snd.snd.fst, d.snd.fst.snd.snd.fst, d.snd.fst.fst, d.snd.fst.snd.fst, d.snd.fst.snd.snd.snd.snd.fst] = U.keyL d.snd.fst := rfl
    rw [ea, eb]
    have e5 : (U.keyL d.fst).length = 5 := rfl
    have e5' : (U.keyL d.snd.fst).length = 5 := rfl
    rw [e5, e5']
    have := sa i
    have := sb i
    refine ⟨by omega, by omega, by omega, by omega, fun hc => ⟨by omega, by omega, by omega, by omega, by unfold In64; omega, ?_⟩, fun hc => ⟨by unfold In64; omega, i + 1, ⟨⟨by simp, trivial⟩, trivial⟩, ⟨by omega, fun b hb' => ?_⟩, by omega⟩⟩
    · rw [sgn_cmp, order_key h hi.2 (of_decide_eq_true hc)]
    · by_cases e : b = i
      · subst e; exact Classical.not_not.1 (of_decide_eq_false hc)
      · exact hi.2 b (by omega)
  · have h : 5 ≤ i := by simp at h; omega
    have heq : ∀ j : Nat, j < 5 → nth (U.keyL d.fst) j = nth (U.keyL d.snd.fst) j := fun j hj => hi.2 j (by omega)
    have hO := order_moves heq
    refine ⟨⟨0, ⟨⟨rfl, trivial⟩, trivial⟩, Nat.zero_le _, Nat.zero_le _, by simp⟩, fun k hk hla hlb => ?_⟩
    obtain ⟨k1, k2, k3⟩ := hk
    have em : d.fst.snd.snd.snd.snd.snd.fst = U.mv d.fst := rfl
    have em' : d.snd.fst.snd.snd.snd.snd.snd.fst = U.mv d.snd.fst := rfl
    have ec := cmpL_skip k (U.mv d.fst) (U.mv d.snd.fst) k1 k2 k3
    rw [em] at h2 ⊢
    rw [em'] at h4 ⊢
    simp only [Int.toNat_natCast]
    refine ⟨fun hc => ?_, fun hc => ?_⟩
    · simp only [Bool.and_eq_true, decide_eq_true_eq] at hc
      have c1 : k < (U.mv d.fst).length := by omega
      have c2 : k < (U.mv d.snd.fst).length := by omega
      have m1 := h2 _ (L.mem_nth c1)
      have m2 := h4 _ (L.mem_nth c2)
      rw [drop_nth c1, drop_nth c2] at ec
      refine ⟨by omega, by omega, by omega, by omega, fun hn => ⟨by omega, by omega, by omega, by omega, by unfold In64; omega, ?_⟩, fun hn => ⟨by unfold In64; omega, k + 1, ⟨⟨by simp, trivial⟩, trivial⟩, ⟨by omega, by omega, ?_⟩, by omega⟩⟩
      · have hn := of_decide_eq_true hn
        rw [sgn_cmp, hO, ec]
        simp only [U.cmpL]
        rw [if_pos (fun h => hn (cmp_zero.1 h))]
      · have hn := Classical.not_not.1 (of_decide_eq_false hn)
        rw [L.take_succ c1, L.take_succ c2, k3, hn]
    · simp only [Bool.and_eq_false_iff, decide_eq_false_iff_not] at hc
      refine fun _ _ => ⟨by unfold In64; omega, ?_⟩
      rw [sgn_cmp, hO, ec]
      congr 1
      by_cases c1 : k < (U.mv d.fst).length
      · have c2 : ¬ k < (U.mv d.snd.fst).length := by omega
        rw [drop_nth c1, List.drop_of_length_le (by omega : (U.mv d.snd.fst).length ≤ k)]
        unfold U.cmp
        simp only [U.cmpL]
        rw [if_neg (by omega), if_pos (by omega)]
      · rw [List.drop_of_length_le (by omega : (U.mv d.fst).length ≤ k)]
        by_cases c2 : k < (U.mv d.snd.fst).length
        · rw [drop_nth c2]
          unfold U.cmp
          simp only [U.cmpL]
          rw [if_pos (by omega)]
        · rw [List.drop_of_length_le (by omega : (U.mv d.snd.fst).length ≤ k)]
          unfold U.cmp
          simp only [U.cmpL]
          rw [if_neg (by omega), if_neg (by omega)]
theorem ok79 : FnOK PR 79 sp79 := mkFn (vc79_eq.mpr h79) Tryz.func79 (by kernel_rfl) (by kernel_rfl) (by kernel_rfl) (by kernel_rfl) ⟨fun _ => ok107, trivial⟩ trivial

theorem h39 : vc39 := by
  intro d h
  refine ⟨?_, rfl⟩
  have : (U.mv d.fst).length = d.fst.snd.snd.snd.snd.snd.fst.length := rfl
  omega
theorem ok39 : FnOK PR 39 sp39 := mkFn (vc39_eq.mpr h39) Tryz.func39 (by kernel_rfl) (by kernel_rfl) (by kernel_rfl) (by kernel_rfl) trivial trivial

theorem h78 : vc78 := by
  intro d hok
  have := okForm_len hok
  refine ⟨hok, mir_ok hok, hok, fun h => ?_, fun h => ⟨by omega, ?_⟩⟩
  · unfold U.canR
    rw [if_pos (of_decide_eq_true h)]
  · unfold U.canR
    rw [if_neg (of_decide_eq_false h)]
theorem ok78 : FnOK PR 78 sp78 := mkFn (vc78_eq.mpr h78) Tryz.func78 (by kernel_rfl) (by kernel_rfl) (by kernel_rfl) (by kernel_rfl) ⟨fun _ => ok29, fun _ => ok79, fun _ => ok39, trivial⟩ trivial

theorem h43 : vc43 := by
  intro d
  have em : d.fst.snd.snd.snd.snd.snd.fst = U.mv d.fst := rfl
  rw [em]
  refine ⟨⟨0, ⟨⟨rfl, trivial⟩, trivial⟩, Nat.zero_le _, by simp⟩, fun i hi hl => ⟨fun h => ?_, fun h => ?_⟩⟩
  · have h : i < (U.mv d.fst).length := by simpa using h
    simp only [Int.toNat_natCast]
    refine ⟨by omega, by omega, fun hb => ?_, fun hb => ⟨L.in64 (by omega) (by omega), i + 1, ⟨⟨by simp, trivial⟩, trivial⟩, ⟨by omega, ?_⟩, by omega⟩⟩
    · have hb : U.okMove (nth (U.mv d.fst) i) = false := by
        unfold U.okMove; unfold U.within at hb; simp only [Bool.not_eq_true', decide_eq_false_iff_not] at hb ⊢; exact hb
      have : U.okForm d.fst = false := by
        unfold U.okForm
        rw [L.all_false h hb, Bool.and_false]
      rw [this]
    · refine L.all_take h hi.2 ?_
      unfold U.okMove; unfold U.within at hb; simpa using hb
  · have h : (U.mv d.fst).length ≤ i := by simpa using h
    have ha := L.all_of_take h hi.2
    refine ⟨fun hb => ?_, fun _ => ?_⟩
    · unfold U.within at hb
      simp only [Bool.and_eq_true, decide_eq_true_eq] at hb
      unfold In64; omega
    · congr 1
      unfold U.okForm
      rw [ha, Bool.and_true]
      unfold U.within U.rt U.lf U.co U.rw' U.fc U.mv
      rw [Bool.eq_iff_iff]
      simp only [Bool.and_eq_true, decide_eq_true_eq]
      omega
theorem ok43 : FnOK PR 43 sp43 := mkFn (vc43_eq.mpr h43) Tryz.func43 (by kernel_rfl) (by kernel_rfl) (by kernel_rfl) (by kernel_rfl) ⟨fun _ => ok55, trivial⟩ trivial


end Go.X
/-
  Signs: 'every', valid forms and entries, canons: what is asked.
-/
namespace Go.X
open Go.Proofs

namespace U
def okE (x : ED) : Bool := decide (0 ≤ id' x ∧ id' x ≤ 99 ∧ 0 ≤ sg x ∧ sg x ≤ 999 ∧ 1 ≤ rg x ∧ rg x ≤ 255 ∧ 0 ≤ lo (ag x) ∧ lo (ag x) ≤ hi (ag x) ∧ hi (ag x) ≤ 120) && okForm (fm x)
def alike (a b : ED) : Bool := decide (sg a = sg b ∧ rg a = rg b ∧ ag a = ag b ∧ order (fm a) (fm b) = 0)
end U

def sp133 : Spec := ⟨[.val .int, .rfn [.int] [.bool]], [.bool], false, fun d => [U.allP (d.2.1.pre (d.1, ()))], fun d => (!(U.apply (α := Int) d.2.1.F d.1), ())⟩
def vc133 : Prop :=
  ∀ (d : Int × FnD [Ty.int] [Ty.bool] × Unit), U.allP (d.2.1.1 (d.1, ())) → asks (d.2.1.1 (d.1, ())) ((!(d.2.1.2 (d.1, ())).1, ()) = (!U.apply d.2.1.2 d.1, ()))

theorem vc133_eq : fnVC (ctx 8 [] []) (fun _ => none) Tryz.f133 (bodyOf Tryz.f133) sp133 = vc133 := by kernel_rfl

def sp105 : Spec := ⟨[.val (.slice .int), .fn [.int] [.bool]], [.bool], false, fun d => [∀ g ∈ d.1, U.allP (d.2.1.pre (g, ()))], fun d => (d.1.all (U.apply (α := Int) d.2.1.F), ())⟩
def vc105 : Prop :=
  ∀ (d : List Int × FnD [Ty.int] [Ty.bool] × Unit),
  (∀ (g : Int), g ∈ d.1 → U.allP (d.2.1.1 (g, ()))) →
  (∀ (g : Int), g ∈ d.1 → U.allP [U.allP (d.2.1.1 (g, ()))]) ∧ (!d.1.any (U.apply fun (x : Int × Unit) => (!U.apply d.2.1.2 x.1, ())), ()) = (d.1.all (U.apply d.2.1.2), ())

theorem vc105_eq : fnVC (ctx 9 [(132, sp132), (133, sp133)] []) (fun _ => none) Tryz.f105 (bodyOf Tryz.f105) sp105 = vc105 := by kernel_rfl

def sp76 : Spec := ⟨[.val tFm], [.bool], false, fun _ => [], fun d => (U.okForm d.1, ())⟩
def vc76 : Prop :=
  ∀ (d : FmD × Unit),
  ((U.within d.1.1 (-1 : Int) (31 : Int) && U.within d.1.2.1 (-1 : Int) (31 : Int) && decide ((0 : Int) ≤ max d.1.1 d.1.2.1) && U.within d.1.2.2.1 (-3 : Int) (3 : Int) &&
  U.within d.1.2.2.2.1 (0 : Int) (5 : Int) &&
  U.within d.1.2.2.2.2.1 (0 : Int) (7 : Int)) =
  true →
  d.1.2.2.2.2.2.1.length < 4611686018427387904) →
  ((U.within d.1.1 (-1 : Int) (31 : Int) && U.within d.1.2.1 (-1 : Int) (31 : Int) && decide ((0 : Int) ≤ max d.1.1 d.1.2.1) && U.within d.1.2.2.1 (-3 : Int) (3 : Int) &&
  U.within d.1.2.2.2.1 (0 : Int) (5 : Int) &&
  U.within d.1.2.2.2.2.1 (0 : Int) (7 : Int) &&
  decide ((d.1.2.2.2.2.2.1.length : Int) ≤ (6 : Int))) =
  true →
  ∀ (g : Int), g ∈ d.1.2.2.2.2.2.1 → U.allP []) ∧
  (U.within d.1.1 (-1 : Int) (31 : Int) && U.within d.1.2.1 (-1 : Int) (31 : Int) && decide ((0 : Int) ≤ max d.1.1 d.1.2.1) && U.within d.1.2.2.1 (-3 : Int) (3 : Int) &&
  U.within d.1.2.2.2.1 (0 : Int) (5 : Int) &&
  U.within d.1.2.2.2.2.1 (0 : Int) (7 : Int) &&
  decide ((d.1.2.2.2.2.2.1.length : Int) ≤ (6 : Int)) &&
  d.1.2.2.2.2.2.1.all (U.apply fun (x : Int × Unit) => (U.okMove x.1, ())),
  ()) =
  (U.okForm d.1, ())

theorem vc76_eq : fnVC (ctx 47 [(97, sp97), (104, sp104), (105, sp105)] []) (fun _ => none) Tryz.f76 (bodyOf Tryz.f76) sp76 = vc76 := by kernel_rfl


def sp140 : Spec := ⟨[.val (.slice tE), .fn [tE] [.bool]], [.int], false, fun d => [∀ g ∈ d.1, U.allP (d.2.1.pre (g, ()))], fun d => (U.idx (U.apply (α := ED) d.2.1.F) d.1, ())⟩
def an140 : Ann := fun r => match r with
  | 2 => some fun σ => { X := Nat, sl := fun i => [(8, .dat .int (i : Int))], ob := fun _ => [], inv := fun i => i ≤ (gd (.slice tE) σ 0).length ∧ ∀ b : Nat, b < i → U.apply (gfb tE σ 1) (nth (gd (.slice tE) σ 0) b) = false, mu := fun i => (gd (.slice tE) σ 0).length - i }
  | _ => none
def vc140 : Prop :=
  ∀ (d : List ED × FnD [tE] [Ty.bool] × Unit),
  (∀ (g : ED), g ∈ d.1 → U.allP (d.2.1.1 (g, ()))) →
  d.1.length < 4611686018427387904 →
  (∃ (x : Nat), (((0 : Int) = (x : Int) ∧ True) ∧ True) ∧ x ≤ d.1.length ∧ ∀ (b : Nat), b < x → U.apply d.2.1.2 (nth d.1 b) = false) ∧
  ∀ (x : Nat),
  (x ≤ d.1.length ∧ ∀ (b : Nat), b < x → U.apply d.2.1.2 (nth d.1 b) = false) →
  (decide ((x : Int) < (d.1.length : Int)) = true →
  0 ≤ (x : Int) ∧
  (x : Int) < (d.1.length : Int) ∧
  asks (d.2.1.1 (nth d.1 (x : Int).toNat, ()))
  (((d.2.1.2 (nth d.1 (x : Int).toNat, ())).1 = true → ((x : Int), ()) = (U.idx (U.apply d.2.1.2) d.1, ())) ∧
  ((d.2.1.2 (nth d.1 (x : Int).toNat, ())).1 = false →
  In64 ((x : Int) + 1) ∧
  ∃ (x' : Nat), (((x : Int) + 1 = (x' : Int) ∧ True) ∧ True) ∧ (x' ≤ d.1.length ∧ ∀ (b : Nat), b < x' → U.apply d.2.1.2 (nth d.1 b) = false) ∧ d.1.length - x' < d.1.length - x))) ∧
  (decide ((x : Int) < (d.1.length : Int)) = false → ((-1 : Int), ()) = (U.idx (U.apply d.2.1.2) d.1, ()))

theorem vc140_eq : fnVC (ctx 19 [] []) (an140) Tryz.f140 (bodyOf Tryz.f140) sp140 = vc140 := by kernel_rfl

def sp117 : Spec := ⟨[.val (.slice tE), .fn [tE] [.bool]], [.bool], false, fun d => [∀ g ∈ d.1, U.allP (d.2.1.pre (g, ()))], fun d => (d.1.any (U.apply (α := ED) d.2.1.F), ())⟩
def vc117 : Prop :=
  ∀ (d : List ED × FnD [tE] [Ty.bool] × Unit),
  (∀ (g : ED), g ∈ d.1 → U.allP (d.2.1.1 (g, ()))) →
  (∀ (g : ED), g ∈ d.1 → U.allP (d.2.1.1 (g, ()))) ∧
  (decide ((0 : Int) ≤ U.idx (U.apply d.2.1.2) d.1), ()) = (d.1.any (U.apply d.2.1.2), ())

theorem vc117_eq : fnVC (ctx 9 [(140, sp140)] []) (fun _ => none) Tryz.f117 (bodyOf Tryz.f117) sp117 = vc117 := by kernel_rfl

def sp118 : Spec := ⟨[.val tE, .rfn [tE] [.bool]], [.bool], false, fun d => [U.allP (d.2.1.pre (d.1, ()))], fun d => (!(U.apply (α := ED) d.2.1.F d.1), ())⟩
def vc118 : Prop :=
  ∀ (d : ED × FnD [tE] [Ty.bool] × Unit),
  U.allP (d.2.1.1 (d.1, ())) → asks (d.2.1.1 (d.1, ())) ((!(d.2.1.2 (d.1, ())).1, ()) = (!U.apply d.2.1.2 d.1, ()))

theorem vc118_eq : fnVC (ctx 8 [] []) (fun _ => none) Tryz.f118 (bodyOf Tryz.f118) sp118 = vc118 := by kernel_rfl

def sp98 : Spec := ⟨[.val (.slice tE), .fn [tE] [.bool]], [.bool], false, fun d => [∀ g ∈ d.1, U.allP (d.2.1.pre (g, ()))], fun d => (d.1.all (U.apply (α := ED) d.2.1.F), ())⟩
def vc98 : Prop :=
  ∀ (d : List ED × FnD [tE] [Ty.bool] × Unit),
  (∀ (g : ED), g ∈ d.1 → U.allP (d.2.1.1 (g, ()))) →
  (∀ (g : ED), g ∈ d.1 → U.allP [U.allP (d.2.1.1 (g, ()))]) ∧
  (!d.1.any (U.apply fun (x : ED × Unit) => (!U.apply d.2.1.2 x.1, ())), ()) = (d.1.all (U.apply d.2.1.2), ())

theorem vc98_eq : fnVC (ctx 9 [(117, sp117), (118, sp118)] []) (fun _ => none) Tryz.f98 (bodyOf Tryz.f98) sp98 = vc98 := by kernel_rfl


def sp149 : Spec := ⟨[.val (.slice tSp), .fn [tSp] [.bool]], [.int], false, fun d => [∀ g ∈ d.1, U.allP (d.2.1.pre (g, ()))], fun d => (U.idx (U.apply (α := SpD) d.2.1.F) d.1, ())⟩
def an149 : Ann := fun r => match r with
  | 2 => some fun σ => { X := Nat, sl := fun i => [(8, .dat .int (i : Int))], ob := fun _ => [], inv := fun i => i ≤ (gd (.slice tSp) σ 0).length ∧ ∀ b : Nat, b < i → U.apply (gfb tSp σ 1) (nth (gd (.slice tSp) σ 0) b) = false, mu := fun i => (gd (.slice tSp) σ 0).length - i }
  | _ => none
def vc149 : Prop :=
  ∀ (d : List SpD × FnD [tSp] [Ty.bool] × Unit),
  (∀ (g : Int × Int × Unit), g ∈ d.1 → U.allP (d.2.1.1 (g, ()))) →
  d.1.length < 4611686018427387904 →
  (∃ (x : Nat), (((0 : Int) = (x : Int) ∧ True) ∧ True) ∧ x ≤ d.1.length ∧ ∀ (b : Nat), b < x → U.apply d.2.1.2 (nth d.1 b) = false) ∧
  ∀ (x : Nat),
  (x ≤ d.1.length ∧ ∀ (b : Nat), b < x → U.apply d.2.1.2 (nth d.1 b) = false) →
  (decide ((x : Int) < (d.1.length : Int)) = true →
  0 ≤ (x : Int) ∧
  (x : Int) < (d.1.length : Int) ∧
  asks (d.2.1.1 (nth d.1 (x : Int).toNat, ()))
  (((d.2.1.2 (nth d.1 (x : Int).toNat, ())).1 = true → ((x : Int), ()) = (U.idx (U.apply d.2.1.2) d.1, ())) ∧
  ((d.2.1.2 (nth d.1 (x : Int).toNat, ())).1 = false →
  In64 ((x : Int) + 1) ∧
  ∃ (x' : Nat), (((x : Int) + 1 = (x' : Int) ∧ True) ∧ True) ∧ (x' ≤ d.1.length ∧ ∀ (b : Nat), b < x' → U.apply d.2.1.2 (nth d.1 b) = false) ∧ d.1.length - x' < d.1.length - x))) ∧
  (decide ((x : Int) < (d.1.length : Int)) = false → ((-1 : Int), ()) = (U.idx (U.apply d.2.1.2) d.1, ()))

theorem vc149_eq : fnVC (ctx 19 [] []) (an149) Tryz.f149 (bodyOf Tryz.f149) sp149 = vc149 := by kernel_rfl

def sp135 : Spec := ⟨[.val (.slice tSp), .fn [tSp] [.bool]], [.bool], false, fun d => [∀ g ∈ d.1, U.allP (d.2.1.pre (g, ()))], fun d => (d.1.any (U.apply (α := SpD) d.2.1.F), ())⟩
def vc135 : Prop :=
  ∀ (d : List SpD × FnD [tSp] [Ty.bool] × Unit),
  (∀ (g : Int × Int × Unit), g ∈ d.1 → U.allP (d.2.1.1 (g, ()))) →
  (∀ (g : Int × Int × Unit), g ∈ d.1 → U.allP (d.2.1.1 (g, ()))) ∧ (decide ((0 : Int) ≤ U.idx (U.apply d.2.1.2) d.1), ()) = (d.1.any (U.apply d.2.1.2), ())

theorem vc135_eq : fnVC (ctx 9 [(149, sp149)] []) (fun _ => none) Tryz.f135 (bodyOf Tryz.f135) sp135 = vc135 := by kernel_rfl

def sp136 : Spec := ⟨[.val tSp, .rfn [tSp] [.bool]], [.bool], false, fun d => [U.allP (d.2.1.pre (d.1, ()))], fun d => (!(U.apply (α := SpD) d.2.1.F d.1), ())⟩
def vc136 : Prop :=
  ∀ (d : SpD × FnD [tSp] [Ty.bool] × Unit), U.allP (d.2.1.1 (d.1, ())) → asks (d.2.1.1 (d.1, ())) ((!(d.2.1.2 (d.1, ())).1, ()) = (!U.apply d.2.1.2 d.1, ()))

theorem vc136_eq : fnVC (ctx 8 [] []) (fun _ => none) Tryz.f136 (bodyOf Tryz.f136) sp136 = vc136 := by kernel_rfl

def sp112 : Spec := ⟨[.val (.slice tSp), .fn [tSp] [.bool]], [.bool], false, fun d => [∀ g ∈ d.1, U.allP (d.2.1.pre (g, ()))], fun d => (d.1.all (U.apply (α := SpD) d.2.1.F), ())⟩
def vc112 : Prop :=
  ∀ (d : List SpD × FnD [tSp] [Ty.bool] × Unit),
  (∀ (g : Int × Int × Unit), g ∈ d.1 → U.allP (d.2.1.1 (g, ()))) →
  (∀ (g : Int × Int × Unit), g ∈ d.1 → U.allP [U.allP (d.2.1.1 (g, ()))]) ∧ (!d.1.any (U.apply fun (x : SpD × Unit) => (!U.apply d.2.1.2 x.1, ())), ()) = (d.1.all (U.apply d.2.1.2), ())

theorem vc112_eq : fnVC (ctx 9 [(135, sp135), (136, sp136)] []) (fun _ => none) Tryz.f112 (bodyOf Tryz.f112) sp112 = vc112 := by kernel_rfl


def sp96 : Spec := ⟨[.val tE], [.bool], false, fun _ => [], fun d => (U.okE d.1, ())⟩
def vc96 : Prop :=
  ∀ (d : ED × Unit),
  (U.within d.1.1 (0 : Int) (99 : Int) && U.within d.1.2.1 (0 : Int) (999 : Int) && U.okForm d.1.2.2.2.1 && U.within d.1.2.2.1 (1 : Int) (255 : Int) && decide ((0 : Int) ≤ d.1.2.2.2.2.1.1) &&
  decide (d.1.2.2.2.2.1.1 ≤ d.1.2.2.2.2.1.2.1) &&
  decide (d.1.2.2.2.2.1.2.1 ≤ (120 : Int)),
  ()) =
  (U.okE d.1, ())

theorem vc96_eq : fnVC (ctx 42 [(97, sp97), (76, sp76)] []) (fun _ => none) Tryz.f96 (bodyOf Tryz.f96) sp96 = vc96 := by kernel_rfl

def sp108 : Spec := ⟨[.val tE, .val tE], [.bool], false, fun _ => [], fun d => (U.alike d.1 d.2.1, ())⟩
def vc108 : Prop :=
  ∀ (d : ED × ED × Unit),
  (decide (d.1.2.1 = d.2.1.2.1) && decide (d.1.2.2.1 = d.2.1.2.2.1) && decide (d.1.2.2.2.2.1 = d.2.1.2.2.2.2.1) &&
  decide (U.order d.1.2.2.2.1 d.2.1.2.2.2.1 = (0 : Int)),
  ()) =
  (U.alike d.1 d.2.1, ())

theorem vc108_eq : fnVC (ctx 32 [(63, sp63)] []) (fun _ => none) Tryz.f108 (bodyOf Tryz.f108) sp108 = vc108 := by kernel_rfl

def sp65 : Spec := ⟨[.val tE, .val tE], [.int], false, fun _ => [], fun d => (U.cmp (U.id' d.1) (U.id' d.2.1), ())⟩
def vc65 : Prop :=
  ∀ (d : ED × ED × Unit),
  (U.cmp d.1.1 d.2.1.1, ()) = (U.cmp (U.id' d.1) (U.id' d.2.1), ())

theorem vc65_eq : fnVC (ctx 10 [(64, sp64)] []) (fun _ => none) Tryz.f65 (bodyOf Tryz.f65) sp65 = vc65 := by kernel_rfl






end Go.X
/-
  Signs: 'every', valid forms and entries, canons.
-/
namespace Go.X
open Go.Proofs

theorem notAny {α : Type} (F : α × Unit → Bool × Unit) (l : List α) : (!l.any (U.apply fun (x : α × Unit) => (!U.apply F x.fst, ()))) = l.all (U.apply F) := by
  induction l with
  | nil => rfl
  | cons a r ih =>
    simp only [List.any_cons, List.all_cons, Bool.not_or, ih]
    have : (!U.apply (fun (x : α × Unit) => (!U.apply F x.fst, ())) a) = U.apply F a := by
      show (!(!U.apply F a)) = _
      rw [Bool.not_not]
    rw [this]

theorem h133 : vc133 := by
  intro d h
  exact asks_of _ h rfl
theorem ok133 : FnOK PR 133 sp133 := mkFn (vc133_eq.mpr h133) Tryz.func133 (by kernel_rfl) (by kernel_rfl) (by kernel_rfl) (by kernel_rfl) trivial trivial
theorem h105 : vc105 := by
  intro d h
  exact ⟨fun g hg => ⟨h g hg, trivial⟩, congrArg (·, ()) (notAny d.snd.fst.2 d.fst)⟩
theorem ok105 : FnOK PR 105 sp105 := mkFn (vc105_eq.mpr h105) Tryz.func105 (by kernel_rfl) (by kernel_rfl) (by kernel_rfl) (by kernel_rfl) ⟨fun _ => ok132, fun _ => ok133, trivial⟩ trivial
theorem h140 : vc140 := by
  rintro ⟨l, f, ⟨⟩⟩ hpre hl
  refine ⟨⟨0, ⟨⟨rfl, trivial⟩, trivial⟩, Nat.zero_le _, fun b hb => by omega⟩, fun i hi => ⟨fun h => ?_, fun h => ?_⟩⟩
  · have h : i < l.length := by simpa using h
    simp only [Int.toNat_natCast] at *
    refine ⟨by omega, by omega, asks_of _ (hpre _ (L.mem_nth h)) ⟨fun hb => ?_, fun hb => ⟨L.in64 (by omega) (by omega), i + 1, ⟨⟨by simp, trivial⟩, trivial⟩, ⟨by omega, fun b hb' => ?_⟩, by omega⟩⟩⟩
    · rw [findIdx_at (p := U.apply (α := ED) f.F) h hi.2 hb]
    · by_cases e : b = i
      · subst e; exact hb
      · exact hi.2 b (by omega)
  · have h : l.length ≤ i := by simpa using h
    rw [findIdx_none (p := U.apply (α := ED) f.F) h hi.2]
theorem ok140 : FnOK PR 140 sp140 := mkFn (vc140_eq.mpr h140) Tryz.func140 (by kernel_rfl) (by kernel_rfl) (by kernel_rfl) (by kernel_rfl) trivial trivial
theorem h117 : vc117 := by
  rintro ⟨l, f, ⟨⟩⟩ hpre
  refine ⟨hpre, ?_⟩
  exact congrArg (·, ()) (idx_any (U.apply (α := ED) f.F) l)
theorem ok117 : FnOK PR 117 sp117 := mkFn (vc117_eq.mpr h117) Tryz.func117 (by kernel_rfl) (by kernel_rfl) (by kernel_rfl) (by kernel_rfl) ⟨fun _ => ok140, trivial⟩ trivial
theorem h118 : vc118 := by
  intro d h
  exact asks_of _ h rfl
theorem ok118 : FnOK PR 118 sp118 := mkFn (vc118_eq.mpr h118) Tryz.func118 (by kernel_rfl) (by kernel_rfl) (by kernel_rfl) (by kernel_rfl) trivial trivial
theorem h98 : vc98 := by
  intro d h
  exact ⟨fun g hg => ⟨h g hg, trivial⟩, congrArg (·, ()) (notAny d.snd.fst.2 d.fst)⟩
theorem ok98 : FnOK PR 98 sp98 := mkFn (vc98_eq.mpr h98) Tryz.func98 (by kernel_rfl) (by kernel_rfl) (by kernel_rfl) (by kernel_rfl) ⟨fun _ => ok117, fun _ => ok118, trivial⟩ trivial
theorem h149 : vc149 := by
  rintro ⟨l, f, ⟨⟩⟩ hpre hl
  refine ⟨⟨0, ⟨⟨rfl, trivial⟩, trivial⟩, Nat.zero_le _, fun b hb => by omega⟩, fun i hi => ⟨fun h => ?_, fun h => ?_⟩⟩
  · have h : i < l.length := by simpa using h
    simp only [Int.toNat_natCast] at *
    refine ⟨by omega, by omega, asks_of _ (hpre _ (L.mem_nth h)) ⟨fun hb => ?_, fun hb => ⟨L.in64 (by omega) (by omega), i + 1, ⟨⟨by simp, trivial⟩, trivial⟩, ⟨by omega, fun b hb' => ?_⟩, by omega⟩⟩⟩
    · rw [findIdx_at (p := U.apply (α := SpD) f.F) h hi.2 hb]
    · by_cases e : b = i
      · subst e; exact hb
      · exact hi.2 b (by omega)
  · have h : l.length ≤ i := by simpa using h
    rw [findIdx_none (p := U.apply (α := SpD) f.F) h hi.2]
theorem ok149 : FnOK PR 149 sp149 := mkFn (vc149_eq.mpr h149) Tryz.func149 (by kernel_rfl) (by kernel_rfl) (by kernel_rfl) (by kernel_rfl) trivial trivial
theorem h135 : vc135 := by
  rintro ⟨l, f, ⟨⟩⟩ hpre
  refine ⟨hpre, ?_⟩
  exact congrArg (·, ()) (idx_any (U.apply (α := SpD) f.F) l)
theorem ok135 : FnOK PR 135 sp135 := mkFn (vc135_eq.mpr h135) Tryz.func135 (by kernel_rfl) (by kernel_rfl) (by kernel_rfl) (by kernel_rfl) ⟨fun _ => ok149, trivial⟩ trivial
theorem h136 : vc136 := by
  intro d h
  exact asks_of _ h rfl
theorem ok136 : FnOK PR 136 sp136 := mkFn (vc136_eq.mpr h136) Tryz.func136 (by kernel_rfl) (by kernel_rfl) (by kernel_rfl) (by kernel_rfl) trivial trivial
theorem h112 : vc112 := by
  intro d h
  exact ⟨fun g hg => ⟨h g hg, trivial⟩, congrArg (·, ()) (notAny d.snd.fst.2 d.fst)⟩
theorem ok112 : FnOK PR 112 sp112 := mkFn (vc112_eq.mpr h112) Tryz.func112 (by kernel_rfl) (by kernel_rfl) (by kernel_rfl) (by kernel_rfl) ⟨fun _ => ok135, fun _ => ok136, trivial⟩ trivial

theorem h76 : vc76 := by
  intro d _
  refine ⟨fun _ _ _ => trivial, ?_⟩
  congr 1
  have e : (fun (x : Int × Unit) => (U.okMove x.fst, ())) = fun x => (U.okMove x.fst, ()) := rfl
  have ha : d.fst.snd.snd.snd.snd.snd.fst.all (U.apply fun (x : Int × Unit) => (U.okMove x.fst, ())) = (U.mv d.fst).all U.okMove := rfl
  rw [ha]
  unfold U.okForm U.within U.rt U.lf U.co U.rw' U.fc U.mv
  congr 1
  rw [Bool.eq_iff_iff]
  simp only [Bool.and_eq_true, decide_eq_true_eq]
  omega
theorem ok76 : FnOK PR 76 sp76 := mkFn (vc76_eq.mpr h76) Tryz.func76 (by kernel_rfl) (by kernel_rfl) (by kernel_rfl) (by kernel_rfl) ⟨fun _ => ok97, fun _ => ok104, fun _ => ok105, trivial⟩ trivial

theorem h96 : vc96 := by
  intro d
  congr 1
  unfold U.okE U.within U.id' U.sg U.rg U.lo U.hi U.ag U.fm
  rw [Bool.eq_iff_iff]
  simp only [Bool.and_eq_true, decide_eq_true_eq]
  constructor
  · rintro ⟨⟨⟨⟨⟨⟨h1, h2⟩, h3⟩, h4⟩, h5⟩, h6⟩, h7⟩; exact ⟨⟨h1.1, h1.2, h2.1, h2.2, h4.1, h4.2, h5, h6, h7⟩, h3⟩
  · rintro ⟨⟨h1, h2, h3, h4, h5, h6, h7, h8, h9⟩, h10⟩; exact ⟨⟨⟨⟨⟨⟨⟨h1, h2⟩, h3, h4⟩, h10⟩, h5, h6⟩, h7⟩, h8⟩, h9⟩
theorem ok96 : FnOK PR 96 sp96 := mkFn (vc96_eq.mpr h96) Tryz.func96 (by kernel_rfl) (by kernel_rfl) (by kernel_rfl) (by kernel_rfl) ⟨fun _ => ok97, fun _ => ok76, trivial⟩ trivial
theorem h108 : vc108 := by
  intro d
  congr 1
  unfold U.alike U.sg U.rg U.ag U.fm
  rw [Bool.eq_iff_iff]
  simp only [Bool.and_eq_true, decide_eq_true_eq, and_assoc]
theorem ok108 : FnOK PR 108 sp108 := mkFn (vc108_eq.mpr h108) Tryz.func108 (by kernel_rfl) (by kernel_rfl) (by kernel_rfl) (by kernel_rfl) ⟨fun _ => ok63, trivial⟩ trivial
theorem h65 : vc65 := fun _ => rfl
theorem ok65 : FnOK PR 65 sp65 := mkFn (vc65_eq.mpr h65) Tryz.func65 (by kernel_rfl) (by kernel_rfl) (by kernel_rfl) (by kernel_rfl) ⟨fun _ => ok64, trivial⟩ trivial

end Go.X
/-
  Signs: books opened; entries in order: what is asked.
-/
namespace Go.X
open Go.Proofs

abbrev tM : Ty := .map .int tE
abbrev Bk : Type := List (Int × ED)

namespace U
def canE (x : ED) : ED := (id' x, sg x, rg x, canon (fm x), ag x, ())
def add1 (b : Bool × Bk) (x : ED) : Bool × Bk := if misS (mfind .int (id' x) b.2) = true then (b.1 && alike (mvalD tE.dflt (mfind .int (id' x) b.2)) (canE x), b.2) else (b.1, mput .int (id' x) (canE x) b.2)
def addTo (b : Bk) (l : List ED) : Bool × Bk := l.foldl add1 (true, b)
def opn (l : List ED) : Bk × Int × Unit := if 40 < l.length ∨ l.all okE = false then ([], 11, ()) else if (addTo [] l).1 = false then ([], 12, ()) else ((addTo [] l).2, 0, ())
def vals (m : Bk) : List ED := m.map (·.2)
end U

/-- the map under a name -/
def gmap (σ : St) (o : Nat) : Bk := match σ.obj o with
  | some (.map _ kt vt l) => (match cast? (.map kt vt) (.map .int tE) l with | some l' => l' | none => [])
  | _ => []

/-- the map that an iterator runs over -/
def gmI (σ : St) (o : Nat) : Bk := match σ.obj o with
  | some (.iter kt vt l _) => (match cast? (.map kt vt) (.map .int tE) l with | some l' => l' | none => [])
  | _ => []

def so80 : OSpec := ⟨[.own (.cl (.map .int tE)) true, .val (.slice tE)], [.cl (.dat .bool)], fun d => [∀ x ∈ d.2.1, U.okE x = true], fun d => (((U.addTo d.1 d.2.1).1, ()), ((U.addTo d.1 d.2.1).2, ()))⟩
def an80 : Ann := fun r => match r with
  | 3 => some fun σ => { X := Nat, sl := fun i => [(12, .dat .int (i : Int)), (5, .dat .bool (U.addTo (gmap σ 1000000) ((gd (.slice tE) σ 1).take i)).1)], ob := fun i => [(1000000, some (.map false .int tE (U.addTo (gmap σ 1000000) ((gd (.slice tE) σ 1).take i)).2))], inv := fun i => i ≤ (gd (.slice tE) σ 1).length, mu := fun i => (gd (.slice tE) σ 1).length - i }
  | _ => none
def vc80 : Prop :=
  ∀ (d : List (Int × ED) × List ED × Unit),
  (∀ (x : ED), x ∈ d.2.1 → U.okE x = true) →
  d.2.1.length < 4611686018427387904 →
  (∃ (x : Nat), (((0 : Int) = (x : Int) ∧ true = (U.addTo d.1 (List.take x d.2.1)).1 ∧ True) ∧ d.1 = (U.addTo d.1 (List.take x d.2.1)).2 ∧ True) ∧ x ≤ d.2.1.length) ∧
  ∀ (x : Nat),
  x ≤ d.2.1.length →
  (decide ((x : Int) < (d.2.1.length : Int)) = true →
  0 ≤ (x : Int) ∧
  (x : Int) < (d.2.1.length : Int) ∧
  U.okForm (nth d.2.1 (x : Int).toNat).2.2.2.1 = true ∧
  (misS (mfind Ty.int (nth d.2.1 (x : Int).toNat).1 (U.addTo d.1 (List.take x d.2.1)).2) = true →
  In64 ((x : Int) + 1) ∧
  ∃ (x' : Nat),
  (((x : Int) + 1 = (x' : Int) ∧
  ((U.addTo d.1 (List.take x d.2.1)).1 &&
  U.alike
  (mvalD ((0 : Int), (0 : Int), (0 : Int), ((0 : Int), (0 : Int), (0 : Int), (0 : Int), (0 : Int), [], ()), ((0 : Int), (0 : Int), ()), ())
  (mfind Ty.int (nth d.2.1 (x : Int).toNat).1 (U.addTo d.1 (List.take x d.2.1)).2))
  ((nth d.2.1 (x : Int).toNat).1, (nth d.2.1 (x : Int).toNat).2.1, (nth d.2.1 (x : Int).toNat).2.2.1, U.canon (nth d.2.1 (x : Int).toNat).2.2.2.1,
  (nth d.2.1 (x : Int).toNat).2.2.2.2)) =
  (U.addTo d.1 (List.take x' d.2.1)).1 ∧
  True) ∧
  (U.addTo d.1 (List.take x d.2.1)).2 = (U.addTo d.1 (List.take x' d.2.1)).2 ∧ True) ∧
  x' ≤ d.2.1.length ∧ d.2.1.length - x' < d.2.1.length - x) ∧
  (misS (mfind Ty.int (nth d.2.1 (x : Int).toNat).1 (U.addTo d.1 (List.take x d.2.1)).2) = false →
  In64 ((x : Int) + 1) ∧
  ∃ (x' : Nat),
  (((U.addTo d.1 (List.take x d.2.1)).1 = (U.addTo d.1 (List.take x' d.2.1)).1 ∧ (x : Int) + 1 = (x' : Int) ∧ True) ∧
  mput Ty.int (nth d.2.1 (x : Int).toNat).1
  ((nth d.2.1 (x : Int).toNat).1, (nth d.2.1 (x : Int).toNat).2.1, (nth d.2.1 (x : Int).toNat).2.2.1, U.canon (nth d.2.1 (x : Int).toNat).2.2.2.1,
  (nth d.2.1 (x : Int).toNat).2.2.2.2)
  (U.addTo d.1 (List.take x d.2.1)).2 =
  (U.addTo d.1 (List.take x' d.2.1)).2 ∧
  True) ∧
  x' ≤ d.2.1.length ∧ d.2.1.length - x' < d.2.1.length - x)) ∧
  (decide ((x : Int) < (d.2.1.length : Int)) = false →
  ((U.addTo d.1 (List.take x d.2.1)).1, ()) = ((U.addTo d.1 d.2.1).1, ()) ∧ ((U.addTo d.1 (List.take x d.2.1)).2, ()) = ((U.addTo d.1 d.2.1).2, ()))

theorem vc80_eq : ofnVC (ctx 40 [(77, sp77), (108, sp108)] []) (an80) Tryz.f80 (bodyOf Tryz.f80) so80 = vc80 := by kernel_rfl


def sp59 : Spec := ⟨[.val (.slice tE)], [tM, .int], false, fun _ => [], fun d => U.opn d.1⟩
def vc59 : Prop :=
  ∀ (d : List ED × Unit),
  d.1.length < 4611686018427387904 →
  ((!decide (40 < (d.1.length : Int))) = true → ∀ (g : ED), g ∈ d.1 → U.allP []) ∧
  ((decide (40 < (d.1.length : Int)) || !d.1.all (U.apply fun (x : ED × Unit) => (U.okE x.1, ()))) = true →
  ([], (11 : Int), ()) = U.opn d.1) ∧
  ((decide (40 < (d.1.length : Int)) || !d.1.all (U.apply fun (x : ED × Unit) => (U.okE x.1, ()))) = false →
  (∀ (x : ED), x ∈ d.1 → U.okE x = true) ∧
  ((!(U.addTo [] d.1).1) = true → ([], (12 : Int), ()) = U.opn d.1) ∧ ((!(U.addTo [] d.1).1) = false → ((U.addTo [] d.1).2, (0 : Int), ()) = U.opn d.1))

theorem vc59_eq : fnVC (ctx 21 [(96, sp96), (98, sp98)] [(80, so80)]) (fun _ => none) Tryz.f59 (bodyOf Tryz.f59) sp59 = vc59 := by kernel_rfl

def so59w : OSpec := ⟨[.val (.slice tE)], [.cl (.map .int tE), .cl (.dat .int)], fun d => [(U.opn d.1).2.1 = 0], fun d => (((U.opn d.1).1, 0, ()), ())⟩
def vc59w : Prop :=
  ∀ (d : List ED × Unit),
  (U.opn d.1).2.1 = (0 : Int) →
  d.1.length < 4611686018427387904 →
  ((!decide (40 < (d.1.length : Int))) = true → ∀ (g : ED), g ∈ d.1 → U.allP []) ∧
  ((decide (40 < (d.1.length : Int)) || !d.1.all (U.apply fun (x : ED × Unit) => (U.okE x.1, ()))) = true → False) ∧
  ((decide (40 < (d.1.length : Int)) || !d.1.all (U.apply fun (x : ED × Unit) => (U.okE x.1, ()))) = false →
  (∀ (x : ED), x ∈ d.1 → U.okE x = true) ∧
  ((!(U.addTo [] d.1).1) = true → False) ∧ ((!(U.addTo [] d.1).1) = false → ((U.addTo [] d.1).2, (0 : Int), ()) = ((U.opn d.1).1, (0 : Int), ()) ∧ () = ()))

theorem vc59w_eq : ofnVC (ctx 21 [(96, sp96), (98, sp98)] [(80, so80)]) (fun _ => none) Tryz.f59 (bodyOf Tryz.f59) so59w = vc59w := by kernel_rfl




end Go.X
/-
  Signs: books opened.
-/
namespace Go.X
open Go.Proofs

theorem addTo_take {b : Bk} {l : List ED} {i : Nat} (h : i < l.length) : U.addTo b (l.take (i + 1)) = U.add1 (U.addTo b (l.take i)) (nth l i) := by
  unfold U.addTo
  rw [L.take_succ h, List.foldl_append]
  rfl
theorem okE_form {x : ED} (h : U.okE x = true) : U.okForm (U.fm x) = true := by
  unfold U.okE at h
  simp only [Bool.and_eq_true] at h
  exact h.2

theorem add1_old {p : Bool × Bk} {x : ED} (h : misS (mfind .int (U.id' x) p.2) = true) : U.add1 p x = (p.1 && U.alike (mvalD tE.dflt (mfind .int (U.id' x) p.2)) (U.canE x), p.2) := by
  unfold U.add1; rw [if_pos h]
theorem add1_new {p : Bool × Bk} {x : ED} (h : misS (mfind .int (U.id' x) p.2) = false) : U.add1 p x = (p.1, mput .int (U.id' x) (U.canE x) p.2) := by
  unfold U.add1; rw [if_neg (by rw [h]; simp)]

theorem h80 : vc80 := by
  rintro ⟨b, l, ⟨⟩⟩ hpre hl
  refine ⟨⟨0, ⟨⟨rfl, rfl, trivial⟩, rfl, trivial⟩, Nat.zero_le _⟩, fun i hi => ⟨fun h => ?_, fun h => ?_⟩⟩
  · have h : i < l.length := by simpa using h
    have hi : i ≤ l.length := hi
    have hl : l.length < 4611686018427387904 := hl
    simp only [Int.toNat_natCast]
    have hx := addTo_take (b := b) h
    refine ⟨by omega, by omega, okE_form (hpre _ (L.mem_nth h)), fun hm => ⟨L.in64 (by omega) (by omega), i + 1, ⟨⟨by simp, ?_, trivial⟩, ?_, trivial⟩, h, by omega⟩, fun hm => ⟨L.in64 (by omega) (by omega), i + 1, ⟨⟨?_, by simp, trivial⟩, ?_, trivial⟩, h, by omega⟩⟩
    · rw [hx, add1_old hm]; rfl
    · rw [hx, add1_old hm]
    · rw [hx, add1_new hm]
    · rw [hx, add1_new hm]; rfl
  · have h : l.length ≤ i := by simpa using h
    simp only
    rw [List.take_of_length_le h]
    exact ⟨rfl, rfl⟩
theorem ok80 : OFnOK PR 80 so80 := mkFnO (vc80_eq.mpr h80) Tryz.func80 (by kernel_rfl) (by kernel_rfl) (by kernel_rfl) (by kernel_rfl) (by kernel_rfl) ⟨fun _ => ok77, fun _ => ok108, trivial⟩ trivial

theorem all_apply {l : List ED} : l.all (U.apply fun (x : ED × Unit) => (U.okE x.fst, ())) = l.all U.okE := rfl

theorem opn_bad {l : List ED} (h : (decide ((40 : Int) < (l.length : Int)) || !l.all U.okE) = true) : U.opn l = ([], 11, ()) := by
  unfold U.opn
  rw [if_pos]
  simp only [Bool.or_eq_true, decide_eq_true_eq, Bool.not_eq_true'] at h
  rcases h with h | h
  · exact .inl (by omega)
  · exact .inr h
theorem opn_all {l : List ED} (h : (decide ((40 : Int) < (l.length : Int)) || !l.all U.okE) = false) : (∀ x ∈ l, U.okE x = true) ∧ U.opn l = if (U.addTo [] l).1 = false then ([], 12, ()) else ((U.addTo [] l).2, 0, ()) := by
  simp only [Bool.or_eq_false_iff, decide_eq_false_iff_not, Bool.not_eq_false'] at h
  refine ⟨List.all_eq_true.1 h.2, ?_⟩
  unfold U.opn
  rw [if_neg]
  rw [h.2]
  rintro (h1 | h1)
  · omega
  · cases h1

theorem h59 : vc59 := by
  intro d hl
  rw [all_apply]
  refine ⟨fun _ _ _ => trivial, fun h => by rw [opn_bad h], fun h => ?_⟩
  obtain ⟨h1, h2⟩ := opn_all h
  refine ⟨h1, fun h3 => ?_, fun h3 => ?_⟩
  · rw [h2, if_pos (by simpa using h3)]
  · rw [h2, if_neg (by simpa using h3)]
theorem ok59 : FnOK PR 59 sp59 := mkFn (vc59_eq.mpr h59) Tryz.func59 (by kernel_rfl) (by kernel_rfl) (by kernel_rfl) (by kernel_rfl) ⟨fun _ => ok96, fun _ => ok98, trivial⟩ ⟨ok80, trivial⟩
theorem h59w : vc59w := by
  intro d h0 hl
  rw [all_apply]
  refine ⟨fun _ _ _ => trivial, fun h => (by rw [opn_bad h] at h0; cases h0), fun h => ?_⟩
  obtain ⟨h1, h2⟩ := opn_all h
  refine ⟨h1, fun h3 => ?_, fun h3 => ⟨?_, rfl⟩⟩
  · rw [h2, if_pos (by simpa using h3)] at h0; cases h0
  · rw [h2, if_neg (by simpa using h3)]
theorem ok59w : OFnOK PR 59 so59w := mkFnO (vc59w_eq.mpr h59w) Tryz.func59 (by kernel_rfl) (by kernel_rfl) (by kernel_rfl) (by kernel_rfl) (by kernel_rfl) ⟨fun _ => ok96, fun _ => ok98, trivial⟩ ⟨ok80, trivial⟩

end Go.X
