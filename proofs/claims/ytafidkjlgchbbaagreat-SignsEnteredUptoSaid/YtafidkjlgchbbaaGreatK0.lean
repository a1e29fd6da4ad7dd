/-
  The table of types of this program, checked; contexts.
-/
import Derived.Test.YtafidkjlgchbbaaGreatK8
import Derived.Test.YtafidkjlgchbbaaGreatK5
import Derived.Test.YtafidkjlgchbbaaGreatProg
import Derived.KernelRfl
namespace Go.X
open Go.Proofs

def ti : List TI := [
  { id := 1, ty := .unit, size := 1, agg := false, fields := [], sl := false, elem := 0, bytes := 8, zero := [.nilFunc], cmp := false, mp := false, key := 0, kq := false },
  { id := 2, ty := .int, size := 1, agg := false, fields := [], sl := false, elem := 0, bytes := 8, zero := [.int .i64 0], cmp := false, mp := false, key := 0, kq := true },
  { id := 3, ty := .int, size := 1, agg := false, fields := [], sl := false, elem := 0, bytes := 8, zero := [.int .i64 0], cmp := false, mp := false, key := 0, kq := true },
  { id := 4, ty := .bool, size := 1, agg := false, fields := [], sl := false, elem := 0, bytes := 1, zero := [.bool false], cmp := true, mp := false, key := 0, kq := false },
  { id := 5, ty := .uint .u8, size := 1, agg := false, fields := [], sl := false, elem := 0, bytes := 1, zero := [.int .u8 0], cmp := false, mp := false, key := 0, kq := false },
  { id := 6, ty := .uint .u8, size := 1, agg := false, fields := [], sl := false, elem := 0, bytes := 1, zero := [.int .u8 0], cmp := false, mp := false, key := 0, kq := false },
  { id := 7, ty := .st [.int, .int, .bool, .uint .u8], size := 4, agg := true, fields := [(0, 2), (1, 3), (2, 4), (3, 6)], sl := false, elem := 0, bytes := 24, zero := [.int .i64 0, .int .i64 0, .bool false, .int .u8 0], cmp := true, mp := false, key := 0, kq := true },
  { id := 8, ty := .st [.int, .int, .bool, .uint .u8], size := 4, agg := true, fields := [(0, 2), (1, 3), (2, 4), (3, 6)], sl := false, elem := 0, bytes := 24, zero := [.int .i64 0, .int .i64 0, .bool false, .int .u8 0], cmp := true, mp := false, key := 0, kq := true },
  { id := 12, ty := .uint .u64, size := 1, agg := false, fields := [], sl := false, elem := 0, bytes := 8, zero := [.int .u64 0], cmp := false, mp := false, key := 0, kq := false },
  { id := 15, ty := .unit, size := 1, agg := false, fields := [], sl := false, elem := 0, bytes := 8, zero := [.pointer none], cmp := false, mp := false, key := 0, kq := false },
  { id := 16, ty := .unit, size := 1, agg := false, fields := [], sl := false, elem := 0, bytes := 8, zero := [.pointer none], cmp := false, mp := false, key := 0, kq := false },
  { id := 17, ty := .unit, size := 1, agg := false, fields := [], sl := false, elem := 0, bytes := 8, zero := [.pointer none], cmp := false, mp := false, key := 0, kq := false },
  { id := 18, ty := .unit, size := 1, agg := true, fields := [(0, 17)], sl := false, elem := 0, bytes := 8, zero := [.pointer none], cmp := false, mp := false, key := 0, kq := false },
  { id := 19, ty := .unit, size := 1, agg := true, fields := [(0, 17)], sl := false, elem := 0, bytes := 8, zero := [.pointer none], cmp := false, mp := false, key := 0, kq := false },
  { id := 21, ty := .uint .i32, size := 1, agg := false, fields := [], sl := false, elem := 0, bytes := 4, zero := [.int .i32 0], cmp := false, mp := false, key := 0, kq := false },
  { id := 22, ty := .slice (.st [.int, .int, .int, .st [.int, .int, .int, .int, .int, .slice .int], .st [.int, .int]]), size := 1, agg := false, fields := [], sl := true, elem := 44, bytes := 24, zero := [.slice none 0 0], cmp := false, mp := false, key := 0, kq := false },
  { id := 23, ty := .st [.int, .int], size := 2, agg := true, fields := [(0, 3), (1, 3)], sl := false, elem := 0, bytes := 16, zero := [.int .i64 0, .int .i64 0], cmp := true, mp := false, key := 0, kq := true },
  { id := 24, ty := .st [.int, .int], size := 2, agg := true, fields := [(0, 3), (1, 3)], sl := false, elem := 0, bytes := 16, zero := [.int .i64 0, .int .i64 0], cmp := true, mp := false, key := 0, kq := true },
  { id := 25, ty := .slice .int, size := 1, agg := false, fields := [], sl := true, elem := 3, bytes := 24, zero := [.slice none 0 0], cmp := false, mp := false, key := 0, kq := false },
  { id := 26, ty := .st [.int, .int, .int, .int, .int, .st [.int, .int], .st [.int, .int], .st [.int, .int], .slice .int], size := 12, agg := true, fields := [(0, 3), (1, 3), (2, 3), (3, 3), (4, 3), (5, 24), (7, 24), (9, 24), (11, 25)], sl := false, elem := 0, bytes := 112, zero := [.int .i64 0, .int .i64 0, .int .i64 0, .int .i64 0, .int .i64 0, .int .i64 0, .int .i64 0, .int .i64 0, .int .i64 0, .int .i64 0, .int .i64 0, .slice none 0 0], cmp := false, mp := false, key := 0, kq := false },
  { id := 27, ty := .st [.int, .int, .int, .int, .int, .st [.int, .int], .st [.int, .int], .st [.int, .int], .slice .int], size := 12, agg := true, fields := [(0, 3), (1, 3), (2, 3), (3, 3), (4, 3), (5, 24), (7, 24), (9, 24), (11, 25)], sl := false, elem := 0, bytes := 112, zero := [.int .i64 0, .int .i64 0, .int .i64 0, .int .i64 0, .int .i64 0, .int .i64 0, .int .i64 0, .int .i64 0, .int .i64 0, .int .i64 0, .int .i64 0, .slice none 0 0], cmp := false, mp := false, key := 0, kq := false },
  { id := 28, ty := .unit, size := 1, agg := false, fields := [], sl := false, elem := 0, bytes := 8, zero := [.nilFunc], cmp := false, mp := false, key := 0, kq := false },
  { id := 29, ty := .unit, size := 1, agg := false, fields := [], sl := false, elem := 0, bytes := 8, zero := [.nilFunc], cmp := false, mp := false, key := 0, kq := false },
  { id := 30, ty := .unit, size := 1, agg := false, fields := [], sl := false, elem := 0, bytes := 8, zero := [.nilFunc], cmp := false, mp := false, key := 0, kq := false },
  { id := 31, ty := .unit, size := 1, agg := false, fields := [], sl := false, elem := 0, bytes := 8, zero := [.nilFunc], cmp := false, mp := false, key := 0, kq := false },
  { id := 32, ty := .int, size := 1, agg := false, fields := [], sl := false, elem := 0, bytes := 8, zero := [.int .i64 0], cmp := false, mp := false, key := 0, kq := true },
  { id := 34, ty := .unit, size := 1, agg := false, fields := [], sl := false, elem := 0, bytes := 8, zero := [.nilFunc], cmp := false, mp := false, key := 0, kq := false },
  { id := 36, ty := .unit, size := 1, agg := false, fields := [], sl := false, elem := 0, bytes := 8, zero := [.nilFunc], cmp := false, mp := false, key := 0, kq := false },
  { id := 37, ty := .unit, size := 1, agg := false, fields := [], sl := false, elem := 0, bytes := 8, zero := [.nilFunc], cmp := false, mp := false, key := 0, kq := false },
  { id := 38, ty := .unit, size := 1, agg := false, fields := [], sl := false, elem := 0, bytes := 8, zero := [.nilFunc], cmp := false, mp := false, key := 0, kq := false },
  { id := 39, ty := .unit, size := 1, agg := false, fields := [], sl := false, elem := 0, bytes := 8, zero := [.nilFunc], cmp := false, mp := false, key := 0, kq := false },
  { id := 40, ty := .unit, size := 1, agg := false, fields := [], sl := false, elem := 0, bytes := 8, zero := [.nilFunc], cmp := false, mp := false, key := 0, kq := false },
  { id := 41, ty := .st [.int, .int, .int, .int, .int, .slice .int], size := 6, agg := true, fields := [(0, 3), (1, 3), (2, 3), (3, 3), (4, 3), (5, 25)], sl := false, elem := 0, bytes := 64, zero := [.int .i64 0, .int .i64 0, .int .i64 0, .int .i64 0, .int .i64 0, .slice none 0 0], cmp := false, mp := false, key := 0, kq := false },
  { id := 42, ty := .st [.int, .int, .int, .int, .int, .slice .int], size := 6, agg := true, fields := [(0, 3), (1, 3), (2, 3), (3, 3), (4, 3), (5, 25)], sl := false, elem := 0, bytes := 64, zero := [.int .i64 0, .int .i64 0, .int .i64 0, .int .i64 0, .int .i64 0, .slice none 0 0], cmp := false, mp := false, key := 0, kq := false },
  { id := 43, ty := .st [.int, .int, .int, .st [.int, .int, .int, .int, .int, .slice .int], .st [.int, .int]], size := 11, agg := true, fields := [(0, 3), (1, 3), (2, 3), (3, 42), (9, 24)], sl := false, elem := 0, bytes := 104, zero := [.int .i64 0, .int .i64 0, .int .i64 0, .int .i64 0, .int .i64 0, .int .i64 0, .int .i64 0, .int .i64 0, .slice none 0 0, .int .i64 0, .int .i64 0], cmp := false, mp := false, key := 0, kq := false },
  { id := 44, ty := .st [.int, .int, .int, .st [.int, .int, .int, .int, .int, .slice .int], .st [.int, .int]], size := 11, agg := true, fields := [(0, 3), (1, 3), (2, 3), (3, 42), (9, 24)], sl := false, elem := 0, bytes := 104, zero := [.int .i64 0, .int .i64 0, .int .i64 0, .int .i64 0, .int .i64 0, .int .i64 0, .int .i64 0, .int .i64 0, .slice none 0 0, .int .i64 0, .int .i64 0], cmp := false, mp := false, key := 0, kq := false },
  { id := 45, ty := .unit, size := 1, agg := false, fields := [], sl := false, elem := 0, bytes := 8, zero := [.nilFunc], cmp := false, mp := false, key := 0, kq := false },
  { id := 46, ty := .st [.int, .int, .int, .int, .int, .int, .st [.int, .int, .int, .st [.int, .int, .int, .int, .int, .slice .int], .st [.int, .int]]], size := 17, agg := true, fields := [(0, 3), (1, 3), (2, 3), (3, 3), (4, 3), (5, 3), (6, 44)], sl := false, elem := 0, bytes := 152, zero := [.int .i64 0, .int .i64 0, .int .i64 0, .int .i64 0, .int .i64 0, .int .i64 0, .int .i64 0, .int .i64 0, .int .i64 0, .int .i64 0, .int .i64 0, .int .i64 0, .int .i64 0, .int .i64 0, .slice none 0 0, .int .i64 0, .int .i64 0], cmp := false, mp := false, key := 0, kq := false },
  { id := 47, ty := .st [.int, .int, .int, .int, .int, .int, .st [.int, .int, .int, .st [.int, .int, .int, .int, .int, .slice .int], .st [.int, .int]]], size := 17, agg := true, fields := [(0, 3), (1, 3), (2, 3), (3, 3), (4, 3), (5, 3), (6, 44)], sl := false, elem := 0, bytes := 152, zero := [.int .i64 0, .int .i64 0, .int .i64 0, .int .i64 0, .int .i64 0, .int .i64 0, .int .i64 0, .int .i64 0, .int .i64 0, .int .i64 0, .int .i64 0, .int .i64 0, .int .i64 0, .int .i64 0, .slice none 0 0, .int .i64 0, .int .i64 0], cmp := false, mp := false, key := 0, kq := false },
  { id := 48, ty := .unit, size := 1, agg := false, fields := [], sl := false, elem := 0, bytes := 8, zero := [.nilFunc], cmp := false, mp := false, key := 0, kq := false },
  { id := 49, ty := .unit, size := 1, agg := false, fields := [], sl := false, elem := 0, bytes := 8, zero := [.nilFunc], cmp := false, mp := false, key := 0, kq := false },
  { id := 50, ty := .unit, size := 1, agg := false, fields := [], sl := false, elem := 0, bytes := 8, zero := [.nilFunc], cmp := false, mp := false, key := 0, kq := false },
  { id := 51, ty := .st [.int, .int, .int, .int, .bool], size := 5, agg := true, fields := [(0, 3), (1, 3), (2, 3), (3, 3), (4, 4)], sl := false, elem := 0, bytes := 40, zero := [.int .i64 0, .int .i64 0, .int .i64 0, .int .i64 0, .bool false], cmp := true, mp := false, key := 0, kq := true },
  { id := 52, ty := .st [.int, .int, .int, .int, .bool], size := 5, agg := true, fields := [(0, 3), (1, 3), (2, 3), (3, 3), (4, 4)], sl := false, elem := 0, bytes := 40, zero := [.int .i64 0, .int .i64 0, .int .i64 0, .int .i64 0, .bool false], cmp := true, mp := false, key := 0, kq := true },
  { id := 53, ty := .uint .u64, size := 1, agg := false, fields := [], sl := false, elem := 0, bytes := 8, zero := [.int .u64 0], cmp := false, mp := false, key := 0, kq := false },
  { id := 54, ty := .unit, size := 1, agg := false, fields := [], sl := false, elem := 0, bytes := 8, zero := [.nilFunc], cmp := false, mp := false, key := 0, kq := false },
  { id := 55, ty := .unit, size := 1, agg := false, fields := [], sl := false, elem := 0, bytes := 8, zero := [.nilFunc], cmp := false, mp := false, key := 0, kq := false },
  { id := 56, ty := .slice (.st [.int, .int, .int, .int, .int, .st [.int, .int], .st [.int, .int], .st [.int, .int], .slice .int]), size := 1, agg := false, fields := [], sl := true, elem := 27, bytes := 24, zero := [.slice none 0 0], cmp := false, mp := false, key := 0, kq := false },
  { id := 57, ty := .unit, size := 1, agg := false, fields := [], sl := false, elem := 0, bytes := 8, zero := [.nilFunc], cmp := false, mp := false, key := 0, kq := false },
  { id := 58, ty := .unit, size := 1, agg := false, fields := [], sl := false, elem := 0, bytes := 8, zero := [.nilFunc], cmp := false, mp := false, key := 0, kq := false },
  { id := 59, ty := .slice (.st [.int, .int]), size := 1, agg := false, fields := [], sl := true, elem := 63, bytes := 24, zero := [.slice none 0 0], cmp := false, mp := false, key := 0, kq := false },
  { id := 61, ty := .unit, size := 1, agg := false, fields := [], sl := false, elem := 0, bytes := 8, zero := [.nilFunc], cmp := false, mp := false, key := 0, kq := false },
  { id := 62, ty := .unit, size := 1, agg := false, fields := [], sl := false, elem := 0, bytes := 8, zero := [.nilFunc], cmp := false, mp := false, key := 0, kq := false },
  { id := 63, ty := .st [.int, .int], size := 2, agg := true, fields := [(0, 3), (1, 3)], sl := false, elem := 3, bytes := 16, zero := [.int .i64 0, .int .i64 0], cmp := true, mp := false, key := 0, kq := false, arr := true },
  { id := 65, ty := .unit, size := 1, agg := false, fields := [], sl := false, elem := 0, bytes := 8, zero := [.nilFunc], cmp := false, mp := false, key := 0, kq := false },
  { id := 66, ty := .unit, size := 1, agg := false, fields := [], sl := false, elem := 0, bytes := 8, zero := [.nilFunc], cmp := false, mp := false, key := 0, kq := false },
  { id := 68, ty := .unit, size := 1, agg := false, fields := [], sl := false, elem := 0, bytes := 8, zero := [.nilFunc], cmp := false, mp := false, key := 0, kq := false },
  { id := 69, ty := .unit, size := 1, agg := false, fields := [], sl := false, elem := 0, bytes := 8, zero := [.nilFunc], cmp := false, mp := false, key := 0, kq := false },
  { id := 70, ty := .unit, size := 1, agg := false, fields := [], sl := false, elem := 0, bytes := 8, zero := [.nilFunc], cmp := false, mp := false, key := 0, kq := false },
  { id := 71, ty := .unit, size := 1, agg := false, fields := [], sl := false, elem := 0, bytes := 8, zero := [.nilFunc], cmp := false, mp := false, key := 0, kq := false },
  { id := 73, ty := .unit, size := 1, agg := false, fields := [], sl := false, elem := 0, bytes := 8, zero := [.nilFunc], cmp := false, mp := false, key := 0, kq := false },
  { id := 74, ty := .unit, size := 1, agg := false, fields := [], sl := false, elem := 0, bytes := 8, zero := [.nilFunc], cmp := false, mp := false, key := 0, kq := false },
  { id := 75, ty := .st [.int, .int, .int], size := 3, agg := true, fields := [(0, 3), (1, 3), (2, 3)], sl := false, elem := 0, bytes := 24, zero := [.int .i64 0, .int .i64 0, .int .i64 0], cmp := true, mp := false, key := 0, kq := true },
  { id := 76, ty := .st [.int, .int, .int], size := 3, agg := true, fields := [(0, 3), (1, 3), (2, 3)], sl := false, elem := 0, bytes := 24, zero := [.int .i64 0, .int .i64 0, .int .i64 0], cmp := true, mp := false, key := 0, kq := true },
  { id := 77, ty := .unit, size := 1, agg := false, fields := [], sl := false, elem := 0, bytes := 8, zero := [.nilFunc], cmp := false, mp := false, key := 0, kq := false },
  { id := 79, ty := .unit, size := 1, agg := false, fields := [], sl := false, elem := 0, bytes := 8, zero := [.nilFunc], cmp := false, mp := false, key := 0, kq := false },
  { id := 80, ty := .map .int (.st [.int, .int, .int, .st [.int, .int, .int, .int, .int, .slice .int], .st [.int, .int]]), size := 1, agg := false, fields := [], sl := false, elem := 44, bytes := 8, zero := [.map none], cmp := false, mp := true, key := 3, kq := false },
  { id := 81, ty := .map .int (.st [.int, .int, .int, .st [.int, .int, .int, .int, .int, .slice .int], .st [.int, .int]]), size := 1, agg := false, fields := [], sl := false, elem := 44, bytes := 8, zero := [.map none], cmp := false, mp := true, key := 3, kq := false },
  { id := 82, ty := .st [.st [.int, .int, .int, .int, .int, .st [.int, .int], .st [.int, .int], .st [.int, .int], .slice .int]], size := 12, agg := true, fields := [(0, 27)], sl := false, elem := 0, bytes := 112, zero := [.int .i64 0, .int .i64 0, .int .i64 0, .int .i64 0, .int .i64 0, .int .i64 0, .int .i64 0, .int .i64 0, .int .i64 0, .int .i64 0, .int .i64 0, .slice none 0 0], cmp := false, mp := false, key := 0, kq := false },
  { id := 83, ty := .st [.st [.int, .int, .int, .int, .int, .st [.int, .int], .st [.int, .int], .st [.int, .int], .slice .int]], size := 12, agg := true, fields := [(0, 27)], sl := false, elem := 0, bytes := 112, zero := [.int .i64 0, .int .i64 0, .int .i64 0, .int .i64 0, .int .i64 0, .int .i64 0, .int .i64 0, .int .i64 0, .int .i64 0, .int .i64 0, .int .i64 0, .slice none 0 0], cmp := false, mp := false, key := 0, kq := false },
  { id := 85, ty := .unit, size := 1, agg := false, fields := [], sl := false, elem := 0, bytes := 8, zero := [.nilFunc], cmp := false, mp := false, key := 0, kq := false },
  { id := 86, ty := .unit, size := 1, agg := false, fields := [], sl := false, elem := 0, bytes := 8, zero := [.nilFunc], cmp := false, mp := false, key := 0, kq := false },
  { id := 87, ty := .unit, size := 1, agg := false, fields := [], sl := false, elem := 0, bytes := 8, zero := [.nilFunc], cmp := false, mp := false, key := 0, kq := false },
  { id := 88, ty := .unit, size := 1, agg := false, fields := [], sl := false, elem := 0, bytes := 8, zero := [.nilFunc], cmp := false, mp := false, key := 0, kq := false },
  { id := 89, ty := .unit, size := 1, agg := false, fields := [], sl := false, elem := 0, bytes := 8, zero := [.nilFunc], cmp := false, mp := false, key := 0, kq := false },
  { id := 90, ty := .unit, size := 1, agg := false, fields := [], sl := false, elem := 0, bytes := 8, zero := [.nilFunc], cmp := false, mp := false, key := 0, kq := false },
  { id := 91, ty := .unit, size := 1, agg := false, fields := [], sl := false, elem := 0, bytes := 8, zero := [.nilFunc], cmp := false, mp := false, key := 0, kq := false },
  { id := 92, ty := .unit, size := 1, agg := false, fields := [], sl := false, elem := 0, bytes := 8, zero := [.nilFunc], cmp := false, mp := false, key := 0, kq := false },
  { id := 93, ty := .unit, size := 1, agg := false, fields := [], sl := false, elem := 0, bytes := 8, zero := [.nilFunc], cmp := false, mp := false, key := 0, kq := false },
  { id := 95, ty := .unit, size := 1, agg := false, fields := [], sl := false, elem := 0, bytes := 8, zero := [.nilFunc], cmp := false, mp := false, key := 0, kq := false },
  { id := 96, ty := .unit, size := 1, agg := false, fields := [], sl := false, elem := 0, bytes := 8, zero := [.nilFunc], cmp := false, mp := false, key := 0, kq := false },
  { id := 97, ty := .unit, size := 1, agg := false, fields := [], sl := false, elem := 0, bytes := 8, zero := [.nilFunc], cmp := false, mp := false, key := 0, kq := false },
  { id := 98, ty := .unit, size := 1, agg := false, fields := [], sl := false, elem := 0, bytes := 8, zero := [.nilFunc], cmp := false, mp := false, key := 0, kq := false },
  { id := 99, ty := .unit, size := 1, agg := false, fields := [], sl := false, elem := 0, bytes := 8, zero := [.nilFunc], cmp := false, mp := false, key := 0, kq := false },
  { id := 100, ty := .unit, size := 1, agg := false, fields := [], sl := false, elem := 0, bytes := 8, zero := [.nilFunc], cmp := false, mp := false, key := 0, kq := false },
  { id := 101, ty := .unit, size := 1, agg := false, fields := [], sl := false, elem := 0, bytes := 8, zero := [.nilFunc], cmp := false, mp := false, key := 0, kq := false },
  { id := 102, ty := .unit, size := 1, agg := false, fields := [], sl := false, elem := 0, bytes := 8, zero := [.nilFunc], cmp := false, mp := false, key := 0, kq := false },
  { id := 103, ty := .unit, size := 1, agg := false, fields := [], sl := false, elem := 0, bytes := 8, zero := [.nilFunc], cmp := false, mp := false, key := 0, kq := false },
  { id := 104, ty := .unit, size := 1, agg := false, fields := [], sl := false, elem := 0, bytes := 8, zero := [.nilFunc], cmp := false, mp := false, key := 0, kq := false },
  { id := 105, ty := .unit, size := 1, agg := false, fields := [], sl := false, elem := 0, bytes := 8, zero := [.nilFunc], cmp := false, mp := false, key := 0, kq := false },
  { id := 106, ty := .unit, size := 1, agg := false, fields := [], sl := false, elem := 0, bytes := 8, zero := [.nilFunc], cmp := false, mp := false, key := 0, kq := false },
  { id := 107, ty := .unit, size := 1, agg := false, fields := [], sl := false, elem := 0, bytes := 8, zero := [.nilFunc], cmp := false, mp := false, key := 0, kq := false },
  { id := 108, ty := .unit, size := 1, agg := false, fields := [], sl := false, elem := 0, bytes := 8, zero := [.nilFunc], cmp := false, mp := false, key := 0, kq := false },
  { id := 109, ty := .unit, size := 1, agg := false, fields := [], sl := false, elem := 0, bytes := 8, zero := [.nilFunc], cmp := false, mp := false, key := 0, kq := false },
  { id := 110, ty := .map .int .int, size := 1, agg := false, fields := [], sl := false, elem := 3, bytes := 8, zero := [.map none], cmp := false, mp := true, key := 3, kq := false },
  { id := 111, ty := .unit, size := 1, agg := false, fields := [], sl := false, elem := 0, bytes := 8, zero := [.nilFunc], cmp := false, mp := false, key := 0, kq := false },
  { id := 112, ty := .unit, size := 1, agg := false, fields := [], sl := false, elem := 0, bytes := 8, zero := [.nilFunc], cmp := false, mp := false, key := 0, kq := false },
  { id := 113, ty := .unit, size := 1, agg := false, fields := [], sl := false, elem := 0, bytes := 8, zero := [.nilFunc], cmp := false, mp := false, key := 0, kq := false },
  { id := 114, ty := .unit, size := 1, agg := false, fields := [], sl := false, elem := 0, bytes := 8, zero := [.nilFunc], cmp := false, mp := false, key := 0, kq := false },
  { id := 115, ty := .unit, size := 1, agg := false, fields := [], sl := false, elem := 0, bytes := 8, zero := [.nilFunc], cmp := false, mp := false, key := 0, kq := false },
  { id := 116, ty := .unit, size := 1, agg := false, fields := [], sl := false, elem := 0, bytes := 8, zero := [.nilFunc], cmp := false, mp := false, key := 0, kq := false },
  { id := 117, ty := .unit, size := 1, agg := false, fields := [], sl := false, elem := 0, bytes := 8, zero := [.pointer none], cmp := false, mp := false, key := 0, kq := false },
  { id := 118, ty := .unit, size := 1, agg := false, fields := [], sl := false, elem := 0, bytes := 8, zero := [.nilFunc], cmp := false, mp := false, key := 0, kq := false },
  { id := 119, ty := .unit, size := 1, agg := false, fields := [], sl := false, elem := 0, bytes := 8, zero := [.nilFunc], cmp := false, mp := false, key := 0, kq := false },
  { id := 120, ty := .unit, size := 1, agg := false, fields := [], sl := false, elem := 0, bytes := 8, zero := [.nilFunc], cmp := false, mp := false, key := 0, kq := false },
  { id := 121, ty := .unit, size := 1, agg := false, fields := [], sl := false, elem := 0, bytes := 8, zero := [.nilFunc], cmp := false, mp := false, key := 0, kq := false },
  { id := 122, ty := .unit, size := 1, agg := false, fields := [], sl := false, elem := 0, bytes := 8, zero := [.nilFunc], cmp := false, mp := false, key := 0, kq := false },
  { id := 123, ty := .unit, size := 1, agg := false, fields := [], sl := false, elem := 0, bytes := 8, zero := [.nilFunc], cmp := false, mp := false, key := 0, kq := false },
  { id := 124, ty := .unit, size := 1, agg := false, fields := [], sl := false, elem := 0, bytes := 8, zero := [.nilFunc], cmp := false, mp := false, key := 0, kq := false },
  { id := 125, ty := .unit, size := 1, agg := false, fields := [], sl := false, elem := 0, bytes := 8, zero := [.nilFunc], cmp := false, mp := false, key := 0, kq := false },
  { id := 126, ty := .unit, size := 1, agg := false, fields := [], sl := false, elem := 0, bytes := 8, zero := [.nilFunc], cmp := false, mp := false, key := 0, kq := false },
  { id := 127, ty := .unit, size := 1, agg := false, fields := [], sl := false, elem := 0, bytes := 8, zero := [.nilFunc], cmp := false, mp := false, key := 0, kq := false },
  { id := 128, ty := .unit, size := 1, agg := false, fields := [], sl := false, elem := 0, bytes := 8, zero := [.nilFunc], cmp := false, mp := false, key := 0, kq := false },
  { id := 129, ty := .unit, size := 1, agg := false, fields := [], sl := false, elem := 0, bytes := 8, zero := [.nilFunc], cmp := false, mp := false, key := 0, kq := false },
  { id := 130, ty := .unit, size := 1, agg := false, fields := [], sl := false, elem := 0, bytes := 8, zero := [.nilFunc], cmp := false, mp := false, key := 0, kq := false },
  { id := 131, ty := .unit, size := 1, agg := false, fields := [], sl := false, elem := 0, bytes := 8, zero := [.nilFunc], cmp := false, mp := false, key := 0, kq := false },
  { id := 133, ty := .unit, size := 1, agg := false, fields := [], sl := false, elem := 0, bytes := 8, zero := [.nilFunc], cmp := false, mp := false, key := 0, kq := false },
  { id := 134, ty := .unit, size := 1, agg := false, fields := [], sl := false, elem := 0, bytes := 8, zero := [.nilFunc], cmp := false, mp := false, key := 0, kq := false },
  { id := 135, ty := .slice (.st [.int, .int]), size := 1, agg := false, fields := [], sl := true, elem := 24, bytes := 24, zero := [.slice none 0 0], cmp := false, mp := false, key := 0, kq := false },
  { id := 136, ty := .unit, size := 1, agg := false, fields := [], sl := false, elem := 0, bytes := 8, zero := [.nilFunc], cmp := false, mp := false, key := 0, kq := false },
  { id := 137, ty := .unit, size := 1, agg := false, fields := [], sl := false, elem := 0, bytes := 8, zero := [.nilFunc], cmp := false, mp := false, key := 0, kq := false },
  { id := 138, ty := .unit, size := 1, agg := false, fields := [], sl := false, elem := 0, bytes := 8, zero := [.nilFunc], cmp := false, mp := false, key := 0, kq := false },
  { id := 139, ty := .unit, size := 1, agg := false, fields := [], sl := false, elem := 0, bytes := 8, zero := [.nilFunc], cmp := false, mp := false, key := 0, kq := false },
  { id := 140, ty := .int, size := 1, agg := false, fields := [], sl := false, elem := 0, bytes := 8, zero := [.int .i64 0], cmp := false, mp := false, key := 0, kq := true },
  { id := 142, ty := .unit, size := 1, agg := false, fields := [], sl := false, elem := 0, bytes := 8, zero := [.nilFunc], cmp := false, mp := false, key := 0, kq := false },
  { id := 143, ty := .unit, size := 1, agg := false, fields := [], sl := false, elem := 0, bytes := 8, zero := [.nilFunc], cmp := false, mp := false, key := 0, kq := false },
  { id := 144, ty := .unit, size := 1, agg := false, fields := [], sl := false, elem := 0, bytes := 8, zero := [.nilFunc], cmp := false, mp := false, key := 0, kq := false },
  { id := 146, ty := .unit, size := 1, agg := false, fields := [], sl := false, elem := 0, bytes := 8, zero := [.nilFunc], cmp := false, mp := false, key := 0, kq := false },
  { id := 147, ty := .unit, size := 1, agg := false, fields := [], sl := false, elem := 0, bytes := 8, zero := [.nilFunc], cmp := false, mp := false, key := 0, kq := false },
  { id := 148, ty := .uint .u32, size := 1, agg := false, fields := [], sl := false, elem := 0, bytes := 4, zero := [.int .u32 0], cmp := false, mp := false, key := 0, kq := false },
  { id := 149, ty := .unit, size := 1, agg := false, fields := [], sl := false, elem := 0, bytes := 8, zero := [.nilFunc], cmp := false, mp := false, key := 0, kq := false },
  { id := 150, ty := .uint .u64, size := 1, agg := false, fields := [], sl := false, elem := 0, bytes := 8, zero := [.int .u64 0], cmp := false, mp := false, key := 0, kq := false },
  { id := 151, ty := .unit, size := 1, agg := false, fields := [], sl := false, elem := 0, bytes := 8, zero := [.nilFunc], cmp := false, mp := false, key := 0, kq := false },
  { id := 152, ty := .unit, size := 1, agg := false, fields := [], sl := false, elem := 0, bytes := 8, zero := [.nilFunc], cmp := false, mp := false, key := 0, kq := false },
  { id := 153, ty := .unit, size := 1, agg := false, fields := [], sl := false, elem := 0, bytes := 8, zero := [.nilFunc], cmp := false, mp := false, key := 0, kq := false },
  { id := 154, ty := .unit, size := 1, agg := false, fields := [], sl := false, elem := 0, bytes := 8, zero := [.nilFunc], cmp := false, mp := false, key := 0, kq := false },
  { id := 155, ty := .unit, size := 1, agg := false, fields := [], sl := false, elem := 0, bytes := 8, zero := [.nilFunc], cmp := false, mp := false, key := 0, kq := false },
  { id := 156, ty := .unit, size := 1, agg := false, fields := [], sl := false, elem := 0, bytes := 8, zero := [.nilFunc], cmp := false, mp := false, key := 0, kq := false },
  { id := 157, ty := .unit, size := 1, agg := false, fields := [], sl := false, elem := 0, bytes := 8, zero := [.nilFunc], cmp := false, mp := false, key := 0, kq := false },
  { id := 158, ty := .uint .u64, size := 1, agg := false, fields := [], sl := false, elem := 0, bytes := 8, zero := [.int .u64 0], cmp := false, mp := false, key := 0, kq := false },
  { id := 159, ty := .unit, size := 1, agg := false, fields := [], sl := false, elem := 0, bytes := 8, zero := [.nilFunc], cmp := false, mp := false, key := 0, kq := false },
  { id := 160, ty := .unit, size := 1, agg := false, fields := [], sl := false, elem := 0, bytes := 8, zero := [.nilFunc], cmp := false, mp := false, key := 0, kq := false },
  { id := 161, ty := .unit, size := 1, agg := false, fields := [], sl := false, elem := 0, bytes := 8, zero := [.nilFunc], cmp := false, mp := false, key := 0, kq := false },
  { id := 162, ty := .unit, size := 1, agg := false, fields := [], sl := false, elem := 0, bytes := 8, zero := [.pointer none], cmp := false, mp := false, key := 0, kq := false },
  { id := 163, ty := .unit, size := 1, agg := false, fields := [], sl := false, elem := 0, bytes := 8, zero := [.nilFunc], cmp := false, mp := false, key := 0, kq := false },
  { id := 164, ty := .unit, size := 1, agg := false, fields := [], sl := false, elem := 0, bytes := 8, zero := [.nilFunc], cmp := false, mp := false, key := 0, kq := false },
  { id := 165, ty := .unit, size := 1, agg := false, fields := [], sl := false, elem := 0, bytes := 8, zero := [.nilFunc], cmp := false, mp := false, key := 0, kq := false },
  { id := 166, ty := .unit, size := 1, agg := false, fields := [], sl := false, elem := 0, bytes := 8, zero := [.nilFunc], cmp := false, mp := false, key := 0, kq := false },
  { id := 167, ty := .unit, size := 1, agg := false, fields := [], sl := false, elem := 0, bytes := 8, zero := [.nilFunc], cmp := false, mp := false, key := 0, kq := false },
  { id := 168, ty := .unit, size := 1, agg := false, fields := [], sl := false, elem := 0, bytes := 8, zero := [.nilFunc], cmp := false, mp := false, key := 0, kq := false },
  { id := 169, ty := .unit, size := 1, agg := false, fields := [], sl := false, elem := 0, bytes := 8, zero := [.nilFunc], cmp := false, mp := false, key := 0, kq := false },
  { id := 170, ty := .unit, size := 1, agg := false, fields := [], sl := false, elem := 0, bytes := 8, zero := [.nilFunc], cmp := false, mp := false, key := 0, kq := false },
  { id := 171, ty := .unit, size := 1, agg := false, fields := [], sl := false, elem := 0, bytes := 8, zero := [.nilFunc], cmp := false, mp := false, key := 0, kq := false },
  { id := 172, ty := .unit, size := 1, agg := false, fields := [], sl := false, elem := 0, bytes := 8, zero := [.nilFunc], cmp := false, mp := false, key := 0, kq := false },
  { id := 173, ty := .unit, size := 1, agg := false, fields := [], sl := false, elem := 0, bytes := 8, zero := [.nilFunc], cmp := false, mp := false, key := 0, kq := false },
  { id := 174, ty := .unit, size := 1, agg := false, fields := [], sl := false, elem := 0, bytes := 8, zero := [.nilFunc], cmp := false, mp := false, key := 0, kq := false },
  { id := 175, ty := .unit, size := 1, agg := false, fields := [], sl := false, elem := 0, bytes := 8, zero := [.nilFunc], cmp := false, mp := false, key := 0, kq := false },
  { id := 176, ty := .unit, size := 1, agg := false, fields := [], sl := false, elem := 0, bytes := 8, zero := [.pointer none], cmp := false, mp := false, key := 0, kq := false },
  { id := 178, ty := .unit, size := 1, agg := false, fields := [], sl := false, elem := 0, bytes := 8, zero := [.nilFunc], cmp := false, mp := false, key := 0, kq := false },
  { id := 179, ty := .unit, size := 1, agg := false, fields := [], sl := false, elem := 0, bytes := 8, zero := [.nilFunc], cmp := false, mp := false, key := 0, kq := false },
  { id := 180, ty := .unit, size := 1, agg := false, fields := [], sl := false, elem := 0, bytes := 8, zero := [.nilFunc], cmp := false, mp := false, key := 0, kq := false },
  { id := 181, ty := .unit, size := 1, agg := false, fields := [], sl := false, elem := 0, bytes := 8, zero := [.nilFunc], cmp := false, mp := false, key := 0, kq := false },
  { id := 182, ty := .unit, size := 1, agg := false, fields := [], sl := false, elem := 0, bytes := 8, zero := [.nilFunc], cmp := false, mp := false, key := 0, kq := false },
  { id := 183, ty := .unit, size := 1, agg := false, fields := [], sl := false, elem := 0, bytes := 8, zero := [.nilFunc], cmp := false, mp := false, key := 0, kq := false },
  { id := 184, ty := .unit, size := 1, agg := false, fields := [], sl := false, elem := 0, bytes := 8, zero := [.nilFunc], cmp := false, mp := false, key := 0, kq := false },
  { id := 185, ty := .unit, size := 1, agg := false, fields := [], sl := false, elem := 0, bytes := 8, zero := [.nilFunc], cmp := false, mp := false, key := 0, kq := false },
  { id := 189, ty := .unit, size := 0, agg := true, fields := [(0, 188)], sl := false, elem := 0, bytes := 0, zero := [], cmp := false, mp := false, key := 0, kq := false },
  { id := 190, ty := .unit, size := 0, agg := true, fields := [(0, 188)], sl := false, elem := 0, bytes := 0, zero := [], cmp := false, mp := false, key := 0, kq := false },
  { id := 191, ty := .unit, size := 1, agg := false, fields := [], sl := false, elem := 0, bytes := 8, zero := [.nilFunc], cmp := false, mp := false, key := 0, kq := false },
  { id := 192, ty := .uint .u8, size := 1, agg := false, fields := [], sl := false, elem := 0, bytes := 1, zero := [.int .u8 0], cmp := false, mp := false, key := 0, kq := false },
  { id := 193, ty := .uint .u8, size := 1, agg := false, fields := [], sl := false, elem := 0, bytes := 1, zero := [.int .u8 0], cmp := false, mp := false, key := 0, kq := false },
  { id := 194, ty := .unit, size := 1, agg := false, fields := [], sl := false, elem := 0, bytes := 8, zero := [.nilFunc], cmp := false, mp := false, key := 0, kq := false },
  { id := 195, ty := .unit, size := 1, agg := false, fields := [], sl := false, elem := 0, bytes := 8, zero := [.pointer none], cmp := false, mp := false, key := 0, kq := false },
  { id := 196, ty := .uint .i32, size := 1, agg := false, fields := [], sl := false, elem := 0, bytes := 4, zero := [.int .i32 0], cmp := false, mp := false, key := 0, kq := false },
  { id := 197, ty := .uint .i32, size := 1, agg := false, fields := [], sl := false, elem := 0, bytes := 4, zero := [.int .i32 0], cmp := false, mp := false, key := 0, kq := false },
  { id := 198, ty := .unit, size := 11, agg := true, fields := [(0, 12), (1, 12), (2, 148), (3, 192), (4, 5), (5, 5), (6, 193), (7, 194), (8, 195), (9, 196), (10, 197)], sl := false, elem := 0, bytes := 48, zero := [.int .u64 0, .int .u64 0, .int .u32 0, .int .u8 0, .int .u8 0, .int .u8 0, .int .u8 0, .nilFunc, .pointer none, .int .i32 0, .int .i32 0], cmp := false, mp := false, key := 0, kq := false },
  { id := 199, ty := .unit, size := 11, agg := true, fields := [(0, 12), (1, 12), (2, 148), (3, 192), (4, 5), (5, 5), (6, 193), (7, 194), (8, 195), (9, 196), (10, 197)], sl := false, elem := 0, bytes := 48, zero := [.int .u64 0, .int .u64 0, .int .u32 0, .int .u8 0, .int .u8 0, .int .u8 0, .int .u8 0, .nilFunc, .pointer none, .int .i32 0, .int .i32 0], cmp := false, mp := false, key := 0, kq := false }]
def strs : List Nat := [9, 10, 11]

noncomputable abbrev PR : Program := Tryz.prog

theorem ti_ok : ti.all (tiOk PR) = true := by kernel_rfl
def isStr (P : Program) (k : Nat) : Bool := match P.underlying k with | some .string => true | _ => false
theorem isStr_all {P : Program} {l : List Nat} (h0 : l.all (isStr P) = true) (T : Nat) (h : memb l T = true) : P.underlying T = some .string := by
  have := List.all_eq_true.1 h0 T ((memb_iff _ _).1 h)
  unfold isStr at this
  split at this
  · assumption
  · cases this
theorem strs_ok : strs.all (isStr PR) = true := by kernel_rfl
theorem str_ok : ∀ T, memb strs T = true → PR.underlying T = some .string := isStr_all strs_ok
theorem mixed : PR.follows .mixedOrders = true := by kernel_rfl

def ctx0 (n : Nat) (fs : List (Nat × Spec)) : Ctx := ⟨n, ti, fs, fun _ _ _ _ => none, strs⟩
/-- what is known: pure functions, and those to which things are handed over -/
def ctx (n : Nat) (fs : List (Nat × Spec)) (os : List (Nat × OSpec)) : Ctx := ⟨n, ti, fs, oEff (ctx0 n fs) os, strs⟩

/-- functions that have been shown right -/
def Known : List (Nat × Spec) → Prop
  | [] => True
  | p :: r => (p.2.own = false → FnOK PR p.1 p.2) ∧ Known r
def KnownO : List (Nat × OSpec) → Prop
  | [] => True
  | p :: r => OFnOK PR p.1 p.2 ∧ KnownO r

theorem known_look : ∀ {l : List (Nat × Spec)}, Known l → ∀ f s, look l f = some s → s.own = false → FnOK PR f s
  | [], _, f, s, h, _ => by simp [look] at h
  | (j, x) :: r, hk, f, s, h, ho => by
    simp only [look] at h
    cases hb : Nat.beq j f with
    | true => rw [hb] at h; simp at h; subst h; have := Nat.eq_of_beq_eq_true hb; subst this; exact hk.1 ho
    | false => rw [hb] at h; exact known_look hk.2 f s h ho
theorem knownO_look : ∀ {l : List (Nat × OSpec)}, KnownO l → ∀ f s, look l f = some s → OFnOK PR f s
  | [], _, f, s, h => by simp [look] at h
  | (j, x) :: r, hk, f, s, h => by
    simp only [look] at h
    cases hb : Nat.beq j f with
    | true => rw [hb] at h; simp at h; subst h; have := Nat.eq_of_beq_eq_true hb; subst this; exact hk.1
    | false => rw [hb] at h; exact knownO_look hk.2 f s h

theorem ctx0_ok {n : Nat} {fs : List (Nat × Spec)} (h : Known fs) : (ctx0 n fs).ok PR :=
  ⟨ti_all ti_ok, known_look h, str_ok, fun _ _ _ _ _ he => by cases he⟩
theorem ctx_ok {n : Nat} {fs : List (Nat × Spec)} {os : List (Nat × OSpec)} (h : Known fs) (ho : KnownO os) : (ctx n fs os).ok PR :=
  ⟨ti_all ti_ok, known_look h, str_ok, fun _ _ _ _ _ he => oEff_sound (ctx0_ok h) (knownO_look ho) he⟩

/-- the data in a slot -/
def gd (t : Ty) (σ : St) (s : Nat) : t.Data := match σ.get s with
  | .dat t' d => (match cast? t' t d with | some x => x | none => t.dflt)
  | _ => t.dflt

/-- the data of a row -/
def gr (t : Ty) (σ : St) (o : Nat) : List t.Data := match σ.obj o with
  | some (.row _ t' _ _ l) => (match cast? (.slice t') (.slice t) l with | some l' => l' | none => [])
  | _ => []

/-- the meaning of a function value in a slot -/
def gfn (ps rs : List Ty) (σ : St) (s : Nat) : (Ty.st ps).Data → (Ty.st rs).Data := match σ.get s with
  | .fn ps' rs' _ F => if h : ps' = ps ∧ rs' = rs then h.1 ▸ h.2 ▸ F else fun _ => (Ty.st rs).dflt
  | _ => fun _ => (Ty.st rs).dflt

def bodyOf (fn : Func) : Code := match fn.body with | some c => c | none => .skip

theorem mkFn {f : Nat} {fn : Func} {n : Nat} {fs : List (Nat × Spec)} {os : List (Nat × OSpec)} {s : Spec} {A : Ann} (h : fnVC (ctx n fs os) A fn (bodyOf fn) s) (hf : PR.funcs[f]? = some fn) (hb : fn.body = some (bodyOf fn)) (hname : (fn.name == "runtime.NumGoroutine") = false)
    (hn : fn.ntmps = n) (hps : Nat.ble s.ps.length n = true) (hk : Known fs) (ho : KnownO os) : FnOK PR f s :=
  fn_ok (ctx_ok hk ho) mixed hf hb hname hn (Nat.le_of_ble_eq_true hps) A h

theorem mkFnO {f : Nat} {fn : Func} {n : Nat} {fs : List (Nat × Spec)} {os : List (Nat × OSpec)} {s : OSpec} {A : Ann} (h : ofnVC (ctx n fs os) A fn (bodyOf fn) s) (hf : PR.funcs[f]? = some fn) (hb : fn.body = some (bodyOf fn)) (hname : (fn.name == "runtime.NumGoroutine") = false)
    (hn : fn.ntmps = n) (hps : Nat.ble s.ps.length n = true) (hnm : nodupB (oNms s.ps 0) = true) (hk : Known fs) (ho : KnownO os) : OFnOK PR f s :=
  ofn_ok (ctx_ok hk ho) mixed hf hb hname hn (Nat.le_of_ble_eq_true hps) hnm A h

/-- with functions that hand closures back, and functions to which such closures are handed -/
def ctxx (n : Nat) (fs : List (Nat × Spec)) (os : List (Nat × OSpec)) (cs : List (Nat × CSpec)) (vs : List (Nat × VSpec)) : Ctx := ⟨n, ti, fs, xEff (ctx0 n fs) os cs vs, strs⟩
def KnownC : List (Nat × CSpec) → Prop
  | [] => True
  | p :: r => CFnOK PR p.1 p.2 ∧ KnownC r
def KnownV : List (Nat × VSpec) → Prop
  | [] => True
  | p :: r => VOK PR p.1 p.2 ∧ KnownV r
theorem knownC_look : ∀ {l : List (Nat × CSpec)}, KnownC l → ∀ f s, look l f = some s → CFnOK PR f s
  | [], _, f, s, h => by simp [look] at h
  | (j, x) :: r, hk, f, s, h => by
    simp only [look] at h
    cases hb : Nat.beq j f with
    | true => rw [hb] at h; simp at h; subst h; have := Nat.eq_of_beq_eq_true hb; subst this; exact hk.1
    | false => rw [hb] at h; exact knownC_look hk.2 f s h
theorem knownV_look : ∀ {l : List (Nat × VSpec)}, KnownV l → ∀ f s, look l f = some s → VOK PR f s
  | [], _, f, s, h => by simp [look] at h
  | (j, x) :: r, hk, f, s, h => by
    simp only [look] at h
    cases hb : Nat.beq j f with
    | true => rw [hb] at h; simp at h; subst h; have := Nat.eq_of_beq_eq_true hb; subst this; exact hk.1
    | false => rw [hb] at h; exact knownV_look hk.2 f s h
theorem ctxx_ok {n : Nat} {fs : List (Nat × Spec)} {os : List (Nat × OSpec)} {cs : List (Nat × CSpec)} {vs : List (Nat × VSpec)} (h : Known fs) (ho : KnownO os) (hc : KnownC cs) (hv : KnownV vs) : (ctxx n fs os cs vs).ok PR :=
  ⟨ti_all ti_ok, known_look h, str_ok, fun _ _ _ _ _ he => xEff_sound (ctx0_ok h) (knownO_look ho) (knownC_look hc) (knownV_look hv) he⟩
theorem mkFnX {f : Nat} {fn : Func} {n : Nat} {fs : List (Nat × Spec)} {os : List (Nat × OSpec)} {cs : List (Nat × CSpec)} {vs : List (Nat × VSpec)} {s : Spec} {A : Ann} (h : fnVC (ctxx n fs os cs vs) A fn (bodyOf fn) s) (hf : PR.funcs[f]? = some fn) (hb : fn.body = some (bodyOf fn)) (hname : (fn.name == "runtime.NumGoroutine") = false)
    (hn : fn.ntmps = n) (hps : Nat.ble s.ps.length n = true) (hk : Known fs) (ho : KnownO os) (hc : KnownC cs) (hv : KnownV vs) : FnOK PR f s :=
  fn_ok (ctxx_ok hk ho hc hv) mixed hf hb hname hn (Nat.le_of_ble_eq_true hps) A h
theorem mkFnOX {f : Nat} {fn : Func} {n : Nat} {fs : List (Nat × Spec)} {os : List (Nat × OSpec)} {cs : List (Nat × CSpec)} {vs : List (Nat × VSpec)} {s : OSpec} {A : Ann} (h : ofnVC (ctxx n fs os cs vs) A fn (bodyOf fn) s) (hf : PR.funcs[f]? = some fn) (hb : fn.body = some (bodyOf fn)) (hname : (fn.name == "runtime.NumGoroutine") = false)
    (hn : fn.ntmps = n) (hps : Nat.ble s.ps.length n = true) (hnm : nodupB (oNms s.ps 0) = true) (hk : Known fs) (ho : KnownO os) (hc : KnownC cs) (hv : KnownV vs) : OFnOK PR f s :=
  ofn_ok (ctxx_ok hk ho hc hv) mixed hf hb hname hn (Nat.le_of_ble_eq_true hps) hnm A h
theorem mkFnC {f : Nat} {fn : Func} {n : Nat} {fs : List (Nat × Spec)} {os : List (Nat × OSpec)} {s : CSpec} {A : Ann} (h : cfnVC (ctx n fs os) A fn (bodyOf fn) s) (hf : PR.funcs[f]? = some fn) (hb : fn.body = some (bodyOf fn)) (hname : (fn.name == "runtime.NumGoroutine") = false)
    (hn : fn.ntmps = n) (hps : Nat.ble s.ps.length n = true) (hk : Known fs) (ho : KnownO os) : CFnOK PR f s :=
  cfn_ok (ctx_ok hk ho) mixed hf hb hname hn (Nat.le_of_ble_eq_true hps) A h

end Go.X
