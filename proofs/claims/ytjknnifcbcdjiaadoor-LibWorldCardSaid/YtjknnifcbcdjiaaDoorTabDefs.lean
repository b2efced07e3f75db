/- What the walk of the card's table speaks of. -/
import Derived.Test.YtjknnifcbcdjiaaDoorTabBase
namespace Go.Proofs.YtjknnifcbcdjiaaDoor.Tab
open Go.RowKit Go.Proofs.YtjknnifcbcdjiaaDoor.Base Go.Proofs.YtjknnifcbcdjiaaDoorW.PrintWords Go.Proofs.YtjknnifcbcdjiaaDoorW.PrintLast
def T3 : Bool × List (List Nat × List Nat) := (true, [([], []), ([0], [0]), ([1], [1]), ([], []), ([3], [3]), ([], []), ([5, 0], [5]), ([], []), ([], []), ([8], [8]), ([7, 9, 6], [7, 9]), ([6, 10], [6, 10]), ([], []), ([12], [12]), ([13, 10], [13]), ([14], [14]), ([4, 11, 15], [4, 11, 15]), ([2, 16], [2, 16]), ([17, 14, 0, 1, 2, 3, 4, 5, 6, 7, 8, 9, 10, 11, 12, 13, 14, 15, 16, 17], [17])])
def B3 : List Nat := [0, 1, 3, 0, 8, 0, 33, 0, 0, 256, 993, 2017, 0, 4096, 14305, 30689, 65529, 131071, 262143]
theorem tab3 : rtab .any (opsOf Tryd.f19 3) = T3 := by kernel_rfl
theorem bits3 : waitsOk T3.2 B3 = true := by kernel_rfl
def T8 : Bool × List (List Nat × List Nat) := (true, [([], []), ([], []), ([1], [1]), ([2], [2]), ([], []), ([], []), ([5], [5]), ([4, 6, 3], [4, 6]), ([3, 7], [3, 7]), ([8], [8]), ([9], [9]), ([0, 10, 7], [0, 10]), ([11, 11, 0, 1, 2, 3, 4, 5, 6, 7, 8, 9, 10, 11], [0, 11])])
def B8 : List Nat := [0, 0, 2, 6, 0, 0, 32, 126, 254, 510, 1022, 2047, 4095]
theorem tab8 : rtab .any (opsOf Tryd.f19 8) = T8 := by kernel_rfl
theorem bits8 : waitsOk T8.2 B8 = true := by kernel_rfl
def T9 : Bool × List (List Nat × List Nat) := (true, [([], []), ([], []), ([], []), ([2], [2]), ([1, 3, 2], [1, 3]), ([], []), ([5, 4], [5]), ([], []), ([7, 6], [7]), ([], []), ([], []), ([], []), ([10, 11], [10, 11]), ([9, 12, 8], [9, 12]), ([4, 6, 8, 13], [4, 6, 8, 13]), ([13], []), ([], []), ([15], []), ([17], [17]), ([16, 18, 17], [16, 18]), ([15, 19], [15, 19]), ([14, 20], [14, 20]), ([21], [21]), ([0, 22, 19], [0, 22]), ([23, 23, 0, 1, 2, 3, 4, 5, 6, 7, 8, 9, 10, 11, 12, 13, 14, 15, 16, 17, 18, 19, 20, 21, 22, 23], [0, 23])])
def B9 : List Nat := [0, 0, 0, 4, 14, 0, 62, 0, 254, 0, 0, 0, 3072, 8190, 16382, 16382, 0, 49150, 180222, 507902, 1032190, 2097150, 4194302, 8388607, 16777215]
theorem tab9 : rtab .any (opsOf Tryd.f19 9) = T9 := by kernel_rfl
theorem bits9 : waitsOk T9.2 B9 = true := by kernel_rfl
def T11 : Bool × List (List Nat × List Nat) := (true, [([], []), ([], []), ([1], [1]), ([], []), ([3, 2], [3]), ([], []), ([], []), ([], []), ([6, 7], [6, 7]), ([5, 8, 4], [5, 8]), ([2, 4, 9], [2, 4, 9]), ([10], [10]), ([11], [11]), ([0, 12, 9], [0, 12]), ([13, 13, 0, 1, 2, 3, 4, 5, 6, 7, 8, 9, 10, 11, 12, 13], [0, 13])])
def B11 : List Nat := [0, 0, 2, 0, 14, 0, 0, 0, 192, 510, 1022, 2046, 4094, 8191, 16383]
theorem tab11 : rtab .any (opsOf Tryd.f19 11) = T11 := by kernel_rfl
theorem bits11 : waitsOk T11.2 B11 = true := by kernel_rfl
def T12 : Bool × List (List Nat × List Nat) := (true, [([], []), ([], []), ([1], [1]), ([], []), ([3, 2], [3]), ([], []), ([5, 4], [5]), ([], []), ([7, 6], [7]), ([], []), ([], []), ([], []), ([10, 11], [10, 11]), ([9, 12, 8], [9, 12]), ([], []), ([], []), ([], []), ([15, 16], [15, 16]), ([14, 17, 13], [14, 17]), ([], []), ([], []), ([], []), ([], []), ([], []), ([20, 21, 22, 23], [20, 21, 22, 23]), ([19, 24, 18], [19, 24]), ([], []), ([26, 25], [26]), ([2, 4, 6, 8, 13, 18, 25, 27], [2, 4, 6, 8, 13, 18, 25, 27]), ([28], [28]), ([29], [29]), ([0, 30, 27], [0, 30]), ([31, 31, 0, 1, 2, 3, 4, 5, 6, 7, 8, 9, 10, 11, 12, 13, 14, 15, 16, 17, 18, 19, 20, 21, 22, 23, 24, 25, 26, 27, 28, 29, 30, 31], [0, 31])])
def B12 : List Nat := [0, 0, 2, 0, 14, 0, 62, 0, 254, 0, 0, 0, 3072, 8190, 0, 0, 0, 98304, 262142, 0, 0, 0, 0, 0, 15728640, 33554430, 0, 134217726, 268435454, 536870910, 1073741822, 2147483647, 4294967295]
theorem tab12 : rtab .any (opsOf Tryd.f19 12) = T12 := by kernel_rfl
theorem bits12 : waitsOk T12.2 B12 = true := by kernel_rfl
def T13 : Bool × List (List Nat × List Nat) := (true, [([], []), ([], []), ([], []), ([], []), ([], []), ([], []), ([], []), ([2, 3, 4, 5, 6], [2, 3, 4, 5, 6]), ([1, 7], [1, 7]), ([], []), ([], []), ([], []), ([], []), ([], []), ([], []), ([10, 11, 12, 13, 14], [10, 11, 12, 13, 14]), ([9, 15, 8], [9, 15]), ([], []), ([], []), ([], []), ([], []), ([], []), ([18, 19, 20, 21], [18, 19, 20, 21]), ([17, 22, 16], [17, 22]), ([], []), ([], []), ([], []), ([], []), ([], []), ([], []), ([25, 26, 27, 28, 29], [25, 26, 27, 28, 29]), ([24, 30, 23], [24, 30]), ([], []), ([], []), ([], []), ([33, 34], [33, 34]), ([32, 35, 31], [32, 35]), ([], []), ([], []), ([], []), ([], []), ([38, 39, 40], [38, 39, 40]), ([37, 41, 36], [37, 41]), ([8, 16, 23, 31, 36, 42], [8, 16, 23, 31, 36, 42]), ([43], [43]), ([44], [44]), ([0, 45, 42], [0, 45]), ([46, 46, 0, 1, 2, 3, 4, 5, 6, 7, 8, 9, 10, 11, 12, 13, 14, 15, 16, 17, 18, 19, 20, 21, 22, 23, 24, 25, 26, 27, 28, 29, 30, 31, 32, 33, 34, 35, 36, 37, 38, 39, 40, 41, 42, 43, 44, 45, 46], [0, 46])])
def B13 : List Nat := [0, 0, 0, 0, 0, 0, 0, 124, 254, 0, 0, 0, 0, 0, 0, 31744, 65534, 0, 0, 0, 0, 0, 3932160, 8388606, 0, 0, 0, 0, 0, 0, 1040187392, 2147483646, 0, 0, 0, 25769803776, 68719476734, 0, 0, 0, 0, 1924145348608, 4398046511102, 8796093022206, 17592186044414, 35184372088830, 70368744177663, 140737488355327]
theorem tab13 : rtab .any (opsOf Tryd.f19 13) = T13 := by kernel_rfl
theorem bits13 : waitsOk T13.2 B13 = true := by kernel_rfl
def rows3 : List RowM := [⟨-1, 0, [], [], [⟨⟨#[99, 111, 110, 115, 116, 114, 117, 99, 116, 111, 114]⟩, 1, 4, 0, 0, []⟩]⟩, ⟨0, 0, [(3, 0)], [⟨⟨#[103, 101, 116, 82, 101, 97, 115, 111, 110]⟩, 2, 0, 3, 0, []⟩, ⟨⟨#[115, 101, 116, 82, 101, 97, 115, 111, 110]⟩, 3, 0, 0, 0, [(3, 0)]⟩], [⟨⟨#[99, 111, 110, 115, 116, 114, 117, 99, 116, 111, 114]⟩, 4, 4, 0, 0, [(3, 0)]⟩]⟩]
structure L3 where
  g1 : Nat
  g4 : Nat
  g9 : Nat
  g11 : Nat
  g13 : Nat
  g15 : Nat
  g17 : Nat
  m1 : Value
  m2 : Value
  m4 : Value
  m9 : Value
  m10 : Value
  m11 : Value
  m13 : Value
  m14 : Value
  m15 : Value
  m16 : Value
  m17 : Value
  m18 : Value
def lt3 (x : L3) : List (Nat × Tmp × Value) := [(0, 17, .agg #[.string ⟨#[99, 111, 110, 115, 116, 114, 117, 99, 116, 111, 114]⟩, .int .i64 1, .int .u8 4, .int .u8 0, .int .u16 0, .slice none 0 0]), (1, 18, x.m1), (2, 19, x.m2), (3, 20, .agg #[.int .u8 3, .int .u16 0]), (4, 21, x.m4), (5, 22, .agg #[.int .u8 3, .int .u16 0]), (6, 23, .agg #[.string ⟨#[103, 101, 116, 82, 101, 97, 115, 111, 110]⟩, .int .i64 2, .int .u8 0, .int .u8 3, .int .u16 0, .slice none 0 0]), (7, 24, .agg #[.int .u8 0, .int .u16 0]), (8, 25, .agg #[.int .u8 3, .int .u16 0]), (9, 26, x.m9), (10, 27, x.m10), (11, 28, x.m11), (12, 29, .agg #[.int .u8 3, .int .u16 0]), (13, 30, x.m13), (14, 31, x.m14), (15, 32, x.m15), (16, 33, x.m16), (17, 34, x.m17), (18, 8, x.m18)]
structure S3 (w : World) (B1 B2 B3 B4 B5 B6 B7 : Nat) (x : L3) (b : Nat → Bool) (w' : World) : Prop where
  C : Ch (fun _ => False) w w'
  BX : Boxes w' B1 B2 B3 B4 B5 B6 B7
  F1 : b 1 = true → Lit w' w.heap.size x.g1 #[.string ⟨#[99, 111, 110, 115, 116, 114, 117, 99, 116, 111, 114]⟩, .int .i64 1, .int .u8 4, .int .u8 0, .int .u16 0, .slice none 0 0] 77
  F4 : b 4 = true → Lit w' w.heap.size x.g4 #[.int .u8 3, .int .u16 0] 33
  F9 : b 9 = true → Lit w' w.heap.size x.g9 #[.int .u8 3, .int .u16 0] 33
  F11 : b 11 = true → Lit w' w.heap.size x.g11 #[.string ⟨#[103, 101, 116, 82, 101, 97, 115, 111, 110]⟩, .int .i64 2, .int .u8 0, .int .u8 3, .int .u16 0, .slice none 0 0, .string ⟨#[115, 101, 116, 82, 101, 97, 115, 111, 110]⟩, .int .i64 3, .int .u8 0, .int .u8 0, .int .u16 0, .slice (some ⟨x.g9, 0, none⟩) 1 1] 77
  F13 : b 13 = true → Lit w' w.heap.size x.g13 #[.int .u8 3, .int .u16 0] 33
  F15 : b 15 = true → Lit w' w.heap.size x.g15 #[.string ⟨#[99, 111, 110, 115, 116, 114, 117, 99, 116, 111, 114]⟩, .int .i64 4, .int .u8 4, .int .u8 0, .int .u16 0, .slice (some ⟨x.g13, 0, none⟩) 1 1] 77
  F17 : b 17 = true → Lit w' w.heap.size x.g17 #[.int .i64 (-1), .int .u8 0, .slice none 0 0, .slice none 0 0, .slice (some ⟨x.g1, 0, none⟩) 1 1, .int .i64 (0), .int .u8 0, .slice (some ⟨x.g4, 0, none⟩) 1 1, .slice (some ⟨x.g11, 0, none⟩) 2 2, .slice (some ⟨x.g15, 0, none⟩) 1 1] 75
  X1 : b 1 = true → x.m1 = .slice (some ⟨x.g1, 0, none⟩) 1 1
  X2 : b 2 = true → x.m2 = .agg #[.int .i64 (-1), .int .u8 0, .slice none 0 0, .slice none 0 0, .slice (some ⟨x.g1, 0, none⟩) 1 1]
  X4 : b 4 = true → x.m4 = .slice (some ⟨x.g4, 0, none⟩) 1 1
  X9 : b 9 = true → x.m9 = .slice (some ⟨x.g9, 0, none⟩) 1 1
  X10 : b 10 = true → x.m10 = .agg #[.string ⟨#[115, 101, 116, 82, 101, 97, 115, 111, 110]⟩, .int .i64 3, .int .u8 0, .int .u8 0, .int .u16 0, .slice (some ⟨x.g9, 0, none⟩) 1 1]
  X11 : b 11 = true → x.m11 = .slice (some ⟨x.g11, 0, none⟩) 2 2
  X13 : b 13 = true → x.m13 = .slice (some ⟨x.g13, 0, none⟩) 1 1
  X14 : b 14 = true → x.m14 = .agg #[.string ⟨#[99, 111, 110, 115, 116, 114, 117, 99, 116, 111, 114]⟩, .int .i64 4, .int .u8 4, .int .u8 0, .int .u16 0, .slice (some ⟨x.g13, 0, none⟩) 1 1]
  X15 : b 15 = true → x.m15 = .slice (some ⟨x.g15, 0, none⟩) 1 1
  X16 : b 16 = true → x.m16 = .agg #[.int .i64 (0), .int .u8 0, .slice (some ⟨x.g4, 0, none⟩) 1 1, .slice (some ⟨x.g11, 0, none⟩) 2 2, .slice (some ⟨x.g15, 0, none⟩) 1 1]
  X17 : b 17 = true → x.m17 = .slice (some ⟨x.g17, 0, none⟩) 2 2
  X18 : b 18 = true → x.m18 = .slice (some ⟨x.g17, 0, none⟩) 2 2
def row8 : RowM := ⟨1, 0, [], [], [⟨⟨#[99, 111, 110, 115, 116, 114, 117, 99, 116, 111, 114]⟩, 4, 4, 0, 0, [(3, 0)]⟩, ⟨⟨#[116, 104, 114, 111, 119, 73, 116]⟩, 5, 1, 0, 0, [(3, 0)]⟩]⟩
structure L8 where
  g2 : Nat
  g6 : Nat
  g8 : Nat
  g10 : Nat
  m2 : Value
  m3 : Value
  m6 : Value
  m7 : Value
  m8 : Value
  m9 : Value
  m10 : Value
  m12 : Value
  vA : Value
def lt8 (v8 : Value) (x : L8) : List (Nat × Tmp × Value) := [(0, 47, v8), (1, 48, .agg #[.int .u8 3, .int .u16 0]), (2, 49, x.m2), (3, 50, x.m3), (4, 51, .agg #[.int .u8 0, .int .u16 0]), (5, 52, .agg #[.int .u8 3, .int .u16 0]), (6, 53, x.m6), (7, 54, x.m7), (8, 55, x.m8), (9, 56, x.m9), (10, 57, x.m10), (11, 58, x.vA), (12, 8, x.m12)]
structure S8 (w : World) (B1 B2 B3 B4 B5 B6 B7 : Nat) (v8 : Value) (rs : List RowM) (x : L8) (b : Nat → Bool) (w' : World) : Prop where
  C : Ch (fun _ => False) w w'
  BX : Boxes w' B1 B2 B3 B4 B5 B6 B7
  O : b 11 = false → Out w' w.heap.size v8 rs
  O2 : b 11 = true → Out w' w.heap.size x.vA (rs ++ [row8])
  F2 : b 2 = true → b 11 = false → Lit w' w.heap.size x.g2 #[.int .u8 3, .int .u16 0] 33
  F6 : b 6 = true → b 11 = false → Lit w' w.heap.size x.g6 #[.int .u8 3, .int .u16 0] 33
  F8 : b 8 = true → b 11 = false → Lit w' w.heap.size x.g8 #[.string ⟨#[99, 111, 110, 115, 116, 114, 117, 99, 116, 111, 114]⟩, .int .i64 4, .int .u8 4, .int .u8 0, .int .u16 0, .slice (some ⟨x.g2, 0, none⟩) 1 1, .string ⟨#[116, 104, 114, 111, 119, 73, 116]⟩, .int .i64 5, .int .u8 1, .int .u8 0, .int .u16 0, .slice (some ⟨x.g6, 0, none⟩) 1 1] 77
  F10 : b 10 = true → b 11 = false → Lit w' w.heap.size x.g10 #[.int .i64 (1), .int .u8 0, .slice none 0 0, .slice none 0 0, .slice (some ⟨x.g8, 0, none⟩) 2 2] 75
  X2 : b 2 = true → x.m2 = .slice (some ⟨x.g2, 0, none⟩) 1 1
  X3 : b 3 = true → x.m3 = .agg #[.string ⟨#[99, 111, 110, 115, 116, 114, 117, 99, 116, 111, 114]⟩, .int .i64 4, .int .u8 4, .int .u8 0, .int .u16 0, .slice (some ⟨x.g2, 0, none⟩) 1 1]
  X6 : b 6 = true → x.m6 = .slice (some ⟨x.g6, 0, none⟩) 1 1
  X7 : b 7 = true → x.m7 = .agg #[.string ⟨#[116, 104, 114, 111, 119, 73, 116]⟩, .int .i64 5, .int .u8 1, .int .u8 0, .int .u16 0, .slice (some ⟨x.g6, 0, none⟩) 1 1]
  X8 : b 8 = true → x.m8 = .slice (some ⟨x.g8, 0, none⟩) 2 2
  X9 : b 9 = true → x.m9 = .agg #[.int .i64 (1), .int .u8 0, .slice none 0 0, .slice none 0 0, .slice (some ⟨x.g8, 0, none⟩) 2 2]
  X10 : b 10 = true → x.m10 = .slice (some ⟨x.g10, 0, none⟩) 1 1
  X12 : b 12 = true → x.m12 = x.vA
def row9 : RowM := ⟨0, 4, [], [⟨⟨#[112, 114, 111, 99, 101, 115, 115]⟩, 0, 0, 0, 0, [(4, 14)]⟩, ⟨⟨#[115, 101, 108, 101, 99, 116]⟩, 6, 0, 1, 0, []⟩, ⟨⟨#[100, 101, 115, 101, 108, 101, 99, 116]⟩, 7, 0, 0, 0, []⟩, ⟨⟨#[115, 104, 97, 114, 101]⟩, 8, 0, 4, 13, [(3, 0), (2, 0)]⟩], [⟨⟨#[99, 111, 110, 115, 116, 114, 117, 99, 116, 111, 114]⟩, 1, 4, 0, 0, []⟩, ⟨⟨#[114, 101, 103, 105, 115, 116, 101, 114]⟩, 9, 1, 0, 0, [(4, 12)]⟩]⟩
structure L9 where
  g3 : Nat
  g12 : Nat
  g14 : Nat
  g18 : Nat
  g20 : Nat
  g22 : Nat
  m3 : Value
  m4 : Value
  m12 : Value
  m13 : Value
  m14 : Value
  m18 : Value
  m19 : Value
  m20 : Value
  m21 : Value
  m22 : Value
  m24 : Value
  vA : Value
def lt9 (v8 : Value) (x : L9) : List (Nat × Tmp × Value) := [(0, 59, v8), (1, 60, .agg #[.int .u8 0, .int .u16 0]), (2, 61, .agg #[.int .u8 4, .int .u16 14]), (3, 62, x.m3), (4, 63, x.m4), (5, 64, .agg #[.int .u8 1, .int .u16 0]), (6, 65, .agg #[.string ⟨#[115, 101, 108, 101, 99, 116]⟩, .int .i64 6, .int .u8 0, .int .u8 1, .int .u16 0, .slice none 0 0]), (7, 66, .agg #[.int .u8 0, .int .u16 0]), (8, 67, .agg #[.string ⟨#[100, 101, 115, 101, 108, 101, 99, 116]⟩, .int .i64 7, .int .u8 0, .int .u8 0, .int .u16 0, .slice none 0 0]), (9, 68, .agg #[.int .u8 4, .int .u16 13]), (10, 69, .agg #[.int .u8 3, .int .u16 0]), (11, 70, .agg #[.int .u8 2, .int .u16 0]), (12, 71, x.m12), (13, 72, x.m13), (14, 73, x.m14), (15, 74, .agg #[.string ⟨#[99, 111, 110, 115, 116, 114, 117, 99, 116, 111, 114]⟩, .int .i64 1, .int .u8 4, .int .u8 0, .int .u16 0, .slice none 0 0]), (16, 75, .agg #[.int .u8 0, .int .u16 0]), (17, 76, .agg #[.int .u8 4, .int .u16 12]), (18, 77, x.m18), (19, 78, x.m19), (20, 79, x.m20), (21, 80, x.m21), (22, 81, x.m22), (23, 82, x.vA), (24, 8, x.m24)]
structure S9 (w : World) (B1 B2 B3 B4 B5 B6 B7 : Nat) (v8 : Value) (rs : List RowM) (x : L9) (b : Nat → Bool) (w' : World) : Prop where
  C : Ch (fun _ => False) w w'
  BX : Boxes w' B1 B2 B3 B4 B5 B6 B7
  O : b 23 = false → Out w' w.heap.size v8 rs
  O2 : b 23 = true → Out w' w.heap.size x.vA (rs ++ [row9])
  F3 : b 3 = true → b 23 = false → Lit w' w.heap.size x.g3 #[.int .u8 4, .int .u16 14] 33
  F12 : b 12 = true → b 23 = false → Lit w' w.heap.size x.g12 #[.int .u8 3, .int .u16 0, .int .u8 2, .int .u16 0] 33
  F14 : b 14 = true → b 23 = false → Lit w' w.heap.size x.g14 #[.string ⟨#[112, 114, 111, 99, 101, 115, 115]⟩, .int .i64 0, .int .u8 0, .int .u8 0, .int .u16 0, .slice (some ⟨x.g3, 0, none⟩) 1 1, .string ⟨#[115, 101, 108, 101, 99, 116]⟩, .int .i64 6, .int .u8 0, .int .u8 1, .int .u16 0, .slice none 0 0, .string ⟨#[100, 101, 115, 101, 108, 101, 99, 116]⟩, .int .i64 7, .int .u8 0, .int .u8 0, .int .u16 0, .slice none 0 0, .string ⟨#[115, 104, 97, 114, 101]⟩, .int .i64 8, .int .u8 0, .int .u8 4, .int .u16 13, .slice (some ⟨x.g12, 0, none⟩) 2 2] 77
  F18 : b 18 = true → b 23 = false → Lit w' w.heap.size x.g18 #[.int .u8 4, .int .u16 12] 33
  F20 : b 20 = true → b 23 = false → Lit w' w.heap.size x.g20 #[.string ⟨#[99, 111, 110, 115, 116, 114, 117, 99, 116, 111, 114]⟩, .int .i64 1, .int .u8 4, .int .u8 0, .int .u16 0, .slice none 0 0, .string ⟨#[114, 101, 103, 105, 115, 116, 101, 114]⟩, .int .i64 9, .int .u8 1, .int .u8 0, .int .u16 0, .slice (some ⟨x.g18, 0, none⟩) 1 1] 77
  F22 : b 22 = true → b 23 = false → Lit w' w.heap.size x.g22 #[.int .i64 (0), .int .u8 4, .slice none 0 0, .slice (some ⟨x.g14, 0, none⟩) 4 4, .slice (some ⟨x.g20, 0, none⟩) 2 2] 75
  X3 : b 3 = true → x.m3 = .slice (some ⟨x.g3, 0, none⟩) 1 1
  X4 : b 4 = true → x.m4 = .agg #[.string ⟨#[112, 114, 111, 99, 101, 115, 115]⟩, .int .i64 0, .int .u8 0, .int .u8 0, .int .u16 0, .slice (some ⟨x.g3, 0, none⟩) 1 1]
  X12 : b 12 = true → x.m12 = .slice (some ⟨x.g12, 0, none⟩) 2 2
  X13 : b 13 = true → x.m13 = .agg #[.string ⟨#[115, 104, 97, 114, 101]⟩, .int .i64 8, .int .u8 0, .int .u8 4, .int .u16 13, .slice (some ⟨x.g12, 0, none⟩) 2 2]
  X14 : b 14 = true → x.m14 = .slice (some ⟨x.g14, 0, none⟩) 4 4
  X18 : b 18 = true → x.m18 = .slice (some ⟨x.g18, 0, none⟩) 1 1
  X19 : b 19 = true → x.m19 = .agg #[.string ⟨#[114, 101, 103, 105, 115, 116, 101, 114]⟩, .int .i64 9, .int .u8 1, .int .u8 0, .int .u16 0, .slice (some ⟨x.g18, 0, none⟩) 1 1]
  X20 : b 20 = true → x.m20 = .slice (some ⟨x.g20, 0, none⟩) 2 2
  X21 : b 21 = true → x.m21 = .agg #[.int .i64 (0), .int .u8 4, .slice none 0 0, .slice (some ⟨x.g14, 0, none⟩) 4 4, .slice (some ⟨x.g20, 0, none⟩) 2 2]
  X22 : b 22 = true → x.m22 = .slice (some ⟨x.g22, 0, none⟩) 1 1
  X24 : b 24 = true → x.m24 = x.vA
def row11 : RowM := ⟨0, 8, [], [⟨⟨#[98, 117, 102, 102, 101, 114]⟩, 10, 0, 6, 0, []⟩, ⟨⟨#[114, 101, 99, 101, 105, 118, 101]⟩, 11, 0, 3, 0, []⟩, ⟨⟨#[115, 101, 110, 100]⟩, 12, 0, 0, 0, [(3, 0), (3, 0)]⟩], []⟩
structure L11 where
  g8 : Nat
  g10 : Nat
  g12 : Nat
  m8 : Value
  m9 : Value
  m10 : Value
  m11 : Value
  m12 : Value
  m14 : Value
  vA : Value
def lt11 (v8 : Value) (x : L11) : List (Nat × Tmp × Value) := [(0, 87, v8), (1, 88, .agg #[.int .u8 6, .int .u16 0]), (2, 89, .agg #[.string ⟨#[98, 117, 102, 102, 101, 114]⟩, .int .i64 10, .int .u8 0, .int .u8 6, .int .u16 0, .slice none 0 0]), (3, 90, .agg #[.int .u8 3, .int .u16 0]), (4, 91, .agg #[.string ⟨#[114, 101, 99, 101, 105, 118, 101]⟩, .int .i64 11, .int .u8 0, .int .u8 3, .int .u16 0, .slice none 0 0]), (5, 92, .agg #[.int .u8 0, .int .u16 0]), (6, 93, .agg #[.int .u8 3, .int .u16 0]), (7, 94, .agg #[.int .u8 3, .int .u16 0]), (8, 95, x.m8), (9, 96, x.m9), (10, 97, x.m10), (11, 98, x.m11), (12, 99, x.m12), (13, 100, x.vA), (14, 8, x.m14)]
structure S11 (w : World) (B1 B2 B3 B4 B5 B6 B7 : Nat) (v8 : Value) (rs : List RowM) (x : L11) (b : Nat → Bool) (w' : World) : Prop where
  C : Ch (fun _ => False) w w'
  BX : Boxes w' B1 B2 B3 B4 B5 B6 B7
  O : b 13 = false → Out w' w.heap.size v8 rs
  O2 : b 13 = true → Out w' w.heap.size x.vA (rs ++ [row11])
  F8 : b 8 = true → b 13 = false → Lit w' w.heap.size x.g8 #[.int .u8 3, .int .u16 0, .int .u8 3, .int .u16 0] 33
  F10 : b 10 = true → b 13 = false → Lit w' w.heap.size x.g10 #[.string ⟨#[98, 117, 102, 102, 101, 114]⟩, .int .i64 10, .int .u8 0, .int .u8 6, .int .u16 0, .slice none 0 0, .string ⟨#[114, 101, 99, 101, 105, 118, 101]⟩, .int .i64 11, .int .u8 0, .int .u8 3, .int .u16 0, .slice none 0 0, .string ⟨#[115, 101, 110, 100]⟩, .int .i64 12, .int .u8 0, .int .u8 0, .int .u16 0, .slice (some ⟨x.g8, 0, none⟩) 2 2] 77
  F12 : b 12 = true → b 13 = false → Lit w' w.heap.size x.g12 #[.int .i64 (0), .int .u8 8, .slice none 0 0, .slice (some ⟨x.g10, 0, none⟩) 3 3, .slice none 0 0] 75
  X8 : b 8 = true → x.m8 = .slice (some ⟨x.g8, 0, none⟩) 2 2
  X9 : b 9 = true → x.m9 = .agg #[.string ⟨#[115, 101, 110, 100]⟩, .int .i64 12, .int .u8 0, .int .u8 0, .int .u16 0, .slice (some ⟨x.g8, 0, none⟩) 2 2]
  X10 : b 10 = true → x.m10 = .slice (some ⟨x.g10, 0, none⟩) 3 3
  X11 : b 11 = true → x.m11 = .agg #[.int .i64 (0), .int .u8 8, .slice none 0 0, .slice (some ⟨x.g10, 0, none⟩) 3 3, .slice none 0 0]
  X12 : b 12 = true → x.m12 = .slice (some ⟨x.g12, 0, none⟩) 1 1
  X14 : b 14 = true → x.m14 = x.vA
def row12 : RowM := ⟨0, 8, [], [], [⟨⟨#[98, 101, 103, 105, 110]⟩, 13, 1, 0, 0, []⟩, ⟨⟨#[99, 111, 109, 109, 105, 116]⟩, 14, 1, 0, 0, []⟩, ⟨⟨#[97, 98, 111, 114, 116]⟩, 15, 1, 0, 0, []⟩, ⟨⟨#[100, 101, 112, 116, 104]⟩, 16, 1, 2, 0, []⟩, ⟨⟨#[109, 97, 107, 101, 66, 121, 116, 101, 115]⟩, 17, 1, 6, 0, [(3, 0), (2, 0)]⟩, ⟨⟨#[109, 97, 107, 101, 83, 104, 111, 114, 116, 115]⟩, 18, 1, 7, 0, [(3, 0), (2, 0)]⟩, ⟨⟨#[115, 104, 97, 114, 101]⟩, 19, 1, 4, 13, [(6, 0), (3, 0), (2, 0), (2, 0)]⟩, ⟨⟨#[112, 114, 101, 118, 105, 111, 117, 115]⟩, 20, 1, 3, 0, []⟩]⟩
structure L12 where
  g12 : Nat
  g17 : Nat
  g24 : Nat
  g28 : Nat
  g30 : Nat
  m12 : Value
  m13 : Value
  m17 : Value
  m18 : Value
  m24 : Value
  m25 : Value
  m28 : Value
  m29 : Value
  m30 : Value
  m32 : Value
  vA : Value
def lt12 (v8 : Value) (x : L12) : List (Nat × Tmp × Value) := [(0, 101, v8), (1, 102, .agg #[.int .u8 0, .int .u16 0]), (2, 103, .agg #[.string ⟨#[98, 101, 103, 105, 110]⟩, .int .i64 13, .int .u8 1, .int .u8 0, .int .u16 0, .slice none 0 0]), (3, 104, .agg #[.int .u8 0, .int .u16 0]), (4, 105, .agg #[.string ⟨#[99, 111, 109, 109, 105, 116]⟩, .int .i64 14, .int .u8 1, .int .u8 0, .int .u16 0, .slice none 0 0]), (5, 106, .agg #[.int .u8 0, .int .u16 0]), (6, 107, .agg #[.string ⟨#[97, 98, 111, 114, 116]⟩, .int .i64 15, .int .u8 1, .int .u8 0, .int .u16 0, .slice none 0 0]), (7, 108, .agg #[.int .u8 2, .int .u16 0]), (8, 109, .agg #[.string ⟨#[100, 101, 112, 116, 104]⟩, .int .i64 16, .int .u8 1, .int .u8 2, .int .u16 0, .slice none 0 0]), (9, 110, .agg #[.int .u8 6, .int .u16 0]), (10, 111, .agg #[.int .u8 3, .int .u16 0]), (11, 112, .agg #[.int .u8 2, .int .u16 0]), (12, 113, x.m12), (13, 114, x.m13), (14, 115, .agg #[.int .u8 7, .int .u16 0]), (15, 116, .agg #[.int .u8 3, .int .u16 0]), (16, 117, .agg #[.int .u8 2, .int .u16 0]), (17, 118, x.m17), (18, 119, x.m18), (19, 120, .agg #[.int .u8 4, .int .u16 13]), (20, 121, .agg #[.int .u8 6, .int .u16 0]), (21, 122, .agg #[.int .u8 3, .int .u16 0]), (22, 123, .agg #[.int .u8 2, .int .u16 0]), (23, 124, .agg #[.int .u8 2, .int .u16 0]), (24, 125, x.m24), (25, 126, x.m25), (26, 127, .agg #[.int .u8 3, .int .u16 0]), (27, 128, .agg #[.string ⟨#[112, 114, 101, 118, 105, 111, 117, 115]⟩, .int .i64 20, .int .u8 1, .int .u8 3, .int .u16 0, .slice none 0 0]), (28, 129, x.m28), (29, 130, x.m29), (30, 131, x.m30), (31, 132, x.vA), (32, 8, x.m32)]
structure S12 (w : World) (B1 B2 B3 B4 B5 B6 B7 : Nat) (v8 : Value) (rs : List RowM) (x : L12) (b : Nat → Bool) (w' : World) : Prop where
  C : Ch (fun _ => False) w w'
  BX : Boxes w' B1 B2 B3 B4 B5 B6 B7
  O : b 31 = false → Out w' w.heap.size v8 rs
  O2 : b 31 = true → Out w' w.heap.size x.vA (rs ++ [row12])
  F12 : b 12 = true → b 31 = false → Lit w' w.heap.size x.g12 #[.int .u8 3, .int .u16 0, .int .u8 2, .int .u16 0] 33
  F17 : b 17 = true → b 31 = false → Lit w' w.heap.size x.g17 #[.int .u8 3, .int .u16 0, .int .u8 2, .int .u16 0] 33
  F24 : b 24 = true → b 31 = false → Lit w' w.heap.size x.g24 #[.int .u8 6, .int .u16 0, .int .u8 3, .int .u16 0, .int .u8 2, .int .u16 0, .int .u8 2, .int .u16 0] 33
  F28 : b 28 = true → b 31 = false → Lit w' w.heap.size x.g28 #[.string ⟨#[98, 101, 103, 105, 110]⟩, .int .i64 13, .int .u8 1, .int .u8 0, .int .u16 0, .slice none 0 0, .string ⟨#[99, 111, 109, 109, 105, 116]⟩, .int .i64 14, .int .u8 1, .int .u8 0, .int .u16 0, .slice none 0 0, .string ⟨#[97, 98, 111, 114, 116]⟩, .int .i64 15, .int .u8 1, .int .u8 0, .int .u16 0, .slice none 0 0, .string ⟨#[100, 101, 112, 116, 104]⟩, .int .i64 16, .int .u8 1, .int .u8 2, .int .u16 0, .slice none 0 0, .string ⟨#[109, 97, 107, 101, 66, 121, 116, 101, 115]⟩, .int .i64 17, .int .u8 1, .int .u8 6, .int .u16 0, .slice (some ⟨x.g12, 0, none⟩) 2 2, .string ⟨#[109, 97, 107, 101, 83, 104, 111, 114, 116, 115]⟩, .int .i64 18, .int .u8 1, .int .u8 7, .int .u16 0, .slice (some ⟨x.g17, 0, none⟩) 2 2, .string ⟨#[115, 104, 97, 114, 101]⟩, .int .i64 19, .int .u8 1, .int .u8 4, .int .u16 13, .slice (some ⟨x.g24, 0, none⟩) 4 4, .string ⟨#[112, 114, 101, 118, 105, 111, 117, 115]⟩, .int .i64 20, .int .u8 1, .int .u8 3, .int .u16 0, .slice none 0 0] 77
  F30 : b 30 = true → b 31 = false → Lit w' w.heap.size x.g30 #[.int .i64 (0), .int .u8 8, .slice none 0 0, .slice none 0 0, .slice (some ⟨x.g28, 0, none⟩) 8 8] 75
  X12 : b 12 = true → x.m12 = .slice (some ⟨x.g12, 0, none⟩) 2 2
  X13 : b 13 = true → x.m13 = .agg #[.string ⟨#[109, 97, 107, 101, 66, 121, 116, 101, 115]⟩, .int .i64 17, .int .u8 1, .int .u8 6, .int .u16 0, .slice (some ⟨x.g12, 0, none⟩) 2 2]
  X17 : b 17 = true → x.m17 = .slice (some ⟨x.g17, 0, none⟩) 2 2
  X18 : b 18 = true → x.m18 = .agg #[.string ⟨#[109, 97, 107, 101, 83, 104, 111, 114, 116, 115]⟩, .int .i64 18, .int .u8 1, .int .u8 7, .int .u16 0, .slice (some ⟨x.g17, 0, none⟩) 2 2]
  X24 : b 24 = true → x.m24 = .slice (some ⟨x.g24, 0, none⟩) 4 4
  X25 : b 25 = true → x.m25 = .agg #[.string ⟨#[115, 104, 97, 114, 101]⟩, .int .i64 19, .int .u8 1, .int .u8 4, .int .u16 13, .slice (some ⟨x.g24, 0, none⟩) 4 4]
  X28 : b 28 = true → x.m28 = .slice (some ⟨x.g28, 0, none⟩) 8 8
  X29 : b 29 = true → x.m29 = .agg #[.int .i64 (0), .int .u8 8, .slice none 0 0, .slice none 0 0, .slice (some ⟨x.g28, 0, none⟩) 8 8]
  X30 : b 30 = true → x.m30 = .slice (some ⟨x.g30, 0, none⟩) 1 1
  X32 : b 32 = true → x.m32 = x.vA
def row13 : RowM := ⟨0, 8, [], [], [⟨⟨#[99, 111, 112, 121]⟩, 21, 1, 3, 0, [(6, 0), (3, 0), (6, 0), (3, 0), (3, 0)]⟩, ⟨⟨#[99, 111, 112, 121, 78, 111, 110, 65, 116, 111, 109, 105, 99]⟩, 22, 1, 3, 0, [(6, 0), (3, 0), (6, 0), (3, 0), (3, 0)]⟩, ⟨⟨#[102, 105, 108, 108]⟩, 23, 1, 3, 0, [(6, 0), (3, 0), (3, 0), (2, 0)]⟩, ⟨⟨#[99, 111, 109, 112, 97, 114, 101]⟩, 24, 1, 2, 0, [(6, 0), (3, 0), (6, 0), (3, 0), (3, 0)]⟩, ⟨⟨#[103, 101, 116, 83, 104, 111, 114, 116]⟩, 25, 1, 3, 0, [(6, 0), (3, 0)]⟩, ⟨⟨#[115, 101, 116, 83, 104, 111, 114, 116]⟩, 26, 1, 3, 0, [(6, 0), (3, 0), (3, 0)]⟩]⟩
structure L13 where
  g7 : Nat
  g15 : Nat
  g22 : Nat
  g30 : Nat
  g35 : Nat
  g41 : Nat
  g43 : Nat
  g45 : Nat
  m7 : Value
  m8 : Value
  m15 : Value
  m16 : Value
  m22 : Value
  m23 : Value
  m30 : Value
  m31 : Value
  m35 : Value
  m36 : Value
  m41 : Value
  m42 : Value
  m43 : Value
  m44 : Value
  m45 : Value
  m47 : Value
  vA : Value
def lt13 (v8 : Value) (x : L13) : List (Nat × Tmp × Value) := [(0, 133, v8), (1, 134, .agg #[.int .u8 3, .int .u16 0]), (2, 135, .agg #[.int .u8 6, .int .u16 0]), (3, 136, .agg #[.int .u8 3, .int .u16 0]), (4, 137, .agg #[.int .u8 6, .int .u16 0]), (5, 138, .agg #[.int .u8 3, .int .u16 0]), (6, 139, .agg #[.int .u8 3, .int .u16 0]), (7, 140, x.m7), (8, 141, x.m8), (9, 142, .agg #[.int .u8 3, .int .u16 0]), (10, 143, .agg #[.int .u8 6, .int .u16 0]), (11, 144, .agg #[.int .u8 3, .int .u16 0]), (12, 145, .agg #[.int .u8 6, .int .u16 0]), (13, 146, .agg #[.int .u8 3, .int .u16 0]), (14, 147, .agg #[.int .u8 3, .int .u16 0]), (15, 148, x.m15), (16, 149, x.m16), (17, 150, .agg #[.int .u8 3, .int .u16 0]), (18, 151, .agg #[.int .u8 6, .int .u16 0]), (19, 152, .agg #[.int .u8 3, .int .u16 0]), (20, 153, .agg #[.int .u8 3, .int .u16 0]), (21, 154, .agg #[.int .u8 2, .int .u16 0]), (22, 155, x.m22), (23, 156, x.m23), (24, 157, .agg #[.int .u8 2, .int .u16 0]), (25, 158, .agg #[.int .u8 6, .int .u16 0]), (26, 159, .agg #[.int .u8 3, .int .u16 0]), (27, 160, .agg #[.int .u8 6, .int .u16 0]), (28, 161, .agg #[.int .u8 3, .int .u16 0]), (29, 162, .agg #[.int .u8 3, .int .u16 0]), (30, 163, x.m30), (31, 164, x.m31), (32, 165, .agg #[.int .u8 3, .int .u16 0]), (33, 166, .agg #[.int .u8 6, .int .u16 0]), (34, 167, .agg #[.int .u8 3, .int .u16 0]), (35, 168, x.m35), (36, 169, x.m36), (37, 170, .agg #[.int .u8 3, .int .u16 0]), (38, 171, .agg #[.int .u8 6, .int .u16 0]), (39, 172, .agg #[.int .u8 3, .int .u16 0]), (40, 173, .agg #[.int .u8 3, .int .u16 0]), (41, 174, x.m41), (42, 175, x.m42), (43, 176, x.m43), (44, 177, x.m44), (45, 178, x.m45), (46, 179, x.vA), (47, 8, x.m47)]
structure S13 (w : World) (B1 B2 B3 B4 B5 B6 B7 : Nat) (v8 : Value) (rs : List RowM) (x : L13) (b : Nat → Bool) (w' : World) : Prop where
  C : Ch (fun _ => False) w w'
  BX : Boxes w' B1 B2 B3 B4 B5 B6 B7
  O : b 46 = false → Out w' w.heap.size v8 rs
  O2 : b 46 = true → Out w' w.heap.size x.vA (rs ++ [row13])
  F7 : b 7 = true → b 46 = false → Lit w' w.heap.size x.g7 #[.int .u8 6, .int .u16 0, .int .u8 3, .int .u16 0, .int .u8 6, .int .u16 0, .int .u8 3, .int .u16 0, .int .u8 3, .int .u16 0] 33
  F15 : b 15 = true → b 46 = false → Lit w' w.heap.size x.g15 #[.int .u8 6, .int .u16 0, .int .u8 3, .int .u16 0, .int .u8 6, .int .u16 0, .int .u8 3, .int .u16 0, .int .u8 3, .int .u16 0] 33
  F22 : b 22 = true → b 46 = false → Lit w' w.heap.size x.g22 #[.int .u8 6, .int .u16 0, .int .u8 3, .int .u16 0, .int .u8 3, .int .u16 0, .int .u8 2, .int .u16 0] 33
  F30 : b 30 = true → b 46 = false → Lit w' w.heap.size x.g30 #[.int .u8 6, .int .u16 0, .int .u8 3, .int .u16 0, .int .u8 6, .int .u16 0, .int .u8 3, .int .u16 0, .int .u8 3, .int .u16 0] 33
  F35 : b 35 = true → b 46 = false → Lit w' w.heap.size x.g35 #[.int .u8 6, .int .u16 0, .int .u8 3, .int .u16 0] 33
  F41 : b 41 = true → b 46 = false → Lit w' w.heap.size x.g41 #[.int .u8 6, .int .u16 0, .int .u8 3, .int .u16 0, .int .u8 3, .int .u16 0] 33
  F43 : b 43 = true → b 46 = false → Lit w' w.heap.size x.g43 #[.string ⟨#[99, 111, 112, 121]⟩, .int .i64 21, .int .u8 1, .int .u8 3, .int .u16 0, .slice (some ⟨x.g7, 0, none⟩) 5 5, .string ⟨#[99, 111, 112, 121, 78, 111, 110, 65, 116, 111, 109, 105, 99]⟩, .int .i64 22, .int .u8 1, .int .u8 3, .int .u16 0, .slice (some ⟨x.g15, 0, none⟩) 5 5, .string ⟨#[102, 105, 108, 108]⟩, .int .i64 23, .int .u8 1, .int .u8 3, .int .u16 0, .slice (some ⟨x.g22, 0, none⟩) 4 4, .string ⟨#[99, 111, 109, 112, 97, 114, 101]⟩, .int .i64 24, .int .u8 1, .int .u8 2, .int .u16 0, .slice (some ⟨x.g30, 0, none⟩) 5 5, .string ⟨#[103, 101, 116, 83, 104, 111, 114, 116]⟩, .int .i64 25, .int .u8 1, .int .u8 3, .int .u16 0, .slice (some ⟨x.g35, 0, none⟩) 2 2, .string ⟨#[115, 101, 116, 83, 104, 111, 114, 116]⟩, .int .i64 26, .int .u8 1, .int .u8 3, .int .u16 0, .slice (some ⟨x.g41, 0, none⟩) 3 3] 77
  F45 : b 45 = true → b 46 = false → Lit w' w.heap.size x.g45 #[.int .i64 (0), .int .u8 8, .slice none 0 0, .slice none 0 0, .slice (some ⟨x.g43, 0, none⟩) 6 6] 75
  X7 : b 7 = true → x.m7 = .slice (some ⟨x.g7, 0, none⟩) 5 5
  X8 : b 8 = true → x.m8 = .agg #[.string ⟨#[99, 111, 112, 121]⟩, .int .i64 21, .int .u8 1, .int .u8 3, .int .u16 0, .slice (some ⟨x.g7, 0, none⟩) 5 5]
  X15 : b 15 = true → x.m15 = .slice (some ⟨x.g15, 0, none⟩) 5 5
  X16 : b 16 = true → x.m16 = .agg #[.string ⟨#[99, 111, 112, 121, 78, 111, 110, 65, 116, 111, 109, 105, 99]⟩, .int .i64 22, .int .u8 1, .int .u8 3, .int .u16 0, .slice (some ⟨x.g15, 0, none⟩) 5 5]
  X22 : b 22 = true → x.m22 = .slice (some ⟨x.g22, 0, none⟩) 4 4
  X23 : b 23 = true → x.m23 = .agg #[.string ⟨#[102, 105, 108, 108]⟩, .int .i64 23, .int .u8 1, .int .u8 3, .int .u16 0, .slice (some ⟨x.g22, 0, none⟩) 4 4]
  X30 : b 30 = true → x.m30 = .slice (some ⟨x.g30, 0, none⟩) 5 5
  X31 : b 31 = true → x.m31 = .agg #[.string ⟨#[99, 111, 109, 112, 97, 114, 101]⟩, .int .i64 24, .int .u8 1, .int .u8 2, .int .u16 0, .slice (some ⟨x.g30, 0, none⟩) 5 5]
  X35 : b 35 = true → x.m35 = .slice (some ⟨x.g35, 0, none⟩) 2 2
  X36 : b 36 = true → x.m36 = .agg #[.string ⟨#[103, 101, 116, 83, 104, 111, 114, 116]⟩, .int .i64 25, .int .u8 1, .int .u8 3, .int .u16 0, .slice (some ⟨x.g35, 0, none⟩) 2 2]
  X41 : b 41 = true → x.m41 = .slice (some ⟨x.g41, 0, none⟩) 3 3
  X42 : b 42 = true → x.m42 = .agg #[.string ⟨#[115, 101, 116, 83, 104, 111, 114, 116]⟩, .int .i64 26, .int .u8 1, .int .u8 3, .int .u16 0, .slice (some ⟨x.g41, 0, none⟩) 3 3]
  X43 : b 43 = true → x.m43 = .slice (some ⟨x.g43, 0, none⟩) 6 6
  X44 : b 44 = true → x.m44 = .agg #[.int .i64 (0), .int .u8 8, .slice none 0 0, .slice none 0 0, .slice (some ⟨x.g43, 0, none⟩) 6 6]
  X45 : b 45 = true → x.m45 = .slice (some ⟨x.g45, 0, none⟩) 1 1
  X47 : b 47 = true → x.m47 = x.vA
/-- An exception of the card's. -/
def rowE : RowM := ⟨1, 0, [], [], [⟨⟨#[99, 111, 110, 115, 116, 114, 117, 99, 116, 111, 114]⟩, 4, 4, 0, 0, [(3, 0)]⟩]⟩
def row10 : RowM := ⟨-1, 3, [], [], []⟩
theorem size_alloc (w : World) (o : Obj) : (w.alloc o).heap.size = w.heap.size + 1 := by simp
theorem out_two {w : World} {base g : Nat} {r0 r1 : RowM} {c0 c1 : List Value} (h : Lit w base g (c0 ++ c1).toArray 75) (h0 : RowRep w base r0 c0) (h1 : RowRep w base r1 c1) : Out w base (.slice (some ⟨g, 0, none⟩) 2 2) [r0, r1] := by
  have l0 : c0.length = 5 := by obtain ⟨_, _, _, rfl, _⟩ := h0; rfl
  have l1 : c1.length = 5 := by obtain ⟨_, _, _, rfl, _⟩ := h1; rfl
  have := h.own (n := 2) (size := 5) (by simp [l0, l1]) (small 2 (by omega))
  refine ⟨c0 ++ c1, by simpa using this, ?_⟩
  have r := ((Reps.none (RowRep w base) 5).snoc h0 l0).snoc h1 l1
  simpa using r
theorem info75 : (Tryd.prog.info? 75).map (fun i => (i.zero, i.size, i.bytes)) = some (some (.agg #[.int .i64 0, .int .u8 0, .slice none 0 0, .slice none 0 0, .slice none 0 0]), 5, 88) := by kernel_rfl
end Go.Proofs.YtjknnifcbcdjiaaDoor.Tab
