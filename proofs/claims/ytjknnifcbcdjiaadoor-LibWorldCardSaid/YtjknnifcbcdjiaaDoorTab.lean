/- The pieces of the card's table. -/
import Derived.Test.YtjknnifcbcdjiaaDoorProg
import Derived.Test.YtjknnifcbcdjiaaDoorBase
set_option linter.unusedVariables false
set_option linter.unusedSimpArgs false
namespace Go.Proofs.YtjknnifcbcdjiaaDoor.Tab
open Go.RowKit Go.Proofs.YtjknnifcbcdjiaaDoor.Base
set_option maxHeartbeats 800000 in
set_option maxRecDepth 100000 in
theorem of_any (w : World) (k c : Int) : Calls Tryd.prog 28 #[.int .u8 k, .int .u16 c] w fun e w' => e = .returned (.agg #[.int .u8 k, .int .u16 c]) ∧ Ch (fun _ => False) w w' := by
  go_enter Tryd.func28, Tryd.ntmps28
  go_wp2
  exact bodyPost_ret (v := .agg #[.int .u8 k, .int .u16 c]) (by simp [results, Tryd.results28, go_sem]) rfl ⟨rfl, (Ch.refl _ _).alloc _⟩
/-- The cells of a native. -/
def nat (s : ByteArray) (n f k c : Int) (A : Option Addr) (l cp : Nat) : Array Value := #[.string s, .int .i64 n, .int .u8 f, .int .u8 k, .int .u16 c, .slice A l cp]
set_option maxHeartbeats 800000 in
set_option maxRecDepth 100000 in
theorem con_any (w : World) (n : Int) (A : Option Addr) (l cp : Nat) : Calls Tryd.prog 29 #[.int .i64 n, .slice A l cp] w fun e w' => e = .returned (.agg (nat ⟨#[99, 111, 110, 115, 116, 114, 117, 99, 116, 111, 114]⟩ n 4 0 0 A l cp)) ∧ Ch (fun _ => False) w w' := by
  go_enter Tryd.func29, Tryd.ntmps29
  go_wp2
  exact bodyPost_ret (v := .agg (nat ⟨#[99, 111, 110, 115, 116, 114, 117, 99, 116, 111, 114]⟩ n 4 0 0 A l cp)) (by simp [results, Tryd.results29, go_sem, nat]) rfl ⟨rfl, (Ch.refl _ _).alloc _⟩
set_option maxHeartbeats 800000 in
set_option maxRecDepth 100000 in
theorem virt_any (w : World) (s : ByteArray) (n k c : Int) (A : Option Addr) (l cp : Nat) : Calls Tryd.prog 30 #[.string s, .int .i64 n, .agg #[.int .u8 k, .int .u16 c], .slice A l cp] w fun e w' => e = .returned (.agg (nat s n 0 k c A l cp)) ∧ Ch (fun _ => False) w w' := by
  go_enter Tryd.func30, Tryd.ntmps30
  go_wp2
  exact bodyPost_ret (v := .agg (nat s n 0 k c A l cp)) (by simp [results, Tryd.results30, go_sem, nat]) rfl ⟨rfl, ((Ch.refl _ _).alloc _).alloc _⟩
set_option maxHeartbeats 800000 in
set_option maxRecDepth 100000 in
theorem stat_any (w : World) (s : ByteArray) (n k c : Int) (A : Option Addr) (l cp : Nat) : Calls Tryd.prog 31 #[.string s, .int .i64 n, .agg #[.int .u8 k, .int .u16 c], .slice A l cp] w fun e w' => e = .returned (.agg (nat s n 1 k c A l cp)) ∧ Ch (fun _ => False) w w' := by
  go_enter Tryd.func31, Tryd.ntmps31
  go_wp2
  exact bodyPost_ret (v := .agg (nat s n 1 k c A l cp)) (by simp [results, Tryd.results31, go_sem, nat]) rfl ⟨rfl, ((Ch.refl _ _).alloc _).alloc _⟩
/-- The cells of a linked method. -/
def met (pkg f cl : Int) (A : Option Addr) (l cp : Nat) (k c st lo : Int) (B : Option Addr) (bl bc : Nat) (D : Option Addr) (dl dc : Nat) (n : Int) : Array Value :=
  #[.int .i64 pkg, .int .u8 f, .int .i64 cl, .slice A l cp, .int .u8 k, .int .u16 c, .int .i64 st, .int .i64 lo, .slice B bl bc, .slice D dl dc, .int .i64 n]
set_option maxHeartbeats 800000 in
set_option maxRecDepth 100000 in
theorem linked_any (w : World) (s : ByteArray) (i n f k c : Int) (A : Option Addr) (l cp : Nat) : Calls Tryd.prog 23 #[.int .i64 i, .agg (nat s n f k c A l cp)] w fun e w' => e = .returned (.agg (met 0 f i A l cp k c 0 0 none 0 0 none 0 0 n)) ∧ Ch (fun _ => False) w w' := by
  unfold nat
  go_enter Tryd.func23, Tryd.ntmps23
  go_wp2
  exact bodyPost_ret (v := .agg (met 0 f i A l cp k c 0 0 none 0 0 none 0 0 n)) (by simp [results, Tryd.results23, go_sem, met]) rfl ⟨rfl, ((Ch.refl _ _).alloc _).alloc _⟩
end Go.Proofs.YtjknnifcbcdjiaaDoor.Tab
