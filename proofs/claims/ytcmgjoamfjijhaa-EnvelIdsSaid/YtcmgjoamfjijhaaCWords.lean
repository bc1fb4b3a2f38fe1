/- Words of 32 bits; turned words. -/
import Derived.Test.YtcmgjoamfjijhaaProg
import Derived.Test.YtcmgjoamfjijhaaCB1
import Derived.Laws.BitsAllLaws
namespace Go.Proofs.Ytcmgjoamfjijhaa
open Go.RowKit

theorem w_lt (x : UInt32) : x.toNat < 4294967296 := x.toNat_lt
def andW (x y : UInt32) : UInt32 := x &&& y
def orW (x y : UInt32) : UInt32 := x ||| y
def xorW (x y : UInt32) : UInt32 := x ^^^ y
def addW (x y : UInt32) : UInt32 := x + y
def shlW (x : UInt32) (k : Nat) : UInt32 := x <<< UInt32.ofNat k
def shrW (x : UInt32) (k : Nat) : UInt32 := x >>> UInt32.ofNat k
theorem w_and (x y : UInt32) : bits .and .u32 (x.toNat : Int) (y.toNat : Int) = ((andW x y).toNat : Int) := by
  rw [u32_and_nat _ _ (w_lt x) (w_lt y), andW, UInt32.toNat_and]
theorem w_or (x y : UInt32) : bits .or .u32 (x.toNat : Int) (y.toNat : Int) = ((orW x y).toNat : Int) := by
  rw [u32_or_nat _ _ (w_lt x) (w_lt y), orW, UInt32.toNat_or]
theorem w_xor (x y : UInt32) : bits .xor .u32 (x.toNat : Int) (y.toNat : Int) = ((xorW x y).toNat : Int) := by
  rw [u32_xor_nat _ _ (w_lt x) (w_lt y), xorW, UInt32.toNat_xor]
theorem w_add (x y : UInt32) : ((x.toNat : Int) + (y.toNat : Int)) % 4294967296 = ((addW x y).toNat : Int) := by
  rw [addW, UInt32.toNat_add]; omega
theorem w_shl (x : UInt32) {k : Nat} (hk : k < 32) : ((x.toNat : Int) * 2 ^ k) % 4294967296 = ((shlW x k).toNat : Int) := by
  rw [shlW, UInt32.toNat_shiftLeft, UInt32.toNat_ofNat']
  rw [show k % 2 ^ 32 % 32 = k by omega, Nat.shiftLeft_eq, Int.natCast_emod, Int.natCast_mul, Int.natCast_pow]
  rfl
theorem w_shr (x : UInt32) {k : Nat} (hk : k < 32) : (x.toNat : Int) / 2 ^ k = ((shrW x k).toNat : Int) := by
  rw [shrW, UInt32.toNat_shiftRight, UInt32.toNat_ofNat']
  rw [show k % 2 ^ 32 % 32 = k by omega, Nat.shiftRight_eq_div_pow, Int.natCast_ediv, Int.natCast_pow]
  rfl

/-- A word turned down by a. -/
def rotr (x : UInt32) (a : Nat) : UInt32 := orW (shlW x (32 - a)) (shrW x a)
theorem neg_and64 {a : Nat} (h1 : 1 ≤ a) (h2 : a ≤ 31) : bits .and .u64 (IntKind.u64.wrap (-(a : Int))) 31 = ((32 - a : Nat) : Int) := by
  have h : ∀ i : Fin 32, 1 ≤ i.1 → bits .and .u64 (IntKind.u64.wrap (-(i.1 : Int))) 31 = ((32 - i.1 : Nat) : Int) := by decide +kernel
  exact h ⟨a, by omega⟩ h1
theorem neg_andi64 {a : Nat} (h1 : 1 ≤ a) (h2 : a ≤ 31) : bits .and .i64 (-(a : Int)) 31 = ((32 - a : Nat) : Int) := by
  have h : ∀ i : Fin 32, 1 ≤ i.1 → bits .and .i64 (-(i.1 : Int)) 31 = ((32 - i.1 : Nat) : Int) := by decide +kernel
  exact h ⟨a, by omega⟩ h1

theorem rot_val {x : UInt32} {a : Nat} (h1 : 1 ≤ a) (h2 : a ≤ 31) (k j : Nat) (hk : k = 32 - a) (hj : j = a) :
    bits .or .u32 ((x.toNat : Int) * 2 ^ k % 4294967296) ((x.toNat : Int) / 2 ^ j) = ((rotr x a).toNat : Int) := by
  rw [w_shl x (by omega), w_shr x (by omega), w_or, rotr, hk, hj]

set_option maxRecDepth 100000 in
theorem rot_code {w : World} {x : UInt32} {a : Nat} (h1 : 1 ≤ a) (h2 : a ≤ 31) :
    Calls Try.prog 114 #[.int .u32 x.toNat, .int .i64 (-(a : Int))] w fun e w' => e = .returned (.int .u32 (rotr x a).toNat) ∧ w' = w := by
  have ha := neg_and64 h1 h2
  have hw : IntKind.u64.wrap (32 - ((32 - a : Nat) : Int)) = (a : Int) := by rw [IntKind.wrap_u64]; omega
  go_enter Try.func114, Try.ntmps114
  go_wp2
  go_ret
  refine ⟨congrArg (fun z => Ending.returned (.int .u32 z)) (rot_val h1 h2 _ _ (by omega) (by omega)), rfl⟩
set_option maxRecDepth 100000 in
theorem rol_code {w : World} {x : UInt32} {a : Nat} (h1 : 1 ≤ a) (h2 : a ≤ 31) :
    Calls Try.prog 113 #[.int .u32 x.toNat, .int .i64 (-(a : Int))] w fun e w' => e = .returned (.int .u32 (rotr x a).toNat) ∧ w' = w := by
  have ha := neg_andi64 h1 h2
  have hu : IntKind.u64.wrap ((32 - a : Nat) : Int) = ((32 - a : Nat) : Int) := by rw [IntKind.wrap_u64]; omega
  have hz : (((32 - a : Nat) : Int) == 0) = false := by simp; omega
  have hw : IntKind.u64.wrap (32 - ((32 - a : Nat) : Int)) = (a : Int) := by rw [IntKind.wrap_u64]; omega
  go_enter Try.func113, Try.ntmps113
  go_wp2
  go_ret
  refine ⟨congrArg (fun z => Ending.returned (.int .u32 z)) (rot_val h1 h2 _ _ (by omega) (by omega)), rfl⟩
/-- A word turned down by three numbers and put together; the last one moves it, if it is to. -/
def turnM (x : UInt32) (a b c : Nat) (moved : Bool) : UInt32 := xorW (xorW (rotr x a) (rotr x b)) (if moved then shrW x c else rotr x c)
theorem neg_small {a : Nat} (h2 : a ≤ 31) : IntKind.i64.wrap (-(a : Int)) = -(a : Int) := by
  have h : ∀ i : Fin 32, IntKind.i64.wrap (-(i.1 : Int)) = -(i.1 : Int) := by decide +kernel
  exact h ⟨a, by omega⟩

set_option maxRecDepth 100000 in
theorem turned_code {w : World} {x : UInt32} {a b c : Nat} (a1 : 1 ≤ a) (a2 : a ≤ 31) (b1 : 1 ≤ b) (b2 : b ≤ 31) (c1 : 1 ≤ c) (c2 : c ≤ 31) (moved : Bool) :
    Calls Try.prog 98 #[.int .u32 x.toNat, .int .i64 (a : Int), .int .i64 (b : Int), .int .i64 (c : Int), .bool moved] w fun e w' => e = .returned (.int .u32 (turnM x a b c moved).toNat) ∧ w' = w := by
  have ha := neg_small a2
  have hb := neg_small b2
  have hc := neg_small c2
  have hra := @rot_code w x a a1 a2
  have hrb := @rot_code w x b b1 b2
  have hrc := @rot_code w x c c1 c2
  have hx := w_xor (rotr x a) (rotr x b)
  cases moved
  · have hx2 := w_xor (xorW (rotr x a) (rotr x b)) (rotr x c)
    go_enter Try.func98, Try.ntmps98
    go_wp2_with (first
      | (go_at_call 114; refine hrc.mono ?_; rintro e w' ⟨rfl, rfl⟩; clear hrc)
      | (go_at_call 114; refine hra.mono ?_; rintro e w' ⟨rfl, rfl⟩; clear hra)
      | (go_at_call 114; refine hrb.mono ?_; rintro e w' ⟨rfl, rfl⟩; clear hrb))
    go_ret
    exact ⟨rfl, rfl⟩
  · have hs := w_shr x (k := c) (by omega)
    have hx2 := w_xor (xorW (rotr x a) (rotr x b)) (shrW x c)
    have hm : min c 32 = c := by omega
    go_enter Try.func98, Try.ntmps98
    go_wp2_with (first
      | (go_at_call 114; refine hra.mono ?_; rintro e w' ⟨rfl, rfl⟩; clear hra)
      | (go_at_call 114; refine hrb.mono ?_; rintro e w' ⟨rfl, rfl⟩; clear hrb))
    go_ret
    exact ⟨rfl, rfl⟩
end Go.Proofs.Ytcmgjoamfjijhaa
