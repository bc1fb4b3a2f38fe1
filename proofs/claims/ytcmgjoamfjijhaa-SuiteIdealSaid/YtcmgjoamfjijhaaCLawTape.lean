/- Draws of so many words. -/
import Derived.Test.YtcmgjoamfjijhaaCB1
import Derived.Test.YtcmgjoamfjijhaaCTy
namespace Go.Proofs.Ytcmgjoamfjijhaa
open Go.RowKit
set_option linter.unusedVariables false
set_option linter.unusedSimpArgs false

theorem u8_of {x : Int} (h0 : 0 ≤ x) (h1 : x < 256) : Value.int .u8 x = u8v (UInt8.ofNat x.toNat) := by
  simp only [u8v, UInt8.toNat_ofNat']
  congr 1
  omega
set_option maxRecDepth 100000 in
theorem law_tape {S : Nat → Prop} {w0 w : World} {L : List Ent} (h : St S w0 w L) (x : Int) (n : Nat) (hn : n ≤ 1000) :
    Calls Try.prog 19 #[.int .u32 x, .int .i64 (n : Int)] w fun e w' => ∃ (l : List UInt8) (A : Option Addr) (c : Nat), l.length = 4 * n ∧ e = .returned (.slice A (4 * n) c) ∧ St S w0 w' (eOwn 5 1 A (4 * n) c (u8s l) :: L) := by
  replace h := h.nilRow 5 1
  go_enter Try.func19, Try.ntmps19
  go_wp2
  go_loopw [5, 6] (fun v y wr => ∃ (j : Nat) (A' : Option Addr) (c' : Nat) (l : List UInt8), v = .slice A' (4 * j) c' ∧ y = .int .i64 (j : Int) ∧ j ≤ n ∧ Hid (l.length = 4 * j) ∧ St S w0 wr (eOwn 5 1 A' (4 * j) c' (u8s l) :: L)) (fun _ y _ => n - (intOf y).toNat)
  case atStart => exact ⟨0, none, 0, [], rfl, rfl, by omega, Lib.hid rfl, h⟩
  case round =>
    clear h
    obtain ⟨j, A', c', l, rfl, rfl, hj, Hl, h⟩ := hrel
    by_cases hlt : j < n
    · have f1 : (j : Int) < (n : Int) := by omega
      have hw : IntKind.u32.wrap (j : Int) = (j : Int) := by rw [IntKind.wrap_u32]; omega
      obtain ⟨y, hy⟩ : ∃ y, (x + (j : Int)) % 4294967296 = y := ⟨_, rfl⟩
      have q1 := u8_of (x := y / 16777216) (by omega) (by omega)
      have q2 := u8_of (x := y / 65536 % 256) (by omega) (by omega)
      have q3 := u8_of (x := y / 256 % 256) (by omega) (by omega)
      have q4 := u8_of (x := y % 256) (by omega) (by omega)
      have hq : [Value.int .u8 (y / 16777216), .int .u8 (y / 65536 % 256), .int .u8 (y / 256 % 256), .int .u8 (y % 256)] = u8s [UInt8.ofNat (y / 16777216).toNat, UInt8.ofNat (y / 65536 % 256).toNat, UInt8.ofNat (y / 256 % 256).toNat, UInt8.ofNat (y % 256).toNat] := by rw [q1, q2, q3, q4]; rfl
      have Hq := Lib.hid hq
      clear q1 q2 q3 q4 hq
      generalize UInt8.ofNat (y / 16777216).toNat = c1 at *
      generalize UInt8.ofNat (y / 65536 % 256).toNat = c2 at *
      generalize UInt8.ofNat (y / 256 % 256).toNat = c3 at *
      generalize UInt8.ofNat (y % 256).toNat = c4 at *
      have hr : Row (u8s [c1, c2, c3, c4]) 4 := Row.mk' rfl (u8s_one _) (by omega)
      go_wp2_with (first
        | (refine wl_runs rfl (ex_sliceN h _ 4 _ rfl [(.int .u8 (y / 16777216), [.int .u8 (y / 16777216)]), (.int .u8 (y / 65536 % 256), [.int .u8 (y / 65536 % 256)]), (.int .u8 (y / 256 % 256), [.int .u8 (y / 256 % 256)]), (.int .u8 (y % 256), [.int .u8 (y % 256)])] (by rw [← hy]; rfl) rfl (by simp [Value.cells]) (by decide) (by decide)) ?_; clear h; rintro _ w ⟨gq, rfl, h⟩; replace h : St _ _ w (eBlk gq 5 (u8s [c1, c2, c3, c4]) :: _) := (by rw [← Hq.out]; exact h))
        | (refine wl_runs rfl (ex_append h _ _ _ rfl A' rfl (some ⟨gq, 0, none⟩) 4 4 rfl (h.sl (some ⟨gq, 0, none⟩) 4 4) (u8s_one _) (by simp [maxLen]; omega) (by omega)) ?_; clear h; rintro _ w ⟨A2, c5, rfl, h⟩; rw [u8s_append] at h))
      exact ⟨⟨j + 1, A2, c5, l ++ [c1, c2, c3, c4], by rw [Nat.mul_add], by go_num, by omega, Lib.hid (by rw [List.length_append, Hl.out]; simp only [List.length_cons, List.length_nil]; omega), h.to⟩, by simp only [intOf]; omega⟩
    · have hjn : j = n := by omega
      subst hjn
      have f1 : ¬ (j : Int) < (j : Int) := by omega
      go_wp2
      go_ret
      exact ⟨l, Hl.out, A', c', rfl, h⟩
end Go.Proofs.Ytcmgjoamfjijhaa
