/- Words as bytes, the lowest ahead. -/
import Derived.Test.YtcmgjoamfjijhaaCTold
import Derived.Test.YtcmgjoamfjijhaaCB1
import Derived.Test.YtcmgjoamfjijhaaCTy
import Derived.Test.YtcmgjoamfjijhaaCB2
namespace Go.Proofs.Ytcmgjoamfjijhaa
open Go.RowKit
set_option linter.unusedVariables false
set_option linter.unusedSimpArgs false

/-- A word's bytes, the lowest ahead. -/
def le4 (x : Nat) : List UInt8 := [UInt8.ofNat x, UInt8.ofNat (x / 256), UInt8.ofNat (x / 65536), UInt8.ofNat (x / 16777216)]
theorem le4_length (x : Nat) : (le4 x).length = 4 := rfl
def bytesM (l : List UInt32) : List UInt8 := l.flatMap fun x => le4 x.toNat
theorem bytesM_length (l : List UInt32) : (bytesM l).length = 4 * l.length := by
  induction l with
  | nil => rfl
  | cons x l ih => rw [bytesM, List.flatMap_cons, List.length_append, ← bytesM, ih, le4_length, List.length_cons]; omega
theorem bytesM_succ (l : List UInt32) {j : Nat} (h : j < l.length) : bytesM (l.take (j + 1)) = bytesM (l.take j) ++ le4 (l[j]).toNat := by
  rw [List.take_succ_eq_append_getElem h, bytesM, List.flatMap_append, List.flatMap_cons, List.flatMap_nil, List.append_nil]; rfl
instance (x : Nat) : Row (u8s (le4 x)) 4 := Row.mk' rfl (u8s_one _) (by omega)
theorem u8s_le4 (x : Nat) : u8s (le4 x) = [.int .u8 ((x : Int) % 256), .int .u8 ((x : Int) / 256 % 256), .int .u8 ((x : Int) / 65536 % 256), .int .u8 ((x : Int) / 16777216 % 256)] := by
  simp only [le4, u8s, u8v, List.map_cons, List.map_nil, UInt8.toNat_ofNat', Int.natCast_emod, Int.natCast_ediv]
  rfl
set_option maxRecDepth 100000 in
set_option maxHeartbeats 1000000 in
theorem vbytes_code {S : Nat → Prop} {w0 w : World} {L : List Ent} {A : Option Addr} {n c : Nat} {l : List UInt32} (h : St S w0 w L) [ka : HasSl L A n c 1 (w32s l)] (hn : n ≤ 100000) :
    Calls Try.prog 54 #[.slice A n c] w fun e w' => ∃ A' c', e = .returned (.slice A' (4 * n) c') ∧ St S w0 w' (eOwn 5 1 A' (4 * n) c' (u8s (bytesM l)) :: L) := by
  have hl : l.length = n := by have := (h.sl A n c).len; simp [w32s] at this; omega
  have Hl := Lib.hid hl
  clear hl
  go_enter Try.func54, Try.ntmps54
  go_wp2_with (first
    | (refine wl_runs rfl (ex_make0 h _ _ _ rfl (4 * n) rfl (by push_cast; rfl) (by omega) (by simp [maxLen]; omega)) ?_; clear h; rintro _ w ⟨g, rfl, h⟩))
  go_loopw [3, 12] (fun v x wr => ∃ (j : Nat) (A' : Option Addr) (c' : Nat), v = .slice A' (4 * j) c' ∧ x = .int .i64 (j : Int) ∧ j ≤ n ∧ St S w0 wr (eOwn 5 1 A' (4 * j) c' (u8s (bytesM (l.take j))) :: L)) (fun _ x _ => n - (intOf x).toNat)
  case atStart => exact ⟨0, _, 4 * n, rfl, rfl, by omega, h⟩
  case round =>
    clear h
    obtain ⟨j, A', c', rfl, rfl, hj, h⟩ := hrel
    by_cases hlt : j < n
    · have hjl : j < l.length := by rw [Hl.out]; exact hlt
      have hbs := bytesM_succ l hjl
      obtain ⟨b, off, rfl, _⟩ := (h.sl A n c).pos (by omega)
      have hc : wr.cell? ⟨b, off + j, none⟩ = some (.int .u32 ((l[j]).toNat : Int)) := (h.sl (some ⟨b, off, none⟩) n c).cellAt (by rw [w32s, List.getElem?_map, List.getElem?_eq_getElem hjl]; rfl)
      generalize (l[j]).toNat = x at *
      have Hbs := Lib.hid hbs
      have Hle := Lib.hid (u8s_le4 x)
      have f1 : (j : Int) < (n : Int) := by omega
      clear hbs
      go_wp2_with (first
        | (refine wl_reads rfl (ex_load1_at _ _ rfl b (off + j) rfl _ hc) ?_)
        | (refine wl_runs rfl (ex_sliceN h _ 4 _ rfl [(.int .u8 ((x : Int) % 256), [.int .u8 ((x : Int) % 256)]), (.int .u8 ((x : Int) / 256 % 256), [.int .u8 ((x : Int) / 256 % 256)]), (.int .u8 ((x : Int) / 65536 % 256), [.int .u8 ((x : Int) / 65536 % 256)]), (.int .u8 ((x : Int) / 16777216 % 256), [.int .u8 ((x : Int) / 16777216 % 256)])] rfl rfl (by simp [Value.cells]) (by decide) (by decide)) ?_; clear h; rintro _ w ⟨gq, rfl, h⟩; replace h : St _ _ w (eBlk gq 5 (u8s (le4 x)) :: _) := (by rw [Hle.out]; exact h))
        | (refine wl_runs rfl (ex_append h _ _ _ rfl A' rfl (some ⟨gq, 0, none⟩) 4 4 rfl (h.sl (some ⟨gq, 0, none⟩) 4 4) (u8s_one _) (by simp [maxLen]; omega) (by omega)) ?_; clear h; rintro _ w ⟨A2, c2, rfl, h⟩; rw [u8s_append, ← Hbs.out] at h))
      exact ⟨⟨j + 1, A2, c2, by rw [Nat.mul_add], by go_num, by omega, h.to⟩, by simp only [intOf]; omega⟩
    · have hjn : j = n := by omega
      subst hjn
      rw [List.take_of_length_le (by rw [Hl.out]; exact Nat.le_refl _)] at h
      have f1 : ¬ (j : Int) < (j : Int) := by omega
      go_wp2
      go_ret
      exact ⟨A', c', rfl, h⟩
end Go.Proofs.Ytcmgjoamfjijhaa
