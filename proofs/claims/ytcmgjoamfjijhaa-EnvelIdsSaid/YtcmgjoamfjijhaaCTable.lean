/- The constants of the rounds; the words that a sum begins with. -/
import Derived.Test.YtcmgjoamfjijhaaCSched
import Derived.Test.YtcmgjoamfjijhaaCB1
namespace Go.Proofs.Ytcmgjoamfjijhaa
open Go.RowKit

def kT : List UInt32 := [1116352408, 1899447441, 3049323471, 3921009573, 961987163, 1508970993, 2453635748, 2870763221, 3624381080, 310598401, 607225278, 1426881987, 1925078388, 2162078206, 2614888103, 3248222580, 3835390401, 4022224774, 264347078, 604807628, 770255983, 1249150122, 1555081692, 1996064986, 2554220882, 2821834349, 2952996808, 3210313671, 3336571891, 3584528711, 113926993, 338241895, 666307205, 773529912, 1294757372, 1396182291, 1695183700, 1986661051, 2177026350, 2456956037, 2730485921, 2820302411, 3259730800, 3345764771, 3516065817, 3600352804, 4094571909, 275423344, 430227734, 506948616, 659060556, 883997877, 958139571, 1322822218, 1537002063, 1747873779, 1955562222, 2024104815, 2227730452, 2361852424, 2428436474, 2756734187, 3204031479, 3329325298]
theorem kT_length : kT.length = 64 := rfl
def firstM : List UInt32 := [1779033703, 3144134277, 1013904242, 2773480762, 1359893119, 2600822924, 528734635, 1541459225]
theorem firstM_length : firstM.length = 8 := rfl
theorem eight_zero : (Try.prog.info? 131).map (·.zero) = some (some (.agg (w32s (List.replicate 8 0)).toArray)) := by kernel_rfl
theorem eight_size : (Try.prog.info? 131).map (·.size) = some 8 := by kernel_rfl

set_option maxRecDepth 100000 in
theorem table_code {w : World} : Calls Try.prog 97 #[] w fun e w' => ∃ g, e = .returned (.pointer (some ⟨g, 0, none⟩)) ∧ Blk w' g 161 (w32s kT).toArray ∧ w.heap.size ≤ g ∧ Step (fun _ => False) w w' := by
  generalize hk : w32s kT = ks at ⊢
  have Hk := Lib.hid hk
  clear hk
  go_enter Try.func97, Try.ntmps97
  go_wp2_with (first
    | (refine wl_build rfl 161 _ rfl ks.toArray (by rw [← Hk.out]; kernel_rfl) ?_)
    | (refine wl_box rfl 161 (.tmp 1) rfl (.agg ks.toArray) rfl ?_; intro w1 hb1 hS1 hw; clear hw))
  go_ret
  exact ⟨_, rfl, hb1, Nat.le_refl _, hS1⟩

set_option maxRecDepth 100000 in
theorem table_ref {w : World} : Calls Try.prog 118 #[] w fun e w' => e = .returned (.agg (w32s kT).toArray) ∧ Step (fun _ => False) w w' := by
  have hl : (w32s kT).length = 64 := by rw [w32s_length, kT_length]
  have h1 := w32s_one kT
  generalize hk : w32s kT = ks at hl h1 ⊢
  have Hk := Lib.hid hk
  have Hl := Lib.hid hl
  clear hk hl
  go_enter Try.func118, Try.ntmps118
  go_wp2_with (first
    | (refine wl_alloc rfl 161 rfl _ words_zero ?_; intro w1 hb1 hS1 hw; clear hw; replace hb1 : Blk w1 w.heap.size 161 (w32s (List.replicate 64 0)).toArray := hb1)
    | (refine wl_build rfl 161 _ rfl ks.toArray (by rw [← Hk.out]; kernel_rfl) ?_)
    | (refine wl_store_all rfl 161 _ _ rfl w.heap.size rfl ks rfl (by rw [words_size, Hl.out]) h1 161 _ hb1 (by rw [List.size_toArray, w32s_length, Hl.out, List.length_replicate]) ?_; intro w2 hb2 hS2 hz; clear hz))
  have hc2 : Cells w2 w.heap.size 0 ks := hb2.cells
  refine bodyPost_ret (res_cell1 rfl rfl (run_loadVar_agg Try.underlying161 rfl (by rw [words_size, Hl.out]) hc2)) rfl ?_
  exact ⟨rfl, hS1.trans hS2 (fun i hi e => by omega)⟩

set_option maxRecDepth 100000 in
theorem first_code {w : World} : Calls Try.prog 72 #[] w fun e w' => e = .returned (.agg (w32s firstM).toArray) ∧ Step (fun _ => False) w w' := by
  have hl : (w32s firstM).length = 8 := by rw [w32s_length, firstM_length]
  have h1 := w32s_one firstM
  generalize hk : w32s firstM = ks at hl h1 ⊢
  have Hk := Lib.hid hk
  have Hl := Lib.hid hl
  clear hk hl
  go_enter Try.func72, Try.ntmps72
  go_wp2_with (first
    | (refine wl_alloc rfl 131 rfl _ eight_zero ?_; intro w1 hb1 hS1 hw; clear hw; replace hb1 : Blk w1 w.heap.size 131 (w32s (List.replicate 8 0)).toArray := hb1)
    | (refine wl_build rfl 131 _ rfl ks.toArray (by rw [← Hk.out]; kernel_rfl) ?_)
    | (refine wl_store_all rfl 131 _ _ rfl w.heap.size rfl ks rfl (by rw [eight_size, Hl.out]) h1 131 _ hb1 (by rw [List.size_toArray, w32s_length, Hl.out, List.length_replicate]) ?_; intro w2 hb2 hS2 hz; clear hz))
  have hc2 : Cells w2 w.heap.size 0 ks := hb2.cells
  refine bodyPost_ret (res_cell1 rfl rfl (run_loadVar_agg Try.underlying131 rfl (by rw [eight_size, Hl.out]) hc2)) rfl ?_
  exact ⟨rfl, hS1.trans hS2 (fun i hi e => by omega)⟩
end Go.Proofs.Ytcmgjoamfjijhaa
