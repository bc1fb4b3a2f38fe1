/- The sum of a text. -/
import Derived.Test.YtcmgjoamfjijhaaCBlocks
import Derived.Test.YtcmgjoamfjijhaaCCompr
import Derived.Test.YtcmgjoamfjijhaaCTold
namespace Go.Proofs.Ytcmgjoamfjijhaa
open Go.RowKit Go.Shelf

def foldM (pre : List B64) : List UInt32 := pre.foldl (fun H x => compM H x.1) firstM
theorem foldM_length (pre : List B64) : (foldM pre).length = 8 := by
  have h : ∀ (pre : List B64) (H : List UInt32), H.length = 8 → (pre.foldl (fun H x => compM H x.1) H).length = 8 := by
    intro pre
    induction pre with
    | nil => intro H h; exact h
    | cons x pre ih => intro H h; exact ih _ (by rw [compM_length]; exact h)
  exact h pre firstM rfl
theorem foldM_snoc (pre : List B64) (x : B64) : foldM (pre ++ [x]) = compM (foldM pre) x.1 := by simp [foldM]
def sumM (l : List UInt8) : List UInt8 := toldM (foldM (blocksM l))
theorem sumM_length (l : List UInt8) : (sumM l).length = 32 := toldM_length _

/-- What holds between the rounds. -/
def SumRel (w : World) (hb : Nat) (pre : List B64) (W : World) : Prop :=
  Blk W hb 131 (w32s (foldM pre)).toArray ∧ Blk W w.heap.size 49 (u8s (zeros 32)).toArray ∧ Step (fun _ => False) w W
def SumAx (t : Array Value) (x : B64) (a' : Act) (W : World) : Prop :=
  ∃ b1, a' = { tmps := [(8, arr x.1), (4, .pointer (some ⟨b1, 0, none⟩))].foldl (fun (t : Array Value) (p : Nat × Value) => t.setIfInBounds p.1 p.2) t, defers := [] } ∧ Blk W b1 120 (u8s x.1).toArray
attribute [local go_sem] Oper.semAt_some
theorem block_zero : (Try.prog.info? 120).map (·.zero) = some (some (arr (zeros 64))) := by kernel_rfl

set_option maxRecDepth 100000 in
set_option maxHeartbeats 1000000 in
theorem sum_code {w : World} {l : List UInt8} {A : Option Addr} {n c : Nat} (hl : Sl w A n c 1 (u8s l)) (hm : n ≤ 100000000) :
    Calls Try.prog 46 #[.slice A n c] w fun e w' => e = .returned (arr (sumM l)) ∧ Step (fun _ => False) w w' := by
  have hA := Lib.hid True.intro
  have hf8 : (w32s firstM).length = 8 := rfl
  have Hf8 := Lib.hid hf8
  clear hf8
  refine callsIn_wide.1 (callsIn_of_wp_marks (F := Fence.wide) (n := 3) Try.func46 rfl trivial ?_ rfl)
  simp only [Try.ntmps46, List.size_toArray, List.length_cons, List.length_nil, Nat.reduceAdd, Nat.reduceSub, Array.replicate_succ, Array.replicate_zero, List.push_toArray, List.append_toArray, List.nil_append, List.cons_append]
  refine wpIn_wide.2 ?_
  go_wp2_with (first
    | (clear hA; refine wl_alloc rfl 49 rfl _ id_zero2 ?_; intro w1 hb1 hS1 hw; clear hw; have hz1 := hb1.lt; replace hb1 : Blk w1 w.heap.size 49 (u8s (zeros 32)).toArray := hb1)
    | (go_at_call 72; refine first_code.mono ?_; rintro e w2 ⟨rfl, hS2⟩; have hz2 := hS2.size)
    | (refine wl_alloc rfl 131 rfl _ eight_zero ?_; intro w3 hb3 hS3 hw; clear hw; have hz3 := hb3.lt; replace hb3 : Blk w3 w2.heap.size 131 (w32s (List.replicate 8 0)).toArray := hb3)
    | (refine wl_store_all rfl 131 _ _ rfl w2.heap.size rfl (w32s firstM) rfl (by rw [eight_size, Hf8.out]) (w32s_one _) 131 _ hb3 (by rw [List.size_toArray, w32s_length, Hf8.out, List.length_replicate]) ?_; intro w4 hb4 hS4 hz; have hz4 := hS4.size; clear hz)
    | (go_at_call 73; refine blocks_make.mono ?_; rintro r w5 ⟨rfl, hc5, hS5, hz5⟩))
  have hS03 : Step (fun _ => False) w w3 := (hS1.tr hS2).tr hS3
  have hS04 : Step (fun _ => False) w w4 := hS03.trans hS4 (fun i hi e => by omega)
  have hS05 : Step (fun _ => False) w w5 := hS04.tr hS5
  have hb5 : Blk w5 w2.heap.size 131 (w32s firstM).toArray := hb4.step hS5 id
  have hr5 : Blk w5 w.heap.size 49 (u8s (zeros 32)).toArray := (((hb1.step hS2 id).step hS3 id).step hS4 (by omega)).step hS5 id
  have hzw : w.heap.size < w2.heap.size := by omega
  have hz24 : w2.heap.size < w4.heap.size := by omega
  have hft : ∀ k, Ft A n k → k < w.heap.size := fun k hk => hl.ft_lt (by omega) hk
  refine wp_range_ax rfl (enters_of Try.func95 (by kernel_rfl) rfl) (blocks_tells (Bn := w4.heap.size) hc5 (hl.keep hS05) hm) (fun _ => rfl)
    (SumRel w w2.heap.size) (fun _ _ _ => False) ?hI ?hIx ?h0 SumAx ?hAx ?assign ?body ?done ?stop
  case hI =>
    rintro pre W1 W2 ⟨h1, h2, h3⟩ hL
    exact ⟨hL.blk h1, hL.blk h2, hL.step h3 hS05.size⟩
  case hIx =>
    rintro cc pre W1 W2 h hL
    exact h
  case h0 => exact ⟨hb5, hr5, hS05⟩
  case hAx =>
    rintro x a' W1 W2 ⟨b1, h1, h4⟩ hL
    exact ⟨b1, h1, hL.blk h4⟩
  case assign =>
    rintro l pre x W M ⟨h1, h2, h3⟩ hK
    rw [zip1]
    simp only [List.setIfInBounds_toArray, List.set_cons_succ, List.set_cons_zero]
    have hx := x.2
    have Hx := Lib.hid hx
    clear hx
    gi_wp2_with (first
      | (refine wi_alloc rfl 120 rfl _ block_zero ?_; intro w6 hb6 hS6)
      | (refine wi_store_all rfl 120 _ _ rfl W.heap.size rfl (u8s x.1) rfl (by rw [block_size3, u8s_length, Hx.out]) (u8s_one _) 120 _ hb6 (by rw [arr_size, zeros_length, u8s_length, Hx.out]) ?_; intro w7 hb7 hS7))
    have hSW : Step (fun _ => False) W w7 := hS6.trans hS7 (fun i hi e => by omega)
    exact hK _ _ (hSW.keepsFrom (fun _ _ h => h.elim)) (hSW.keeps (fun _ _ h => h)) ⟨h1.step hSW id, h2.step hSW id, h3.tr hSW⟩ ⟨W.heap.size, rfl, hb7⟩
  case body =>
    rintro l pre x a' W ⟨h1, h2, h3⟩ ⟨b1, rfl, hb1'⟩ hlen
    simp only [List.foldl_cons, List.foldl_nil, List.setIfInBounds_toArray, List.set_cons_succ, List.set_cons_zero]
    have hH := foldM_length pre
    have hsn := foldM_snoc pre x
    generalize foldM pre = H at *
    have HH := Lib.hid hH
    have Hsn := Lib.hid hsn
    have hx := x.2
    have Hx := Lib.hid hx
    clear hH hsn hx
    have hcH : Cells W w2.heap.size 0 (w32s H) := h1.cells
    have hcx : Cells W b1 0 (u8s x.1) := hb1'.cells
    gi_wp2_with (first
      | (refine wi_load rfl 131 _ rfl w2.heap.size 0 rfl (w32s H) _ Try.underlying131 rfl (by rw [eight_size, w32s_length, HH.out]) hcH ?_)
      | (refine wi_load rfl 120 _ rfl b1 0 rfl (u8s x.1) _ Try.underlying120 rfl (by rw [block_size3, u8s_length, Hx.out]) hcx ?_)
      | (refine ⟨trivial, ?_⟩; gi_at_call 74; refine (CallsIn.inRound l (callsIn_wide.2 (compr_code Hx.out HH.out))).mono ?_; rintro r w6 ⟨rfl, hS6⟩)
      | (refine wi_store_all rfl 131 _ _ rfl w2.heap.size rfl (w32s (compM H x.1)) rfl (by rw [eight_size, w32s_length, compM_length, HH.out]) (w32s_one _) 131 _ (h1.step hS6 id) (by rw [List.size_toArray, w32s_length, w32s_length, compM_length]) ?_; intro w7 hb7 hS7))
    have hS67 : Step (fun k => k = w2.heap.size) W w7 := (hS6.mono (T := fun k => k = w2.heap.size) (fun _ _ h => h.elim)).tr hS7
    refine ⟨hS67.keepsFrom (fun k o hk ho => by subst hk; exact h1.isCells ho), hS67.keeps (fun k hk e => ?_), ?_, h2.step hS67 (by omega), h3.trans hS67 (fun i hi e => by omega)⟩
    · rcases hk with h | h | h
      · omega
      · have := hft k h; omega
      · have := hS5.size; omega
    · rw [Hsn.out]
      exact hb7
  case done =>
    rintro D W hD ⟨h1, h2, h3⟩ hK
    have hH := foldM_length (blocksM l)
    have hsum : sumM l = toldM (foldM (blocksM l)) := rfl
    have htl := toldM_length (foldM (blocksM l))
    generalize foldM (blocksM l) = H at *
    have HH := Lib.hid hH
    have Hsum := Lib.hid hsum
    have Htl := Lib.hid htl
    clear hH hsum htl
    have hcH : Cells W w2.heap.size 0 (w32s H) := h1.cells
    go_wp2_with (first
      | (refine wl_load rfl 131 _ rfl w2.heap.size 0 rfl (w32s H) _ Try.underlying131 rfl (by rw [eight_size, w32s_length, HH.out]) hcH ?_)
      | (go_at_call 75; refine (told_code HH.out).mono ?_; rintro r w6 ⟨rfl, hS6⟩)
      | (refine wl_store_all rfl 49 _ _ rfl w.heap.size rfl (u8s (toldM H)) rfl (by rw [id_size2, u8s_length, Htl.out]) (u8s_one _) 49 _ (h2.step hS6 id) (by rw [List.size_toArray, u8s_length, u8s_length, Htl.out, zeros_length]) ?_; intro w7 hb7 hS7 hz; clear hz))
    have hS67 : Step (fun k => k = w.heap.size) W w7 := (hS6.mono (T := fun k => k = w.heap.size) (fun _ _ h => h.elim)).tr hS7
    have hK' : w7.heap[D]? = some (.deferred (some [])) := by
      rw [hS67.block D (Array.getElem?_eq_some_iff.1 hK).1 (by have := hS05.size; omega)]
      exact hK
    have hL := loose_put (B := w.heap.size) (.deferred none) (by have := hS05.size; omega) hK' rfl
    have hc7 : Cells (w7.putObj D (.deferred none)) w.heap.size 0 (u8s (toldM H)) := (hL.blk hb7).cells
    refine ret_mark hK' rfl (res_cell1 rfl rfl (run_loadVar_agg Try.underlying49 rfl (by rw [id_size2, u8s_length, Htl.out]) hc7)) ⟨?_, hL.step (h3.trans hS67 (fun i hi e => by omega)) (Nat.le_refl _)⟩
    rw [Hsum.out]
    rfl
  case stop =>
    rintro D cc pre W hD hp h hK
    exact h.elim
end Go.Proofs.Ytcmgjoamfjijhaa
