/- The links of a key's chain, one after another without an end. -/
import Derived.Test.YtjmjdffnakojpaaMacSum
import Derived.Test.YtjmjdffnakojpaaEver
import Derived.WalkMore
import Derived.Laws.Cover3
namespace Go.Proofs.Ytjmjdffnakojpaa
open Go.RowKit Go.Shelf
set_option linter.unusedVariables false
set_option linter.unusedSimpArgs false

def linkM (prk info : List UInt8) : Nat → List UInt8
  | 0 => []
  | k + 1 => macM prk (linkM prk info k ++ info ++ [UInt8.ofNat (k + 1)])
theorem linkM_length (prk info : List UInt8) (k : Nat) : (linkM prk info (k + 1)).length = 32 := macM_length _ _
theorem linkM_le (prk info : List UInt8) : ∀ k, (linkM prk info k).length ≤ 32
  | 0 => by simp [linkM]
  | k + 1 => by rw [linkM_length]; omega

theorem links_make {S : Nat → Prop} {w0 w : World} {L : List Ent} {prk : List UInt8} {A : Option Addr} {n c : Nat} (h : St S w0 w L) :
    Calls Try.prog 43 #[arr prk, .slice A n c] w fun e w' => ∃ gp gi, e = .returned (.func (.func 45) #[] #[.pointer (some ⟨gp, 0, none⟩), .pointer (some ⟨gi, 0, none⟩)]) ∧ St S w0 w' (eBlk gi 22 [.slice A n c] :: eBlk gp 54 (u8s prk) :: L) := by
  unfold arr
  go_enter Try.func43, Try.ntmps43
  go_wp2_with (first
    | (refine wl_runs rfl (ex_box h 54 _ rfl (u8s prk) rfl) ?_; clear h; rintro _ w ⟨gp, rfl, h⟩)
    | (refine wl_runs rfl (ex_box1s h 22 _ rfl A n c rfl) ?_; clear h; rintro _ w ⟨gi, rfl, h⟩)
    | (refine wl_reads rfl (ex_load1 h _ _ rfl _ _ rfl) ?_) | (refine wl_reads rfl (ex_load h _ _ rfl _ _ rfl) ?_) | (refine wl_runs rfl (ex_store1i h _ _ _ rfl _ _ rfl _ _ rfl) ?_; clear h; rintro _ w ⟨rfl, h⟩; try dsimp only [Act.put]) | (refine wl_runs rfl (ex_store1s h _ _ _ rfl _ _ rfl _ _ _ rfl) ?_; clear h; rintro _ w ⟨rfl, h⟩; try dsimp only [Act.put]) | (refine wl_runs rfl (ex_store1b h _ _ _ rfl _ _ rfl _ rfl) ?_; clear h; rintro _ w ⟨rfl, h⟩; try dsimp only [Act.put]) | (refine wl_runs rfl (ex_store1t h _ _ _ rfl _ _ rfl _ rfl) ?_; clear h; rintro _ w ⟨rfl, h⟩; try dsimp only [Act.put]) | (refine wl_runs rfl (ex_store1p h _ _ _ rfl _ _ rfl _ rfl) ?_; clear h; rintro _ w ⟨rfl, h⟩; try dsimp only [Act.put]) | (refine wl_runs rfl (ex_store1m h _ _ _ rfl _ _ rfl _ rfl) ?_; clear h; rintro _ w ⟨rfl, h⟩; try dsimp only [Act.put]) | (refine wl_runs rfl (ex_store h _ _ _ rfl _ _ rfl _ rfl) ?_; clear h; rintro _ w ⟨rfl, h⟩; try dsimp only [Act.put]) | (refine wl_runs rfl (ex_alloc h _ rfl) ?_; clear h; rintro _ w ⟨g, rfl, h⟩) | (refine wl_runs rfl (ex_box h _ _ rfl _ rfl) ?_; clear h; rintro _ w ⟨g, rfl, h⟩) | (refine wl_runs rfl (ex_box1i h _ _ rfl _ _ rfl) ?_; clear h; rintro _ w ⟨g, rfl, h⟩) | (refine wl_runs rfl (ex_box1s h _ _ rfl _ _ _ rfl) ?_; clear h; rintro _ w ⟨g, rfl, h⟩) | (refine wl_runs rfl (ex_box1b h _ _ rfl _ rfl) ?_; clear h; rintro _ w ⟨g, rfl, h⟩) | (refine wl_runs rfl (ex_box1t h _ _ rfl _ rfl) ?_; clear h; rintro _ w ⟨g, rfl, h⟩) | (refine wl_runs rfl (ex_box1p h _ _ rfl _ rfl) ?_; clear h; rintro _ w ⟨g, rfl, h⟩) | (refine wl_runs rfl (ex_box1m h _ _ rfl _ rfl) ?_; clear h; rintro _ w ⟨g, rfl, h⟩) | (refine wl_runs rfl (ex_slice1 h _ _ rfl _ rfl) ?_; clear h; rintro _ w ⟨g, rfl, h⟩) | (refine wl_runs rfl (ex_slice1i h _ _ rfl _ _ rfl) ?_; clear h; rintro _ w ⟨g, rfl, h⟩) | (refine wl_runs rfl (ex_slice1s h _ _ rfl _ _ _ rfl) ?_; clear h; rintro _ w ⟨g, rfl, h⟩) | (refine wl_runs rfl (ex_slice1b h _ _ rfl _ rfl) ?_; clear h; rintro _ w ⟨g, rfl, h⟩) | (refine wl_runs rfl (ex_slice1t h _ _ rfl _ rfl) ?_; clear h; rintro _ w ⟨g, rfl, h⟩) | (refine wl_runs rfl (ex_slice1p h _ _ rfl _ rfl) ?_; clear h; rintro _ w ⟨g, rfl, h⟩) | (refine wl_runs rfl (ex_slice1m h _ _ rfl _ rfl) ?_; clear h; rintro _ w ⟨g, rfl, h⟩) | (refine wl_reads rfl (ex_lit0 _ rfl) ?_))
  go_ret
  exact ⟨_, _, rfl, h⟩

/-- What the iterator lays before a round. -/
def linkAt (prk info : List UInt8) (k x : Nat) (W0 W1 : World) : Prop := W0.heap.size ≤ x ∧ Blk W1 x 25 (u8s (linkM prk info (k + 1))).toArray
def linkKeep (gp gi n : Nat) (A : Option Addr) (x i : Nat) : Prop := i = gp ∨ i = gi ∨ Ft A n i ∨ i = x

set_option maxRecDepth 100000 in
set_option maxHeartbeats 1000000 in
theorem links_ever {w : World} {prk info : List UInt8} {gp gi n c : Nat} {A : Option Addr} (hp : Sl w (some ⟨gp, 0, none⟩) 32 32 1 (u8s prk)) (hi : Sl w (some ⟨gi, 0, none⟩) 1 1 1 [.slice A n c]) (hl : Sl w A n c 1 (u8s info)) (hm : n ≤ 100000) :
    Ever Try.prog 45 #[.pointer (some ⟨gp, 0, none⟩), .pointer (some ⟨gi, 0, none⟩)] (fun x : Nat => #[.slice (some ⟨x, 0, none⟩) 32 32]) (linkAt prk info) (linkKeep gp gi n A) 255 w := by
  intro f l J Jx W hW hJ hY h0
  refine callsIn_wide.2 ?_
  have old : ∀ {B : Option Addr} {m d : Nat} {xs : List Value}, Sl w B m d 1 xs → Sl W B m d 1 xs := fun h => h.step (Step.mono (T := fun k => w.heap.size ≤ k) ⟨hW.os, hW.tape, hW.output, hW.size, fun k hk hs => hW.block k (by omega)⟩ (fun _ _ h => h)) (fun k hk h2 => by have := h.ft_lt (by omega) hk; omega)
  replace hp := old hp
  replace hi := old hi
  replace hl := old hl
  clear hW old
  go_enter Try.func45, Try.ntmps45
  go_wp2
  go_loopw [4, 5] (fun v x wr => ∃ (k : Nat) (B : Option Addr) (m d : Nat), v = .slice B m d ∧ x = .int .u8 (((k + 1) % 256 : Nat) : Int) ∧ J k wr ∧ Sl wr B m d 1 (u8s (linkM prk info k)) ∧ Sl wr (some ⟨gp, 0, none⟩) 32 32 1 (u8s prk) ∧ Sl wr (some ⟨gi, 0, none⟩) 1 1 1 [.slice A n c] ∧ Sl wr A n c 1 (u8s info)) (fun _ x _ => (256 - intOf x).toNat % 256)
  case atStart => exact ⟨0, none, 0, 0, rfl, rfl, h0, Sl.nil _ _, hp, hi, hl⟩
  case round =>
    obtain ⟨k, B, m, d, rfl, rfl, hJr, hB, hp, hi, hl⟩ := hrel
    have hk := hJ k wr hJr
    have hB2 := hB.n_eq
    have hle := linkM_le prk info k
    have hmb : m ≤ 32 := by omega
    have hl2 := hl.n_eq
    have hX : macM prk (([⟨B, m, d, linkM prk info k⟩, ⟨A, n, c, info⟩, ⟨none, 1, 1, [UInt8.ofNat (k + 1)]⟩] : List RowAt).flatMap (·.l)) = linkM prk info (k + 1) := by simp [linkM]
    have hxl := linkM_length prk info k
    have hk8 : (UInt8.ofNat (k + 1)).toNat = (k + 1) % 256 := by simp
    obtain ⟨T, hT⟩ : ∃ T, linkM prk info k = T := ⟨_, rfl⟩
    obtain ⟨X, hX2⟩ : ∃ X, linkM prk info (k + 1) = X := ⟨_, rfl⟩
    rw [hT] at hB hX hle hB2
    rw [hX2] at hX hxl
    have hrow : ∀ (B' : Option Addr), ∀ p ∈ ([⟨B, m, d, T⟩, ⟨A, n, c, info⟩, ⟨B', 1, 1, [UInt8.ofNat (k + 1)]⟩] : List RowAt), p.l.length ≤ 100000 := by
      intro B'
      simp
      omega
    have HX := Lib.hid hX
    have HX2 := Lib.hid hX2
    have Hxl := Lib.hid hxl
    have Hk8 := Lib.hid hk8
    have Hrow := Lib.hid hrow
    have hr32 : Row (u8s X) 32 := Row.mk' (by rw [u8s_length, hxl]) (u8s_one _) (by omega)
    have h := (((St.read0 hB (by omega)).reading hl (by omega) (fun k hk2 => ⟨hl.ft_lt (by omega) hk2, id⟩)).reading hi (by omega) (fun k hk2 => ⟨hi.ft_lt (by omega) hk2, id⟩)).reading hp (by omega) (fun k hk2 => ⟨hp.ft_lt (by omega) hk2, id⟩)
    have hr1 : Row (u8s [UInt8.ofNat (k + 1)]) 1 := Row.mk' rfl (u8s_one _) (by omega)
    clear hX hX2 hB2 hle hl2 hT hxl hk8 hrow
    go_wp2
    refine wp_region_K 9 (fun w' => St _ _ w' _) (by kernel_rfl) h.drew ?_; replace h := h.drew
    refine wpAnyK_pure 9 (v := ?_) (i := 0) (fuel := 8) rfl rfl (by kernel_rfl) (by kernel_rfl) (by kernel_rfl) (by decide) (fun _ _ _ h => h) (Or.inl ⟨by rfl, fun w _ => ?_⟩) ?_; rotate_left; (go_simp; with_reducible rfl); simp only [Act.put, List.setIfInBounds_toArray, List.set_cons_zero, List.set_cons_succ]
    refine wpAnyK_pure 10 (v := ?_) (i := 1) (fuel := 7) rfl rfl (by kernel_rfl) (by kernel_rfl) (by kernel_rfl) (by decide) (fun _ _ _ h => h) (Or.inl ⟨by rfl, fun w _ => ?_⟩) ?_; rotate_left; (go_simp; with_reducible rfl); simp only [Act.put, List.setIfInBounds_toArray, List.set_cons_zero, List.set_cons_succ]
    refine wpAnyK_load 11 (i := 2) (fuel := 6) rfl rfl (by kernel_rfl) (by kernel_rfl) (by kernel_rfl) (.inr (by decide)) (by decide) (fun _ _ _ h => h) rfl (fun w h => ex_load1_at _ _ rfl gi 0 rfl (.slice A n c) ((h.sl (some ⟨gi, 0, none⟩) 1 1).cellAt (i := 0) rfl)) ?_; simp only [Act.put, List.setIfInBounds_toArray, List.set_cons_zero, List.set_cons_succ]
    refine wpAnyK_pure 12 (v := ?_) (i := 3) (fuel := 5) rfl rfl (by kernel_rfl) (by kernel_rfl) (by kernel_rfl) (by decide) (fun _ _ _ h => h) (Or.inl ⟨by rfl, fun w _ => ?_⟩) ?_; rotate_left; (go_simp; with_reducible rfl); simp only [Act.put, List.setIfInBounds_toArray, List.set_cons_zero, List.set_cons_succ]
    refine wpAnyK_two (i := 4) (i2 := 7) (fuel := 4) rfl rfl (by kernel_rfl) rfl rfl (fun K hK => ?_) (fun K hK => ?_)
    focus
      refine op_runs (some 13) rfl (ex_slice1i h _ _ rfl _ _ rfl) ?_; clear h; rintro _ w ⟨gb, rfl, h⟩; replace h : St _ _ w (eBlk gb 5 (u8s [UInt8.ofNat (k + 1)]) :: _) := (by rw [show u8s [UInt8.ofNat (k + 1)] = [.int .u8 (((k + 1) % 256 : Nat) : Int)] by simp [u8s, u8v, Hk8.out]]; exact h); refine hK.out _ _ (fun _ => h.to) ?_; clear hK K
      try simp only [Act.put, List.setIfInBounds_toArray, List.set_cons_zero, List.set_cons_succ]
      refine wpAnyK_two (i := 5) (i2 := 7) (fuel := 3) rfl rfl (by kernel_rfl) rfl rfl (fun K hK => ?_) (fun K hK => ?_)
      focus
        refine op_runs (some 14) rfl (ex_sliceN h _ 3 _ rfl [(.slice B m d, [.slice B m d]), (.slice A n c, [.slice A n c]), (.slice (some ⟨gb, 0, none⟩) 1 1, [.slice (some ⟨gb, 0, none⟩) 1 1])] rfl rfl (by simp [Value.cells]) (by decide) (by decide)) ?_; clear h; rintro _ w ⟨gq, rfl, h⟩; replace h : St _ _ w (eBlk gq 22 [.slice B m d, .slice A n c, .slice (some ⟨gb, 0, none⟩) 1 1] :: _) := h; refine hK.out _ _ (fun _ => h.to) ?_; clear hK K
        try simp only [Act.put, List.setIfInBounds_toArray, List.set_cons_zero, List.set_cons_succ]
        refine wpAnyK_two (i := 6) (i2 := 7) (fuel := 2) rfl rfl (by kernel_rfl) rfl rfl (fun K hK => ?_) (fun K hK => ?_)
        focus
          (go_simp; go_wp2_with (go_at_call 25; refine (mac_code h (by decide) (by decide) (Hrow.out (some ⟨gb, 0, none⟩))).mono ?_; rw [show macM prk (([⟨B, m, d, T⟩, ⟨A, n, c, info⟩, ⟨some ⟨gb, 0, none⟩, 1, 1, [UInt8.ofNat (k + 1)]⟩] : List RowAt).flatMap (·.l)) = X from HX.out]; clear h; rintro e w ⟨rfl, h⟩)); refine hK.out _ _ (fun _ => h.to) ?_; clear hK K
          try simp only [Act.put, List.setIfInBounds_toArray, List.set_cons_zero, List.set_cons_succ]
          refine wpAnyK_one (i := 7) (fuel := 1) rfl (by kernel_rfl) rfl (fun K hK => ?_)
          refine op_runs (some 6) rfl (ex_alloc h _ rfl) ?_; clear h; rintro _ w ⟨g, rfl, h⟩; refine hK.out _ _ (fun _ => h.to) ?_; clear hK K
          try simp only [Act.put, List.setIfInBounds_toArray, List.set_cons_zero, List.set_cons_succ]
          refine wpAnyK_one (i := 8) (fuel := 0) rfl (by kernel_rfl) rfl (fun K hK => ?_)
          refine op_runs none rfl (ex_store h _ _ _ rfl _ _ rfl _ rfl) ?_; clear h; rintro _ w ⟨rfl, h⟩; refine hK.out _ _ (fun _ => h.to) ?_; clear hK K
          try simp only [Act.put, List.setIfInBounds_toArray, List.set_cons_zero, List.set_cons_succ]
          refine wpAnyK_done (by kernel_rfl) ?_
        rotate_left 1
        focus
          refine op_runs (some 6) rfl (ex_alloc h _ rfl) ?_; clear h; rintro _ w ⟨g, rfl, h⟩; refine hK.out _ _ (fun _ => h.to) ?_; clear hK K
          try simp only [Act.put, List.setIfInBounds_toArray, List.set_cons_zero, List.set_cons_succ]
          refine wpAnyK_one (i := 6) (fuel := 1) rfl (by kernel_rfl) rfl (fun K hK => ?_)
          (go_simp; go_wp2_with (go_at_call 25; refine (mac_code h (by decide) (by decide) (Hrow.out (some ⟨gb, 0, none⟩))).mono ?_; rw [show macM prk (([⟨B, m, d, T⟩, ⟨A, n, c, info⟩, ⟨some ⟨gb, 0, none⟩, 1, 1, [UInt8.ofNat (k + 1)]⟩] : List RowAt).flatMap (·.l)) = X from HX.out]; clear h; rintro e w ⟨rfl, h⟩)); refine hK.out _ _ (fun _ => h.to) ?_; clear hK K
          try simp only [Act.put, List.setIfInBounds_toArray, List.set_cons_zero, List.set_cons_succ]
          refine wpAnyK_one (i := 8) (fuel := 0) rfl (by kernel_rfl) rfl (fun K hK => ?_)
          refine op_runs none rfl (ex_store h _ _ _ rfl _ _ rfl _ rfl) ?_; clear h; rintro _ w ⟨rfl, h⟩; refine hK.out _ _ (fun _ => h.to) ?_; clear hK K
          try simp only [Act.put, List.setIfInBounds_toArray, List.set_cons_zero, List.set_cons_succ]
          refine wpAnyK_done (by kernel_rfl) ?_
        rotate_left 1
      rotate_left 2
      focus
        refine op_runs (some 6) rfl (ex_alloc h _ rfl) ?_; clear h; rintro _ w ⟨g, rfl, h⟩; refine hK.out _ _ (fun _ => h.to) ?_; clear hK K
        try simp only [Act.put, List.setIfInBounds_toArray, List.set_cons_zero, List.set_cons_succ]
        refine wpAnyK_one (i := 5) (fuel := 2) rfl (by kernel_rfl) rfl (fun K hK => ?_)
        refine op_runs (some 14) rfl (ex_sliceN h _ 3 _ rfl [(.slice B m d, [.slice B m d]), (.slice A n c, [.slice A n c]), (.slice (some ⟨gb, 0, none⟩) 1 1, [.slice (some ⟨gb, 0, none⟩) 1 1])] rfl rfl (by simp [Value.cells]) (by decide) (by decide)) ?_; clear h; rintro _ w ⟨gq, rfl, h⟩; replace h : St _ _ w (eBlk gq 22 [.slice B m d, .slice A n c, .slice (some ⟨gb, 0, none⟩) 1 1] :: _) := h; refine hK.out _ _ (fun _ => h.to) ?_; clear hK K
        try simp only [Act.put, List.setIfInBounds_toArray, List.set_cons_zero, List.set_cons_succ]
        refine wpAnyK_one (i := 6) (fuel := 1) rfl (by kernel_rfl) rfl (fun K hK => ?_)
        (go_simp; go_wp2_with (go_at_call 25; refine (mac_code h (by decide) (by decide) (Hrow.out (some ⟨gb, 0, none⟩))).mono ?_; rw [show macM prk (([⟨B, m, d, T⟩, ⟨A, n, c, info⟩, ⟨some ⟨gb, 0, none⟩, 1, 1, [UInt8.ofNat (k + 1)]⟩] : List RowAt).flatMap (·.l)) = X from HX.out]; clear h; rintro e w ⟨rfl, h⟩)); refine hK.out _ _ (fun _ => h.to) ?_; clear hK K
        try simp only [Act.put, List.setIfInBounds_toArray, List.set_cons_zero, List.set_cons_succ]
        refine wpAnyK_one (i := 8) (fuel := 0) rfl (by kernel_rfl) rfl (fun K hK => ?_)
        refine op_runs none rfl (ex_store h _ _ _ rfl _ _ rfl _ rfl) ?_; clear h; rintro _ w ⟨rfl, h⟩; refine hK.out _ _ (fun _ => h.to) ?_; clear hK K
        try simp only [Act.put, List.setIfInBounds_toArray, List.set_cons_zero, List.set_cons_succ]
        refine wpAnyK_done (by kernel_rfl) ?_
      rotate_left 1
    rotate_left 3
    focus
      refine op_runs (some 6) rfl (ex_alloc h _ rfl) ?_; clear h; rintro _ w ⟨g, rfl, h⟩; refine hK.out _ _ (fun _ => h.to) ?_; clear hK K
      try simp only [Act.put, List.setIfInBounds_toArray, List.set_cons_zero, List.set_cons_succ]
      refine wpAnyK_one (i := 4) (fuel := 3) rfl (by kernel_rfl) rfl (fun K hK => ?_)
      refine op_runs (some 13) rfl (ex_slice1i h _ _ rfl _ _ rfl) ?_; clear h; rintro _ w ⟨gb, rfl, h⟩; replace h : St _ _ w (eBlk gb 5 (u8s [UInt8.ofNat (k + 1)]) :: _) := (by rw [show u8s [UInt8.ofNat (k + 1)] = [.int .u8 (((k + 1) % 256 : Nat) : Int)] by simp [u8s, u8v, Hk8.out]]; exact h); refine hK.out _ _ (fun _ => h.to) ?_; clear hK K
      try simp only [Act.put, List.setIfInBounds_toArray, List.set_cons_zero, List.set_cons_succ]
      refine wpAnyK_one (i := 5) (fuel := 2) rfl (by kernel_rfl) rfl (fun K hK => ?_)
      refine op_runs (some 14) rfl (ex_sliceN h _ 3 _ rfl [(.slice B m d, [.slice B m d]), (.slice A n c, [.slice A n c]), (.slice (some ⟨gb, 0, none⟩) 1 1, [.slice (some ⟨gb, 0, none⟩) 1 1])] rfl rfl (by simp [Value.cells]) (by decide) (by decide)) ?_; clear h; rintro _ w ⟨gq, rfl, h⟩; replace h : St _ _ w (eBlk gq 22 [.slice B m d, .slice A n c, .slice (some ⟨gb, 0, none⟩) 1 1] :: _) := h; refine hK.out _ _ (fun _ => h.to) ?_; clear hK K
      try simp only [Act.put, List.setIfInBounds_toArray, List.set_cons_zero, List.set_cons_succ]
      refine wpAnyK_one (i := 6) (fuel := 1) rfl (by kernel_rfl) rfl (fun K hK => ?_)
      (go_simp; go_wp2_with (go_at_call 25; refine (mac_code h (by decide) (by decide) (Hrow.out (some ⟨gb, 0, none⟩))).mono ?_; rw [show macM prk (([⟨B, m, d, T⟩, ⟨A, n, c, info⟩, ⟨some ⟨gb, 0, none⟩, 1, 1, [UInt8.ofNat (k + 1)]⟩] : List RowAt).flatMap (·.l)) = X from HX.out]; clear h; rintro e w ⟨rfl, h⟩)); refine hK.out _ _ (fun _ => h.to) ?_; clear hK K
      try simp only [Act.put, List.setIfInBounds_toArray, List.set_cons_zero, List.set_cons_succ]
      refine wpAnyK_one (i := 8) (fuel := 0) rfl (by kernel_rfl) rfl (fun K hK => ?_)
      refine op_runs none rfl (ex_store h _ _ _ rfl _ _ rfl _ rfl) ?_; clear h; rintro _ w ⟨rfl, h⟩; refine hK.out _ _ (fun _ => h.to) ?_; clear hK K
      try simp only [Act.put, List.setIfInBounds_toArray, List.set_cons_zero, List.set_cons_succ]
      refine wpAnyK_done (by kernel_rfl) ?_
    rotate_left 1
    all_goals
      have hbx : Blk w g 25 (u8s X).toArray := h.blk g
      have hgx : wr.heap.size ≤ g := (h.foot (eBlk g 25 (u8s X)) (by simp) g rfl).resolve_left id
      have hst := h.step
      obtain ⟨fn, tmps, assign, body, hy, hR⟩ := hY k g wr w hJr hst ⟨hgx, by rw [HX2.out]; exact hbx⟩
      have hp4 : Sl w (some ⟨gp, 0, none⟩) 32 32 1 (u8s prk) := h.sl (some ⟨gp, 0, none⟩) 32 32
      have hi4 : Sl w (some ⟨gi, 0, none⟩) 1 1 1 [.slice A n c] := h.sl (some ⟨gi, 0, none⟩) 1 1
      have hl4 : Sl w A n c 1 (u8s info) := h.sl A n c
      have hx4 : Sl w (some ⟨g, 0, none⟩) 32 32 1 (u8s X) := h.sl (some ⟨g, 0, none⟩) 32 32
      clear h hY hp hi hl hB
      go_upto_region 5 with (fail)
      refine (wpIn_wide (n := f)).1 ?_
      gi_wp2
      refine ⟨fun h => (by cases h), hR.mono ?_⟩
      rintro e W3 (⟨rfl, hJ3, hk3⟩ | ⟨rfl, hJx3⟩)
      · have hk1 := hJ _ _ hJ3
        have hp5 := hk3.sl hp4 (fun i hi => by obtain ⟨_, a, ha, rfl⟩ := hi; cases ha; exact .inl rfl)
        have hi5 := hk3.sl hi4 (fun i hi => by obtain ⟨_, a, ha, rfl⟩ := hi; cases ha; exact .inr (.inl rfl))
        have hl5 := hk3.sl hl4 (fun i hi => .inr (.inr (.inl hi)))
        have hx5 := hk3.sl hx4 (fun i hi => by obtain ⟨_, a, ha, rfl⟩ := hi; cases ha; exact .inr (.inr (.inr rfl)))
        gi_wp2
        go_wp2
        exact ⟨⟨k + 1, _, 32, 32, rfl, congrArg (Value.int .u8) (by push_cast; omega), hJ3, by rw [HX2.out]; exact hx5, hp5, hi5, hl5⟩, by simp only [intOf]; omega⟩
      · gi_wp2
        go_wp2
        refine bodyPost_ret (results_none rfl _ _ _) rfl ?_
        exact ⟨⟨_, rfl⟩, _, hJx3⟩
end Go.Proofs.Ytjmjdffnakojpaa
