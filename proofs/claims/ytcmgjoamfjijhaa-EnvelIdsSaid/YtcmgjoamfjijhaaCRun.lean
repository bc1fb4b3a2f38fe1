/- A sum in pieces: Begin, More. -/
import Derived.Test.YtcmgjoamfjijhaaCB3
import Derived.Test.YtcmgjoamfjijhaaCB1
import Derived.Test.YtcmgjoamfjijhaaCSum
namespace Go.Proofs.Ytcmgjoamfjijhaa
open Go.RowKit
set_option linter.unusedVariables false
set_option linter.unusedSimpArgs false

/-- The words behind so many blocks. -/
def hashN (F : List UInt8) (k : Nat) : List UInt32 := (List.range k).foldl (fun H i => compM H (chunkM F i)) firstM
theorem hashN_succ (F : List UInt8) (k : Nat) : hashN F (k + 1) = compM (hashN F k) (chunkM F k) := by simp [hashN, List.range_succ]
theorem hashN_length (F : List UInt8) (k : Nat) : (hashN F k).length = 8 := by
  induction k with
  | zero => rfl
  | succ k ih => rw [hashN_succ, compM_length, ih]
instance (F : List UInt8) (k : Nat) : Row (w32s (hashN F k)) 8 := Row.mk' (by rw [w32s_length, hashN_length]) (w32s_one _) (by omega)
instance (H : List UInt32) (b : List UInt8) [h : Row (w32s H) 8] : Row (w32s (compM H b)) 8 := Row.mk' (by rw [w32s_length, compM_length]; have := h.len; rwa [w32s_length] at this) (w32s_one _) (by omega)
instance : Row (w32s firstM) 8 := Row.mk' rfl (w32s_one _) (by omega)
instance (h : List UInt32) : Row (u8s (toldM h)) 32 := Row.mk' (by rw [u8s_length, toldM_length]) (u8s_one _) (by omega)
instance (l : List UInt8) : Row (u8s (sumM l)) 32 := Row.mk' (by rw [u8s_length, sumM_length]) (u8s_one _) (by omega)
theorem chunkM_append {F G : List UInt8} {k : Nat} (h : 64 * k + 64 ≤ F.length) : chunkM (F ++ G) k = chunkM F k := by
  rw [chunkM, chunkM, List.drop_append_of_le_length (by omega), List.take_append_of_le_length (by simp; omega)]
theorem hashN_append {F G : List UInt8} : ∀ {k : Nat}, 64 * k ≤ F.length → hashN (F ++ G) k = hashN F k
  | 0, _ => by simp [hashN]
  | k + 1, h => by rw [hashN_succ, hashN_succ, hashN_append (by omega), chunkM_append (by omega)]

/-- A running sum of a text. -/
def eRun (g : Nat) (A : Option Addr) (n c : Nat) (all : List UInt8) : Ent :=
  eStar (eBlk g 158 (c_sha_Running (w32s (hashN all (all.length / 64))) (.slice A n c) (.int .i64 (all.length : Int)) (.bool true))) (eOwn 5 1 A n c (u8s (all.drop (64 * (all.length / 64)))))
instance (priority := high) SlotAt.run (g : Nat) (A : Option Addr) (n c : Nat) (all : List UInt8) (L : List Ent) : SlotAt (eRun g A n c all :: L) g (eRun g A n c all) L := ⟨.refl _⟩
instance NoRd.run (g : Nat) (A : Option Addr) (n c : Nat) (all : List UInt8) (L : List Ent) [h : NoRd L] : NoRd (eRun g A n c all :: L) := inferInstanceAs (NoRd (eStar _ _ :: L))

set_option maxRecDepth 100000 in
set_option maxHeartbeats 1000000 in
theorem more_core {S : Nat → Prop} {w0 w : World} {F : List Ent} {g : Nat} {A B : Option Addr} {n c m d : Nat} {all b : List UInt8} [hb : HasSl F B m d 1 (u8s b)]
    (h : St S w0 w (eBlk g 158 (c_sha_Running (w32s (hashN all (all.length / 64))) (.slice A n c) (.int .i64 (all.length : Int)) (.bool true)) :: eOwn 5 1 A n c (u8s (all.drop (64 * (all.length / 64)))) :: F))
    (hm : all.length + m ≤ 100000000) :
    Calls Try.prog 69 #[.pointer (some ⟨g, 0, none⟩), .slice B m d] w fun e w' => (∃ v, e = .returned v) ∧ ∃ A' n' c',
      St S w0 w' (eBlk g 158 (c_sha_Running (w32s (hashN (all ++ b) ((all ++ b).length / 64))) (.slice A' n' c') (.int .i64 ((all ++ b).length : Int)) (.bool true)) :: eOwn 5 1 A' n' c' (u8s ((all ++ b).drop (64 * ((all ++ b).length / 64)))) :: F) := by
  have hn := (h.sl A n c).n_eq
  have hmb := (h.sl B m d).n_eq
  rw [List.length_drop] at hn
  have Hn := Lib.hid hn
  have Hmb := Lib.hid hmb
  have hnb : n ≤ all.length := by omega
  have hTl : (all ++ b).length = all.length + m := by rw [List.length_append, hmb]
  have h : St S w0 w (eBlk g 158 (c_sha_Running (w32s (hashN (all ++ b) (all.length / 64))) (.slice A n c) (.int .i64 (all.length : Int)) (.bool true)) :: eOwn 5 1 A n c (u8s (all.drop (64 * (all.length / 64)))) :: F) := by
    rw [hashN_append (by omega)]
    exact h
  obtain ⟨T, hT⟩ : ∃ T, all ++ b = T := ⟨_, rfl⟩
  have hTd : u8s (all.drop (64 * (all.length / 64))) ++ u8s b = u8s (T.drop (64 * (all.length / 64))) := by
    rw [← hT, List.drop_append_of_le_length (by omega), ← u8s_append]
  have HTd := Lib.hid hTd
  rw [hT] at h hTl ⊢
  have HTl := Lib.hid hTl
  clear hn hmb hT hTd hTl
  go_enter Try.func69, Try.ntmps69
  go_wp2_with (first
    | (refine wl_reads rfl (ex_loadv h _ _ rfl _ _ rfl) ?_) | (refine wl_runs rfl (ex_store1i h _ _ _ rfl _ _ rfl _ _ rfl) ?_; clear h; rintro _ w ⟨rfl, h⟩; try dsimp only [Act.put]) | (refine wl_runs rfl (ex_store1s h _ _ _ rfl _ _ rfl _ _ _ rfl) ?_; clear h; rintro _ w ⟨rfl, h⟩; try dsimp only [Act.put]) | (refine wl_runs rfl (ex_store1b h _ _ _ rfl _ _ rfl _ rfl) ?_; clear h; rintro _ w ⟨rfl, h⟩; try dsimp only [Act.put]) | (refine wl_runs rfl (ex_store1t h _ _ _ rfl _ _ rfl _ rfl) ?_; clear h; rintro _ w ⟨rfl, h⟩; try dsimp only [Act.put]) | (refine wl_runs rfl (ex_store1p h _ _ _ rfl _ _ rfl _ rfl) ?_; clear h; rintro _ w ⟨rfl, h⟩; try dsimp only [Act.put]) | (refine wl_runs rfl (ex_store1m h _ _ _ rfl _ _ rfl _ rfl) ?_; clear h; rintro _ w ⟨rfl, h⟩; try dsimp only [Act.put]) | (refine wl_runs rfl (ex_store h _ _ _ rfl _ _ rfl _ rfl) ?_; clear h; rintro _ w ⟨rfl, h⟩; try dsimp only [Act.put]) | (refine wl_runs rfl (ex_alloc h _ rfl) ?_; clear h; rintro _ w ⟨g, rfl, h⟩) | (refine wl_runs rfl (ex_box h _ _ rfl _ rfl) ?_; clear h; rintro _ w ⟨g, rfl, h⟩) | (refine wl_runs rfl (ex_box1i h _ _ rfl _ _ rfl) ?_; clear h; rintro _ w ⟨g, rfl, h⟩) | (refine wl_runs rfl (ex_box1s h _ _ rfl _ _ _ rfl) ?_; clear h; rintro _ w ⟨g, rfl, h⟩) | (refine wl_runs rfl (ex_box1b h _ _ rfl _ rfl) ?_; clear h; rintro _ w ⟨g, rfl, h⟩) | (refine wl_runs rfl (ex_box1t h _ _ rfl _ rfl) ?_; clear h; rintro _ w ⟨g, rfl, h⟩) | (refine wl_runs rfl (ex_box1p h _ _ rfl _ rfl) ?_; clear h; rintro _ w ⟨g, rfl, h⟩) | (refine wl_runs rfl (ex_box1m h _ _ rfl _ rfl) ?_; clear h; rintro _ w ⟨g, rfl, h⟩) | (refine wl_runs rfl (ex_slice1 h _ _ rfl _ rfl) ?_; clear h; rintro _ w ⟨g, rfl, h⟩) | (refine wl_runs rfl (ex_slice1i h _ _ rfl _ _ rfl) ?_; clear h; rintro _ w ⟨g, rfl, h⟩) | (refine wl_runs rfl (ex_slice1s h _ _ rfl _ _ _ rfl) ?_; clear h; rintro _ w ⟨g, rfl, h⟩) | (refine wl_runs rfl (ex_slice1b h _ _ rfl _ rfl) ?_; clear h; rintro _ w ⟨g, rfl, h⟩) | (refine wl_runs rfl (ex_slice1t h _ _ rfl _ rfl) ?_; clear h; rintro _ w ⟨g, rfl, h⟩) | (refine wl_runs rfl (ex_slice1p h _ _ rfl _ rfl) ?_; clear h; rintro _ w ⟨g, rfl, h⟩) | (refine wl_runs rfl (ex_slice1m h _ _ rfl _ rfl) ?_; clear h; rintro _ w ⟨g, rfl, h⟩) | (refine wl_reads rfl (ex_lit0 _ rfl) ?_)
    | (refine wl_runs rfl (ex_append h _ _ _ rfl _ rfl _ _ _ rfl (h.sl B m d) (u8s_one _) (by simp [maxLen]; omega) (by omega)) ?_; clear h; rintro _ w ⟨A, c, rfl, h⟩))
  rw [HTd.out, show (all.length : Int) + (m : Int) = (T.length : Int) by rw [HTl.out]; omega] at h
  have hs : T.length = 64 * (all.length / 64) + (n + m) := by have := Hn.out; have := HTl.out; omega
  have hTb : T.length ≤ 100000000 := by have := HTl.out; omega
  clear Hn Hmb hnb hm HTd HTl
  go_loopg [] (n + m) (fun k wr => ∃ (q : Nat) (A' : Option Addr) (n' c' : Nat), k = n' ∧ T.length = 64 * q + n' ∧ St S w0 wr (eBlk g 158 (c_sha_Running (w32s (hashN T q)) (.slice A' n' c') (.int .i64 (T.length : Int)) (.bool true)) :: eOwn 5 1 A' n' c' (u8s (T.drop (64 * q))) :: F))
  case atStart => exact ⟨_, A, n + m, c, rfl, hs, h⟩
  case round =>
    clear h hs
    obtain ⟨q, A', n', c', rfl, hq, h⟩ := hrel
    have Hq := Lib.hid hq
    have hnb : gk ≤ 100000000 := by omega
    clear hq
    by_cases hlt : 64 ≤ gk
    · obtain ⟨b2, off, rfl, _⟩ := (h.sl A' gk c').pos (by omega)
      have hcc : ∀ {w L}, St S w0 w (eBlk g 158 (c_sha_Running (w32s (hashN T q)) (.slice (some ⟨b2, off, none⟩) gk c') (.int .i64 (T.length : Int)) (.bool true)) :: eOwn 5 1 (some ⟨b2, off, none⟩) gk c' (u8s (T.drop (64 * q))) :: L) → Cells w b2 off (u8s (chunkM T q)) := fun h => by
        have hc := h.sl (some ⟨b2, off, none⟩) gk c'
        have := hc.take (j := 64) (m := c') (by omega) (Nat.le_refl _) (by have := hc.le; omega)
        rw [Nat.mul_one, u8s_take] at this
        exact this.cells rfl
      have hcl : (chunkM T q).length = 64 := chunkM_length (by have := Hq.out; omega)
      have Hcl := Lib.hid hcl
      have hat : ∀ W', (Instr.arrayAt 120 (.slice (some ⟨b2, off, none⟩) gk c')).run Try.prog W' = .ok (.pointer (some ⟨b2, off, none⟩)) W' := fun W' => run_arrayAt _ _ _ 64 _ _ _ Try.underlying120 hlt
      clear hcl
      go_wp2_with (first
        | (refine wl_reads rfl (ex_loadv h _ _ rfl _ _ rfl) ?_) | (refine wl_runs rfl (ex_store1i h _ _ _ rfl _ _ rfl _ _ rfl) ?_; clear h; rintro _ w ⟨rfl, h⟩; try dsimp only [Act.put]) | (refine wl_runs rfl (ex_store1s h _ _ _ rfl _ _ rfl _ _ _ rfl) ?_; clear h; rintro _ w ⟨rfl, h⟩; try dsimp only [Act.put]) | (refine wl_runs rfl (ex_store1b h _ _ _ rfl _ _ rfl _ rfl) ?_; clear h; rintro _ w ⟨rfl, h⟩; try dsimp only [Act.put]) | (refine wl_runs rfl (ex_store1t h _ _ _ rfl _ _ rfl _ rfl) ?_; clear h; rintro _ w ⟨rfl, h⟩; try dsimp only [Act.put]) | (refine wl_runs rfl (ex_store1p h _ _ _ rfl _ _ rfl _ rfl) ?_; clear h; rintro _ w ⟨rfl, h⟩; try dsimp only [Act.put]) | (refine wl_runs rfl (ex_store1m h _ _ _ rfl _ _ rfl _ rfl) ?_; clear h; rintro _ w ⟨rfl, h⟩; try dsimp only [Act.put]) | (refine wl_runs rfl (ex_store h _ _ _ rfl _ _ rfl _ rfl) ?_; clear h; rintro _ w ⟨rfl, h⟩; try dsimp only [Act.put]) | (refine wl_runs rfl (ex_alloc h _ rfl) ?_; clear h; rintro _ w ⟨g, rfl, h⟩) | (refine wl_runs rfl (ex_box h _ _ rfl _ rfl) ?_; clear h; rintro _ w ⟨g, rfl, h⟩) | (refine wl_runs rfl (ex_box1i h _ _ rfl _ _ rfl) ?_; clear h; rintro _ w ⟨g, rfl, h⟩) | (refine wl_runs rfl (ex_box1s h _ _ rfl _ _ _ rfl) ?_; clear h; rintro _ w ⟨g, rfl, h⟩) | (refine wl_runs rfl (ex_box1b h _ _ rfl _ rfl) ?_; clear h; rintro _ w ⟨g, rfl, h⟩) | (refine wl_runs rfl (ex_box1t h _ _ rfl _ rfl) ?_; clear h; rintro _ w ⟨g, rfl, h⟩) | (refine wl_runs rfl (ex_box1p h _ _ rfl _ rfl) ?_; clear h; rintro _ w ⟨g, rfl, h⟩) | (refine wl_runs rfl (ex_box1m h _ _ rfl _ rfl) ?_; clear h; rintro _ w ⟨g, rfl, h⟩) | (refine wl_runs rfl (ex_slice1 h _ _ rfl _ rfl) ?_; clear h; rintro _ w ⟨g, rfl, h⟩) | (refine wl_runs rfl (ex_slice1i h _ _ rfl _ _ rfl) ?_; clear h; rintro _ w ⟨g, rfl, h⟩) | (refine wl_runs rfl (ex_slice1s h _ _ rfl _ _ _ rfl) ?_; clear h; rintro _ w ⟨g, rfl, h⟩) | (refine wl_runs rfl (ex_slice1b h _ _ rfl _ rfl) ?_; clear h; rintro _ w ⟨g, rfl, h⟩) | (refine wl_runs rfl (ex_slice1t h _ _ rfl _ rfl) ?_; clear h; rintro _ w ⟨g, rfl, h⟩) | (refine wl_runs rfl (ex_slice1p h _ _ rfl _ rfl) ?_; clear h; rintro _ w ⟨g, rfl, h⟩) | (refine wl_runs rfl (ex_slice1m h _ _ rfl _ rfl) ?_; clear h; rintro _ w ⟨g, rfl, h⟩) | (refine wl_reads rfl (ex_lit0 _ rfl) ?_))
      refine wp_region_K 14 (fun w' => St _ _ w' _) (by kernel_rfl) h.drew ?_; replace h := h.drew
      refine wpAnyK_pure 37 (v := ?_) (i := 0) (fuel := 14) rfl rfl (by kernel_rfl) (by kernel_rfl) (by kernel_rfl) (by decide) (fun _ _ _ h => h) (Or.inl ⟨by rfl, fun w _ => ?_⟩) ?_; rotate_left; (go_simp; with_reducible rfl); simp only [Act.put, List.setIfInBounds_toArray, List.set_cons_zero, List.set_cons_succ]
      refine wpAnyK_pure 38 (v := ?_) (i := 1) (fuel := 13) rfl rfl (by kernel_rfl) (by kernel_rfl) (by kernel_rfl) (by decide) (fun _ _ _ h => h) (Or.inl ⟨by rfl, fun w _ => ?_⟩) ?_; rotate_left; (go_simp; with_reducible rfl); simp only [Act.put, List.setIfInBounds_toArray, List.set_cons_zero, List.set_cons_succ]
      refine wpAnyK_pure 39 (v := ?_) (i := 2) (fuel := 12) rfl rfl (by kernel_rfl) (by kernel_rfl) (by kernel_rfl) (by decide) (fun _ _ _ h => h) (Or.inl ⟨by rfl, fun w _ => ?_⟩) ?_; rotate_left; (go_simp; with_reducible rfl); simp only [Act.put, List.setIfInBounds_toArray, List.set_cons_zero, List.set_cons_succ]
      refine wpAnyK_pure 40 (v := ?_) (i := 3) (fuel := 11) rfl rfl (by kernel_rfl) (by kernel_rfl) (by kernel_rfl) (by decide) (fun _ _ _ h => h) (Or.inl ⟨by rfl, fun w _ => ?_⟩) ?_; rotate_left; (go_simp; with_reducible rfl); simp only [Act.put, List.setIfInBounds_toArray, List.set_cons_zero, List.set_cons_succ]
      refine wpAnyK_load 41 (i := 4) (fuel := 10) rfl rfl (by kernel_rfl) (by kernel_rfl) (by kernel_rfl) (.inl (by kernel_rfl)) (by decide) (fun _ _ _ h => h) rfl (fun w h => ex_load h _ _ rfl _ _ rfl) ?_; simp only [Act.put, List.setIfInBounds_toArray, List.set_cons_zero, List.set_cons_succ]
      refine wpAnyK_pure 42 (v := ?_) (i := 5) (fuel := 9) rfl rfl (by kernel_rfl) (by kernel_rfl) (by kernel_rfl) (by decide) (fun _ _ _ h => h) (Or.inl ⟨by rfl, fun w _ => ?_⟩) ?_; rotate_left; (go_simp; with_reducible rfl); simp only [Act.put, List.setIfInBounds_toArray, List.set_cons_zero, List.set_cons_succ]
      refine wpAnyK_pure 43 (v := ?_) (i := 6) (fuel := 8) rfl rfl (by kernel_rfl) (by kernel_rfl) (by kernel_rfl) (by decide) (fun _ _ _ h => h) (Or.inl ⟨by rfl, fun w _ => ?_⟩) ?_; rotate_left; (go_simp; with_reducible rfl); simp only [Act.put, List.setIfInBounds_toArray, List.set_cons_zero, List.set_cons_succ]
      refine wpAnyK_pure 44 (v := ?_) (i := 7) (fuel := 7) rfl rfl (by kernel_rfl) (by kernel_rfl) (by kernel_rfl) (by decide) (fun _ _ _ h => h) (Or.inl ⟨by rfl, fun w _ => ?_⟩) ?_; rotate_left; (go_simp; with_reducible rfl); simp only [Act.put, List.setIfInBounds_toArray, List.set_cons_zero, List.set_cons_succ]
      refine wpAnyK_load 45 (i := 8) (fuel := 6) rfl rfl (by kernel_rfl) (by kernel_rfl) (by kernel_rfl) (.inl (by kernel_rfl)) (by decide) (fun _ _ _ h => h) rfl (fun w h => ex_load1 h _ _ rfl _ _ rfl) ?_; simp only [Act.put, List.setIfInBounds_toArray, List.set_cons_zero, List.set_cons_succ]
      refine wpAnyK_pure 46 (v := ?_) (i := 9) (fuel := 5) rfl rfl (by kernel_rfl) (by kernel_rfl) (by kernel_rfl) (by decide) (fun _ _ _ h => h) (Or.inl ⟨by rfl, fun w _ => ?_⟩) ?_; rotate_left; (go_simp; with_reducible rfl); simp only [Act.put, List.setIfInBounds_toArray, List.set_cons_zero, List.set_cons_succ]
      refine wpAnyK_load 47 (i := 10) (fuel := 4) rfl rfl (by kernel_rfl) (by kernel_rfl) (by kernel_rfl) (.inl (by kernel_rfl)) (by decide) (fun _ _ _ h => h) rfl (fun w h => ex_load_at _ _ rfl _ _ rfl (u8s (chunkM T q)) (by rw [u8s_length, Hcl.out]) (hcc h)) ?_; simp only [Act.put, List.setIfInBounds_toArray, List.set_cons_zero, List.set_cons_succ]
      refine wpAnyK_one (i := 11) (fuel := 3) rfl (by kernel_rfl) rfl (fun K hK => ?_)
      (go_simp; go_wp2_with (go_at_call 74; refine (compr_code Hcl.out (hashN_length T q)).mono ?_; rintro e w ⟨rfl, hs⟩; replace h := h.quiet hs; clear hs)); refine hK.out _ _ (fun _ => h.to) ?_; clear hK K
      try simp only [Act.put, List.setIfInBounds_toArray, List.set_cons_zero, List.set_cons_succ]
      refine wpAnyK_pure 49 (v := ?_) (i := 12) (fuel := 2) rfl rfl (by kernel_rfl) (by kernel_rfl) (by kernel_rfl) (by decide) (fun _ _ _ h => h) (Or.inl ⟨by rfl, fun w _ => ?_⟩) ?_; rotate_left; (go_simp; with_reducible rfl); simp only [Act.put, List.setIfInBounds_toArray, List.set_cons_zero, List.set_cons_succ]
      refine wpAnyK_pure 50 (v := ?_) (i := 13) (fuel := 1) rfl rfl (by kernel_rfl) (by kernel_rfl) (by kernel_rfl) (by decide) (fun _ _ _ h => h) (Or.inl ⟨by rfl, fun w _ => ?_⟩) ?_; rotate_left; (go_simp; with_reducible rfl); simp only [Act.put, List.setIfInBounds_toArray, List.set_cons_zero, List.set_cons_succ]
      refine wpAnyK_one (i := 14) (fuel := 0) rfl (by kernel_rfl) rfl (fun K hK => ?_)
      refine op_runs none rfl (ex_store h _ _ _ rfl _ _ rfl _ rfl) ?_; clear h; rintro _ w ⟨rfl, h⟩; refine hK.out _ _ (SJ.past (by kernel_rfl)) ?_; clear hK K
      try simp only [Act.put, List.setIfInBounds_toArray, List.set_cons_zero, List.set_cons_succ]
      refine wpAnyK_done (by kernel_rfl) ?_
      rw [← hashN_succ] at h
      have hf1 : (64 : Int) ≤ (gk : Int) := by omega
      have hcap := (h.sl (some ⟨b2, off, none⟩) gk c').le
      have hf2 : (64 : Int) ≤ (c' : Int) := by omega
      clear hat hcc
      by_cases hc : c' = 64
      · subst hc
        have hgk : gk = 64 := by omega
        subst hgk
        go_wp2_with (first
          | (refine wl_reads rfl (ex_loadv h _ _ rfl _ _ rfl) ?_) | (refine wl_runs rfl (ex_store1i h _ _ _ rfl _ _ rfl _ _ rfl) ?_; clear h; rintro _ w ⟨rfl, h⟩; try dsimp only [Act.put]) | (refine wl_runs rfl (ex_store1s h _ _ _ rfl _ _ rfl _ _ _ rfl) ?_; clear h; rintro _ w ⟨rfl, h⟩; try dsimp only [Act.put]) | (refine wl_runs rfl (ex_store1b h _ _ _ rfl _ _ rfl _ rfl) ?_; clear h; rintro _ w ⟨rfl, h⟩; try dsimp only [Act.put]) | (refine wl_runs rfl (ex_store1t h _ _ _ rfl _ _ rfl _ rfl) ?_; clear h; rintro _ w ⟨rfl, h⟩; try dsimp only [Act.put]) | (refine wl_runs rfl (ex_store1p h _ _ _ rfl _ _ rfl _ rfl) ?_; clear h; rintro _ w ⟨rfl, h⟩; try dsimp only [Act.put]) | (refine wl_runs rfl (ex_store1m h _ _ _ rfl _ _ rfl _ rfl) ?_; clear h; rintro _ w ⟨rfl, h⟩; try dsimp only [Act.put]) | (refine wl_runs rfl (ex_store h _ _ _ rfl _ _ rfl _ rfl) ?_; clear h; rintro _ w ⟨rfl, h⟩; try dsimp only [Act.put]) | (refine wl_runs rfl (ex_alloc h _ rfl) ?_; clear h; rintro _ w ⟨g, rfl, h⟩) | (refine wl_runs rfl (ex_box h _ _ rfl _ rfl) ?_; clear h; rintro _ w ⟨g, rfl, h⟩) | (refine wl_runs rfl (ex_box1i h _ _ rfl _ _ rfl) ?_; clear h; rintro _ w ⟨g, rfl, h⟩) | (refine wl_runs rfl (ex_box1s h _ _ rfl _ _ _ rfl) ?_; clear h; rintro _ w ⟨g, rfl, h⟩) | (refine wl_runs rfl (ex_box1b h _ _ rfl _ rfl) ?_; clear h; rintro _ w ⟨g, rfl, h⟩) | (refine wl_runs rfl (ex_box1t h _ _ rfl _ rfl) ?_; clear h; rintro _ w ⟨g, rfl, h⟩) | (refine wl_runs rfl (ex_box1p h _ _ rfl _ rfl) ?_; clear h; rintro _ w ⟨g, rfl, h⟩) | (refine wl_runs rfl (ex_box1m h _ _ rfl _ rfl) ?_; clear h; rintro _ w ⟨g, rfl, h⟩) | (refine wl_runs rfl (ex_slice1 h _ _ rfl _ rfl) ?_; clear h; rintro _ w ⟨g, rfl, h⟩) | (refine wl_runs rfl (ex_slice1i h _ _ rfl _ _ rfl) ?_; clear h; rintro _ w ⟨g, rfl, h⟩) | (refine wl_runs rfl (ex_slice1s h _ _ rfl _ _ _ rfl) ?_; clear h; rintro _ w ⟨g, rfl, h⟩) | (refine wl_runs rfl (ex_slice1b h _ _ rfl _ rfl) ?_; clear h; rintro _ w ⟨g, rfl, h⟩) | (refine wl_runs rfl (ex_slice1t h _ _ rfl _ rfl) ?_; clear h; rintro _ w ⟨g, rfl, h⟩) | (refine wl_runs rfl (ex_slice1p h _ _ rfl _ rfl) ?_; clear h; rintro _ w ⟨g, rfl, h⟩) | (refine wl_runs rfl (ex_slice1m h _ _ rfl _ rfl) ?_; clear h; rintro _ w ⟨g, rfl, h⟩) | (refine wl_reads rfl (ex_lit0 _ rfl) ?_))
        have h := h.dropRow (some ⟨b2, off, none⟩) 64 (by omega)
        rw [if_pos rfl, Nat.mul_one, u8s_drop, List.drop_drop] at h
        go_roundg 0
        case measure => omega
        case rel => exact ⟨q + 1, some ⟨b2, off, none⟩, 0, 0, rfl, by have := Hq.out; omega, h.to⟩
      · go_wp2_with (first
          | (refine wl_reads rfl (ex_loadv h _ _ rfl _ _ rfl) ?_) | (refine wl_runs rfl (ex_store1i h _ _ _ rfl _ _ rfl _ _ rfl) ?_; clear h; rintro _ w ⟨rfl, h⟩; try dsimp only [Act.put]) | (refine wl_runs rfl (ex_store1s h _ _ _ rfl _ _ rfl _ _ _ rfl) ?_; clear h; rintro _ w ⟨rfl, h⟩; try dsimp only [Act.put]) | (refine wl_runs rfl (ex_store1b h _ _ _ rfl _ _ rfl _ rfl) ?_; clear h; rintro _ w ⟨rfl, h⟩; try dsimp only [Act.put]) | (refine wl_runs rfl (ex_store1t h _ _ _ rfl _ _ rfl _ rfl) ?_; clear h; rintro _ w ⟨rfl, h⟩; try dsimp only [Act.put]) | (refine wl_runs rfl (ex_store1p h _ _ _ rfl _ _ rfl _ rfl) ?_; clear h; rintro _ w ⟨rfl, h⟩; try dsimp only [Act.put]) | (refine wl_runs rfl (ex_store1m h _ _ _ rfl _ _ rfl _ rfl) ?_; clear h; rintro _ w ⟨rfl, h⟩; try dsimp only [Act.put]) | (refine wl_runs rfl (ex_store h _ _ _ rfl _ _ rfl _ rfl) ?_; clear h; rintro _ w ⟨rfl, h⟩; try dsimp only [Act.put]) | (refine wl_runs rfl (ex_alloc h _ rfl) ?_; clear h; rintro _ w ⟨g, rfl, h⟩) | (refine wl_runs rfl (ex_box h _ _ rfl _ rfl) ?_; clear h; rintro _ w ⟨g, rfl, h⟩) | (refine wl_runs rfl (ex_box1i h _ _ rfl _ _ rfl) ?_; clear h; rintro _ w ⟨g, rfl, h⟩) | (refine wl_runs rfl (ex_box1s h _ _ rfl _ _ _ rfl) ?_; clear h; rintro _ w ⟨g, rfl, h⟩) | (refine wl_runs rfl (ex_box1b h _ _ rfl _ rfl) ?_; clear h; rintro _ w ⟨g, rfl, h⟩) | (refine wl_runs rfl (ex_box1t h _ _ rfl _ rfl) ?_; clear h; rintro _ w ⟨g, rfl, h⟩) | (refine wl_runs rfl (ex_box1p h _ _ rfl _ rfl) ?_; clear h; rintro _ w ⟨g, rfl, h⟩) | (refine wl_runs rfl (ex_box1m h _ _ rfl _ rfl) ?_; clear h; rintro _ w ⟨g, rfl, h⟩) | (refine wl_runs rfl (ex_slice1 h _ _ rfl _ rfl) ?_; clear h; rintro _ w ⟨g, rfl, h⟩) | (refine wl_runs rfl (ex_slice1i h _ _ rfl _ _ rfl) ?_; clear h; rintro _ w ⟨g, rfl, h⟩) | (refine wl_runs rfl (ex_slice1s h _ _ rfl _ _ _ rfl) ?_; clear h; rintro _ w ⟨g, rfl, h⟩) | (refine wl_runs rfl (ex_slice1b h _ _ rfl _ rfl) ?_; clear h; rintro _ w ⟨g, rfl, h⟩) | (refine wl_runs rfl (ex_slice1t h _ _ rfl _ rfl) ?_; clear h; rintro _ w ⟨g, rfl, h⟩) | (refine wl_runs rfl (ex_slice1p h _ _ rfl _ rfl) ?_; clear h; rintro _ w ⟨g, rfl, h⟩) | (refine wl_runs rfl (ex_slice1m h _ _ rfl _ rfl) ?_; clear h; rintro _ w ⟨g, rfl, h⟩) | (refine wl_reads rfl (ex_lit0 _ rfl) ?_))
        have h := h.dropRow (some ⟨b2, off, none⟩) 64 (by omega)
        rw [if_neg hc, Option.map_some, add_none, Nat.mul_one, u8s_drop, List.drop_drop] at h
        go_roundg (gk - 64)
        case measure => omega
        case rel => exact ⟨q + 1, some ⟨b2, off + 64, none⟩, gk - 64, c' - 64, rfl, by have := Hq.out; omega, h.to⟩
    · go_wp2_with (first
        | (refine wl_reads rfl (ex_loadv h _ _ rfl _ _ rfl) ?_) | (refine wl_runs rfl (ex_store1i h _ _ _ rfl _ _ rfl _ _ rfl) ?_; clear h; rintro _ w ⟨rfl, h⟩; try dsimp only [Act.put]) | (refine wl_runs rfl (ex_store1s h _ _ _ rfl _ _ rfl _ _ _ rfl) ?_; clear h; rintro _ w ⟨rfl, h⟩; try dsimp only [Act.put]) | (refine wl_runs rfl (ex_store1b h _ _ _ rfl _ _ rfl _ rfl) ?_; clear h; rintro _ w ⟨rfl, h⟩; try dsimp only [Act.put]) | (refine wl_runs rfl (ex_store1t h _ _ _ rfl _ _ rfl _ rfl) ?_; clear h; rintro _ w ⟨rfl, h⟩; try dsimp only [Act.put]) | (refine wl_runs rfl (ex_store1p h _ _ _ rfl _ _ rfl _ rfl) ?_; clear h; rintro _ w ⟨rfl, h⟩; try dsimp only [Act.put]) | (refine wl_runs rfl (ex_store1m h _ _ _ rfl _ _ rfl _ rfl) ?_; clear h; rintro _ w ⟨rfl, h⟩; try dsimp only [Act.put]) | (refine wl_runs rfl (ex_store h _ _ _ rfl _ _ rfl _ rfl) ?_; clear h; rintro _ w ⟨rfl, h⟩; try dsimp only [Act.put]) | (refine wl_runs rfl (ex_alloc h _ rfl) ?_; clear h; rintro _ w ⟨g, rfl, h⟩) | (refine wl_runs rfl (ex_box h _ _ rfl _ rfl) ?_; clear h; rintro _ w ⟨g, rfl, h⟩) | (refine wl_runs rfl (ex_box1i h _ _ rfl _ _ rfl) ?_; clear h; rintro _ w ⟨g, rfl, h⟩) | (refine wl_runs rfl (ex_box1s h _ _ rfl _ _ _ rfl) ?_; clear h; rintro _ w ⟨g, rfl, h⟩) | (refine wl_runs rfl (ex_box1b h _ _ rfl _ rfl) ?_; clear h; rintro _ w ⟨g, rfl, h⟩) | (refine wl_runs rfl (ex_box1t h _ _ rfl _ rfl) ?_; clear h; rintro _ w ⟨g, rfl, h⟩) | (refine wl_runs rfl (ex_box1p h _ _ rfl _ rfl) ?_; clear h; rintro _ w ⟨g, rfl, h⟩) | (refine wl_runs rfl (ex_box1m h _ _ rfl _ rfl) ?_; clear h; rintro _ w ⟨g, rfl, h⟩) | (refine wl_runs rfl (ex_slice1 h _ _ rfl _ rfl) ?_; clear h; rintro _ w ⟨g, rfl, h⟩) | (refine wl_runs rfl (ex_slice1i h _ _ rfl _ _ rfl) ?_; clear h; rintro _ w ⟨g, rfl, h⟩) | (refine wl_runs rfl (ex_slice1s h _ _ rfl _ _ _ rfl) ?_; clear h; rintro _ w ⟨g, rfl, h⟩) | (refine wl_runs rfl (ex_slice1b h _ _ rfl _ rfl) ?_; clear h; rintro _ w ⟨g, rfl, h⟩) | (refine wl_runs rfl (ex_slice1t h _ _ rfl _ rfl) ?_; clear h; rintro _ w ⟨g, rfl, h⟩) | (refine wl_runs rfl (ex_slice1p h _ _ rfl _ rfl) ?_; clear h; rintro _ w ⟨g, rfl, h⟩) | (refine wl_runs rfl (ex_slice1m h _ _ rfl _ rfl) ?_; clear h; rintro _ w ⟨g, rfl, h⟩) | (refine wl_reads rfl (ex_lit0 _ rfl) ?_))
      go_end0
      have hq : T.length / 64 = q := by have := Hq.out; omega
      rw [hq]
      exact ⟨⟨_, rfl⟩, A', gk, c', h⟩
theorem more_code {S : Nat → Prop} {w0 w : World} {L F : List Ent} {g : Nat} {A B : Option Addr} {n c m d : Nat} {all b : List UInt8} (h : St S w0 w L) [k : SlotAt L g (eRun g A n c all) F] [hb : HasSl F B m d 1 (u8s b)] (hm : all.length + m ≤ 100000000) :
    Calls Try.prog 69 #[.pointer (some ⟨g, 0, none⟩), .slice B m d] w fun e w' => (∃ v, e = .returned v) ∧ ∃ A' n' c', St S w0 w' (eRun g A' n' c' (all ++ b) :: F) :=
  (more_core (h.at_ g).unstar hm).mono fun e w' ⟨h1, A', n', c', h2⟩ => ⟨h1, A', n', c', h2.star⟩

set_option maxRecDepth 100000 in
theorem begin_code {S : Nat → Prop} {w0 w : World} {L : List Ent} (h : St S w0 w L) : Calls Try.prog 68 #[] w fun e w' => ∃ g, e = .returned (.pointer (some ⟨g, 0, none⟩)) ∧ St S w0 w' (eRun g none 0 0 [] :: L) := by
  go_enter Try.func68, Try.ntmps68
  go_wp2_with (first
    | (go_at_call 72; refine first_code.mono ?_; rintro e w ⟨rfl, hs⟩; replace h := h.quiet hs; clear hs)
    | (refine wl_reads rfl (ex_lit _ _ rfl [(0, .agg (w32s firstM).toArray), (3, .bool true)] rfl) ?_)
    | (refine wl_reads rfl (ex_loadv h _ _ rfl _ _ rfl) ?_) | (refine wl_runs rfl (ex_store1i h _ _ _ rfl _ _ rfl _ _ rfl) ?_; clear h; rintro _ w ⟨rfl, h⟩; try dsimp only [Act.put]) | (refine wl_runs rfl (ex_store1s h _ _ _ rfl _ _ rfl _ _ _ rfl) ?_; clear h; rintro _ w ⟨rfl, h⟩; try dsimp only [Act.put]) | (refine wl_runs rfl (ex_store1b h _ _ _ rfl _ _ rfl _ rfl) ?_; clear h; rintro _ w ⟨rfl, h⟩; try dsimp only [Act.put]) | (refine wl_runs rfl (ex_store1t h _ _ _ rfl _ _ rfl _ rfl) ?_; clear h; rintro _ w ⟨rfl, h⟩; try dsimp only [Act.put]) | (refine wl_runs rfl (ex_store1p h _ _ _ rfl _ _ rfl _ rfl) ?_; clear h; rintro _ w ⟨rfl, h⟩; try dsimp only [Act.put]) | (refine wl_runs rfl (ex_store1m h _ _ _ rfl _ _ rfl _ rfl) ?_; clear h; rintro _ w ⟨rfl, h⟩; try dsimp only [Act.put]) | (refine wl_runs rfl (ex_store h _ _ _ rfl _ _ rfl _ rfl) ?_; clear h; rintro _ w ⟨rfl, h⟩; try dsimp only [Act.put]) | (refine wl_runs rfl (ex_alloc h _ rfl) ?_; clear h; rintro _ w ⟨g, rfl, h⟩) | (refine wl_runs rfl (ex_box h _ _ rfl _ rfl) ?_; clear h; rintro _ w ⟨g, rfl, h⟩) | (refine wl_runs rfl (ex_box1i h _ _ rfl _ _ rfl) ?_; clear h; rintro _ w ⟨g, rfl, h⟩) | (refine wl_runs rfl (ex_box1s h _ _ rfl _ _ _ rfl) ?_; clear h; rintro _ w ⟨g, rfl, h⟩) | (refine wl_runs rfl (ex_box1b h _ _ rfl _ rfl) ?_; clear h; rintro _ w ⟨g, rfl, h⟩) | (refine wl_runs rfl (ex_box1t h _ _ rfl _ rfl) ?_; clear h; rintro _ w ⟨g, rfl, h⟩) | (refine wl_runs rfl (ex_box1p h _ _ rfl _ rfl) ?_; clear h; rintro _ w ⟨g, rfl, h⟩) | (refine wl_runs rfl (ex_box1m h _ _ rfl _ rfl) ?_; clear h; rintro _ w ⟨g, rfl, h⟩) | (refine wl_runs rfl (ex_slice1 h _ _ rfl _ rfl) ?_; clear h; rintro _ w ⟨g, rfl, h⟩) | (refine wl_runs rfl (ex_slice1i h _ _ rfl _ _ rfl) ?_; clear h; rintro _ w ⟨g, rfl, h⟩) | (refine wl_runs rfl (ex_slice1s h _ _ rfl _ _ _ rfl) ?_; clear h; rintro _ w ⟨g, rfl, h⟩) | (refine wl_runs rfl (ex_slice1b h _ _ rfl _ rfl) ?_; clear h; rintro _ w ⟨g, rfl, h⟩) | (refine wl_runs rfl (ex_slice1t h _ _ rfl _ rfl) ?_; clear h; rintro _ w ⟨g, rfl, h⟩) | (refine wl_runs rfl (ex_slice1p h _ _ rfl _ rfl) ?_; clear h; rintro _ w ⟨g, rfl, h⟩) | (refine wl_runs rfl (ex_slice1m h _ _ rfl _ rfl) ?_; clear h; rintro _ w ⟨g, rfl, h⟩) | (refine wl_reads rfl (ex_lit0 _ rfl) ?_))
  go_ret
  have h2 : St S w0 w (eBlk g 158 (c_sha_Running (w32s firstM) (.slice none 0 0) (.int .i64 0) (.bool true)) :: eOwn 5 1 none 0 0 [] :: L) := (h.nilRow 5 1).to
  exact ⟨g, rfl, h2.star⟩

end Go.Proofs.Ytcmgjoamfjijhaa
