/- The reference's pieces of a text. -/
import Derived.Test.YtcmgjoamfjijhaaCBlocks
namespace Go.Proofs.Ytcmgjoamfjijhaa
open Go.RowKit

/-- The rows of pieces: each is a slice of its own. -/
structure PieceAt where
  A : Option Addr
  c : Nat
  x : B64
def piecec (p : PieceAt) : List Value := [.slice p.A 64 p.c]
/-- Pieces as they lie in w, in blocks from B on. -/
def PiecesIs (w : World) (B : Nat) (l : List PieceAt) : Prop := ∀ p ∈ l, Own w 5 1 p.A 64 p.c (u8s p.x.1) ∧ ∀ k, At p.A k → B ≤ k
theorem own_apart {w : World} {e e' : TypeId} {A B : Option Addr} {n c m d sz sz' : Nat} {xs ys : List Value} (h : Own w e sz A n c xs) (h' : Own w e' sz' B m d ys) (hne : e ≠ e') : ∀ k, At A k → ¬ At B k := by
  rintro k hk ⟨a, rfl, rfl⟩
  rcases h'.form with ⟨h1, _⟩ | ⟨g, cur, h1, hg, _⟩
  · cases h1
  · injection h1 with h1
    subst h1
    exact h.ne_blk hg hne hk

theorem slices_parts : (Try.prog.info? 27).map (fun i => (i.zero, i.size, i.bytes)) = some (some (.slice none 0 0), 1, 24) := by kernel_rfl

set_option maxRecDepth 100000 in
set_option maxHeartbeats 1000000 in
theorem chunks_ref {w : World} {F : List UInt8} {A : Option Addr} {n c : Nat} (hl : Sl w A n c 1 (u8s F)) (hm : n ≤ 100000000) (h64 : n % 64 = 0) :
    Calls Try.prog 60 #[.slice A n c, .int .i64 64] w fun e w' => ∃ B k d, e = .returned (.slice B k d) ∧ ∃ l, (Sl w' B k d 1 (l.flatMap piecec) ∧ ∀ k, At B k → w.heap.size ≤ k ∧ k < w'.heap.size) ∧ PiecesIs w' w.heap.size l ∧ l.map (·.x) = (List.range (n / 64)).map (chunk64 F) ∧ Step (fun _ => False) w w' := by
  obtain ⟨i0, hi0, hz0, hz1, hz2⟩ := info_parts byte_parts2
  obtain ⟨i1, hi1, hy0, hy1, hy2⟩ := info_parts slices_parts
  go_enter Try.func60, Try.ntmps60
  go_wp2
  go_loopw [0, 5] (fun v o wr => ∃ (j : Nat) (A' : Option Addr) (c' : Nat) (B : Option Addr) (d : Nat) (l : List PieceAt), v = .slice A' (n - 64 * j) c' ∧ o = .slice B j d ∧ 64 * j ≤ n ∧ Sl wr A' (n - 64 * j) c' 1 (u8s (F.drop (64 * j))) ∧ Own wr 27 1 B j d (l.flatMap piecec) ∧ PiecesIs wr w.heap.size l ∧ l.map (·.x) = (List.range j).map (chunk64 F) ∧ (∀ k, At B k → w.heap.size ≤ k) ∧ (∀ k, At A' k → At A k) ∧ Step (fun _ => False) w wr) (fun v _ _ => match v with | .slice _ m _ => m | _ => 0)
  case atStart => exact ⟨0, A, c, none, 0, [], rfl, rfl, by omega, by simpa using hl, Own.nil _ _ _, (by simp [PiecesIs]), rfl, fun k hk => (at_nil hk).elim, fun k hk => hk, Step.refl _ _⟩
  case round =>
    obtain ⟨j, A', c', B, d, l, rfl, rfl, hj, hs, hown, hps, hmap, hB, hAA, hS⟩ := hrel
    by_cases hlt : 64 * j < n
    · have h6 : 64 ≤ n - 64 * j := by omega
      have hcap := hs.le
      obtain ⟨m, hm'⟩ : ∃ m, n - 64 * j = m := ⟨_, rfl⟩
      rw [hm'] at hs hcap h6
      obtain ⟨b, off, rfl, hbl, hcells⟩ := hs.pos (by omega)
      have htake := hs.take (j := 64) (m := c') h6 (Nat.le_refl _) (by omega)
      rw [Nat.mul_one, u8s_take] at htake
      have hdrop := hs.drop (i := 64) h6
      rw [Nat.mul_one, u8s_drop, List.drop_drop] at hdrop
      have hjb : j ≤ 10000000 := by omega
      have f1 : (0 : Int) < (m : Int) := by omega
      have f2 : ¬ ((m : Int) < 64) := by omega
      have f3 : (64 : Int) ≤ (c' : Int) := by omega
      have f4 : (64 : Int) ≤ (m : Int) := by omega
      rw [hm']
      by_cases hc : c' = 64
      · subst hc
        go_wp2_with (first
          | (at_builtin; refine wl_append_new _ rfl _ _ 27 rfl 5 i0 _ 1 1 Try.underlying27 hi0 hz0 hz1 hz2 rfl (by decide) rfl (some ⟨b, off, none⟩) 64 64 _ rfl htake (u8s_one _) (by decide) (by decide) ?_; intro A1 c1 w1 hown1 hS1 hat1)
          | (at_builtin; refine wl_append _ rfl _ _ 30 rfl 27 i1 _ 1 24 Try.underlying30 hi1 hy0 hy1 hy2 rfl (by decide) B j d (l.flatMap piecec) rfl ((hown.keep hS1).alloc _) _ 1 1 [.slice A1 64 c1] rfl (sl_one _ _ _) (by simp [Value.oneCell']) (by simp [maxLen]; omega) (by omega) ?_; intro B2 d2 w2 hown2 hS2 hat2))
        have hnF := hl.n_eq
        have hck := chunk64_val (F := F) (k := j) (by omega)
        have hbw : b < w.heap.size := hl.ft_lt (by omega) ⟨by omega, hAA b ⟨_, rfl, rfl⟩⟩
        have hS12 : Step (At B) wr w2 := (((hS1.mono (fun _ _ h => h.elim)).alloc _).tr hS2)
        have hdw : Sl w2 (some ⟨b, off, none⟩) 0 0 1 (u8s (F.drop (64 * j + 64))) := by
          rw [if_pos rfl, show m - 64 = 0 by omega] at hdrop
          refine hdrop.step hS12 (fun k hk h => ?_)
          obtain ⟨a, e, rfl⟩ := hk.2
          cases e
          have h9 : w.heap.size ≤ b := hB b h
          omega
        have hsz := hS.size
        have hown1' : Own w2 5 1 A1 64 c1 (u8s (chunk64 F j).1) := by
          rw [hck]
          exact (hown1.alloc _).step hS2 (own_apart hown1 (hown.keep hS1) (by decide))
        refine ⟨⟨j + 1, some ⟨b, off, none⟩, 0, B2, d2, l ++ [⟨A1, c1, chunk64 F j⟩], by rw [show n - 64 * (j + 1) = 0 by omega], rfl, by omega, ?_, by simpa [piecec] using hown2, ?_, by simp [hmap, List.range_succ], ?_, ?_, hS.trans hS12 (fun i hi h => by have := hB i h; omega)⟩, ?_⟩
        · rw [show n - 64 * (j + 1) = 0 by omega, show 64 * (j + 1) = 64 * j + 64 by omega]
          exact hdw
        · intro p hp
          rcases List.mem_append.1 hp with hp | hp
          · obtain ⟨q1, q2⟩ := hps p hp
            exact ⟨q1.step hS12 (own_apart q1 hown (by decide)), q2⟩
          · obtain rfl : p = _ := by simpa using hp
            exact ⟨hown1', fun k hk => by have := (hat1 k hk).1; omega⟩
        · intro k hk
          have := hS1.size
          rcases hat2 k hk with h | h
          · exact hB k h
          · simp at h; omega
        · rintro k ⟨a, e, rfl⟩
          cases e
          exact hAA _ ⟨_, rfl, rfl⟩
        · show 0 < m
          omega
      · go_wp2_with (first
          | (at_builtin; refine wl_append_new _ rfl _ _ 27 rfl 5 i0 _ 1 1 Try.underlying27 hi0 hz0 hz1 hz2 rfl (by decide) rfl (some ⟨b, off, none⟩) 64 c' _ rfl htake (u8s_one _) (by decide) (by decide) ?_; intro A1 c1 w1 hown1 hS1 hat1)
          | (at_builtin; refine wl_append _ rfl _ _ 30 rfl 27 i1 _ 1 24 Try.underlying30 hi1 hy0 hy1 hy2 rfl (by decide) B j d (l.flatMap piecec) rfl ((hown.keep hS1).alloc _) _ 1 1 [.slice A1 64 c1] rfl (sl_one _ _ _) (by simp [Value.oneCell']) (by simp [maxLen]; omega) (by omega) ?_; intro B2 d2 w2 hown2 hS2 hat2))
        have hnF := hl.n_eq
        have hck := chunk64_val (F := F) (k := j) (by omega)
        have hbw : b < w.heap.size := hl.ft_lt (by omega) ⟨by omega, hAA b ⟨_, rfl, rfl⟩⟩
        have hS12 : Step (At B) wr w2 := (((hS1.mono (fun _ _ h => h.elim)).alloc _).tr hS2)
        have hdw : Sl w2 (some ⟨b, off + 64, none⟩) (m - 64) (c' - 64) 1 (u8s (F.drop (64 * j + 64))) := by
          rw [if_neg hc, Option.map_some, add_none] at hdrop
          refine hdrop.step hS12 (fun k hk h => ?_)
          obtain ⟨a, e, rfl⟩ := hk.2
          cases e
          have h9 : w.heap.size ≤ b := hB b h
          omega
        have hsz := hS.size
        have hown1' : Own w2 5 1 A1 64 c1 (u8s (chunk64 F j).1) := by
          rw [hck]
          exact (hown1.alloc _).step hS2 (own_apart hown1 (hown.keep hS1) (by decide))
        refine ⟨⟨j + 1, some ⟨b, off + 64, none⟩, c' - 64, B2, d2, l ++ [⟨A1, c1, chunk64 F j⟩], by rw [show n - 64 * (j + 1) = m - 64 by omega], rfl, by omega, ?_, by simpa [piecec] using hown2, ?_, by simp [hmap, List.range_succ], ?_, ?_, hS.trans hS12 (fun i hi h => by have := hB i h; omega)⟩, ?_⟩
        · rw [show n - 64 * (j + 1) = m - 64 by omega, show 64 * (j + 1) = 64 * j + 64 by omega]
          exact hdw
        · intro p hp
          rcases List.mem_append.1 hp with hp | hp
          · obtain ⟨q1, q2⟩ := hps p hp
            exact ⟨q1.step hS12 (own_apart q1 hown (by decide)), q2⟩
          · obtain rfl : p = _ := by simpa using hp
            exact ⟨hown1', fun k hk => by have := (hat1 k hk).1; omega⟩
        · intro k hk
          have := hS1.size
          rcases hat2 k hk with h | h
          · exact hB k h
          · simp at h; omega
        · rintro k ⟨a, e, rfl⟩
          cases e
          exact hAA _ ⟨_, rfl, rfl⟩
        · show m - 64 < m
          omega
    · have hnj : n - 64 * j = 0 := by omega
      have h0 : ¬ (0 : Int) < ((n - 64 * j : Nat) : Int) := by omega
      have hj64 : n / 64 = j := by omega
      rw [hnj] at hs h0
      rw [hnj]
      clear hlt
      go_wp2
      go_ret
      exact ⟨B, j, d, rfl, l, ⟨hown.sl, fun k hk => ⟨hB k hk, hown.lt k hk⟩⟩, hps, by first | exact hmap | (rw [hj64]; exact hmap), hS⟩
end Go.Proofs.Ytcmgjoamfjijhaa
