/- Chapter 7's example; the reference's sizes. -/
import Derived.Test.YtcmgjoamfjijhaaCSuDigest
namespace Go.Proofs.Ytcmgjoamfjijhaa
open Go.RowKit Go.Maps
set_option linter.unusedVariables false
set_option linter.unusedSimpArgs false

theorem St.nilTp {S : Nat → Prop} {w0 w : World} {L : List Ent} (h : St S w0 w L) : St S w0 w (eTp none none 0 0 [] :: L) :=
  h.reading0 (eTp none none 0 0 []) rfl (fun _ h => h) (fun _ h => h)
theorem size3 : sizeM 3 = 76 := by decide
theorem digest_nil : digestM [] (newSu 1 []) = (zeros 32, 60, newSu 1 []) := by
  have h : (idealM (askD []) 32 (newSu 1 [])) = (none, newSu 1 []) := by unfold idealM; rw [mget_nil]; rfl
  unfold digestM
  rw [h]
  rfl
set_option maxRecDepth 100000 in
theorem su_awake {S : Nat → Prop} {w0 w : World} {L : List Ent} (h : St S w0 w L) :
    Calls Try.prog 10 #[] w fun e w' => e = .returned (.bool true) ∧ St S w0 w' L := by
  have hs3 := size3
  have Hd := Lib.hid digest_nil
  go_enter Try.func10, Try.ntmps10
  replace h := h.nilTp
  go_wp2_with (first
    | (go_at_call 11; refine (su_new1 (tp := none) h).mono ?_; clear h; rintro e w ⟨g, k, rfl, h⟩)
    | (go_at_call 12; refine (su_size (g := g) h 3 (by decide)).mono ?_; rw [hs3]; clear h; rintro e w ⟨rfl, h⟩)
    | (go_at_call 21; replace h : St S w0 w (eOwn 5 1 none 0 0 (u8s []) :: _) := h.nilRow 5 1; replace h : St S w0 w (eSu g k (newSu 1 []) :: eOwn 5 1 none 0 0 (u8s []) :: L) := h.to; refine (su_digest (g := g) (A := none) (n := 0) (c := 0) (b := []) h (by omega) (SuOk.new 1 [])).mono ?_; rw [Hd.out]; clear h; rintro e w ⟨rfl, k2, h⟩)
    | (refine wl_runs rfl (ex_alloc h 49 rfl) ?_; clear h; rintro _ w ⟨gi, rfl, h⟩)
    | (refine wl_runs rfl (ex_store h _ _ _ rfl _ _ rfl _ rfl) ?_; clear h; rintro _ w ⟨rfl, h⟩; try dsimp only [Act.put]))
  go_ret
  exact ⟨rfl, h.to⟩
/-- The reference's bucket. -/
theorem bkt_ref {S : Nat → Prop} {w0 w : World} {L : List Ent} (h : St S w0 w L) (n : Int) (hn : (Lit.int .i64 n).wf = true) :
    Calls Try.prog 14 #[.int .i64 n] w fun e w' => e = .returned (.int .i64 (bkt n : Int)) ∧ w' = w := by
  by_cases hout : n < 0 ∨ 65532 < n
  · have hb := bkt_out hout
    rw [hb]
    by_cases h1 : n < 0
    · have f1 : decide (n < 0) = true := by simp [h1]
      go_enter Try.func14, Try.ntmps14
      go_wp2
      go_ret
      exact ⟨rfl, rfl⟩
    · have f1 : decide (n < 0) = false := by simp [h1]
      have f2 : decide (65532 < n) = true := by simp; omega
      go_enter Try.func14, Try.ntmps14
      go_wp2
      go_ret
      exact ⟨rfl, rfl⟩
  · have f1 : decide (n < 0) = false := by simp; omega
    have f2 : decide (65532 < n) = false := by simp; omega
    have Hout := Lib.hid hout
    have hw : wrap64 (n + 4) = n + 4 := by unfold wrap64; omega
    clear hout
    go_enter Try.func14, Try.ntmps14
    go_wp2
    go_loopw [3] (fun x wr => ∃ k v : Nat, k < 12 ∧ Hid (v = 32 * 2 ^ k) ∧ NoBkt n (bks.take k) ∧ x = .int .i64 (v : Int) ∧ wr = w) (fun x _ => 200000 - (intOf x).toNat)
    case atStart => exact ⟨0, 32, by omega, Lib.hid rfl, fun _ h => (by cases h), rfl, rfl⟩
    case round =>
      obtain ⟨k, v, hk, Hv, hno, rfl, rfl⟩ := hrel
      have hv1 : 32 ≤ v ∧ v ≤ 65536 := by
        have h1 := bks_get k hk
        have h2 := List.mem_of_getElem? h1
        rw [← Hv.out] at h2
        simp [bks] at h2
        omega
      obtain ⟨hv1, hv2⟩ := hv1
      have hpre : bks.take k ++ [v] <+: bks := by rw [Hv.out, ← bks_take hk]; exact List.take_prefix _ _
      by_cases hx : n + 4 ≤ (v : Int)
      · have hb := Lib.hid (bkt_find Hout.out hpre hno hx)
        have f3 : ¬ (v : Int) < n + 4 := by omega
        clear hpre hno
        go_wp2
        go_ret
        rw [hb.out]
        exact ⟨rfl, rfl⟩
      · have f3 : (v : Int) < n + 4 := by omega
        have hk2 : k + 1 < 12 := by
          rcases Nat.lt_or_ge (k + 1) 12 with h | h
          · exact h
          · obtain rfl : k = 11 := by omega
            have := Hv.out
            have := Hout.out
            omega
        have hno2 : NoBkt n (bks.take (k + 1)) := fun y hy => by
          rw [bks_take hk, ← Hv.out] at hy
          rcases List.mem_append.1 hy with hy | hy
          · exact hno y hy
          · rw [List.mem_singleton] at hy; subst hy; exact hx
        have Hk2 := Lib.hid hk2
        clear hpre hno hk2
        go_wp2
        exact ⟨⟨k + 1, 2 * v, Hk2.out, Lib.hid (by rw [Hv.out, Nat.pow_succ]; omega), hno2, by push_cast; rfl, by trivial⟩, by simp only [intOf]; omega⟩
theorem size_ref {S : Nat → Prop} {w0 w : World} {L : List Ent} (h : St S w0 w L) (n : Int) (hn : (Lit.int .i64 n).wf = true) :
    Calls Try.prog 13 #[.int .i64 n] w fun e w' => e = .returned (.int .i64 (sizeM n : Int)) ∧ w' = w := by
  have hl := bkt_le n
  by_cases h0 : bkt n = 0
  · have hs : sizeM n = 0 := if_pos h0
    rw [hs]
    go_enter Try.func13, Try.ntmps13
    go_wp2_with (first
      | (go_at_call 14; refine (bkt_ref h n hn).mono ?_; rw [h0]; rintro e w ⟨rfl, rfl⟩))
    go_ret
    exact ⟨rfl, rfl⟩
  · have hs : sizeM n = 44 + bkt n := if_neg h0
    rw [hs]
    have hz : (0 : Int) < (bkt n : Int) := by omega
    go_enter Try.func13, Try.ntmps13
    go_wp2_with (first
      | (go_at_call 14; refine (bkt_ref h n hn).mono ?_; rintro e w ⟨rfl, rfl⟩))
    go_ret
    exact ⟨by push_cast; rw [Int.add_comm]; rfl, rfl⟩
end Go.Proofs.Ytcmgjoamfjijhaa
