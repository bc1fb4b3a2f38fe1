/- The law EnvelPuts: any envelope as bytes, or refused. -/
import Derived.Test.YtemhfociaikijaaAwake09
import Derived.Test.YtemhfociaikijaaOpenEnv
namespace Go.Proofs.Ytemhfociaikijaa
open Go.RowKit

set_option maxRecDepth 100000 in
set_option maxHeartbeats 2000000 in
theorem walk_EnvelPuts {w : World} {e : Env} {A B : Option Addr} {n c m d : Nat} (he : EnvIs w e A n c B m d) :
    Calls Try.prog 10 #[.agg #[.int .i64 e.kind, .int .u32 e.realm, .int .u32 e.epoch, .slice A n c, .slice B m d]] w fun r w' => r = .returned (.bool true) ∧ Below w.heap.size w w' := by
  by_cases hfew : 40 < n ∨ 1000 < m
  · have hf : (decide (n ≤ 40) && decide (m ≤ 1000)) = false := by
      rcases hfew with h | h
      · have : ¬ n ≤ 40 := by omega
        simp [this]
      · have : ¬ m ≤ 1000 := by omega
        simp [this]
    have Hf := Lib.hid hf
    clear hf
    go_enter Try.func10, Try.ntmps10
    go_wp2_with (first
      | (refine wl_box rfl 73 (.tmp 0) rfl (.agg #[.int .i64 e.kind, .int .u32 e.realm, .int .u32 e.epoch, .slice A n c, .slice B m d]) rfl ?_; intro w1 hb1 hS1 hz1; replace hb1 : Blk w1 w.heap.size 73 #[.int .i64 e.kind, .int .u32 e.realm, .int .u32 e.epoch, .slice A n c, .slice B m d] := hb1; clear hz1)
      | (go_at_call 36; refine (envel_awake _).mono ?_; rintro r w2 ⟨rfl, hS2⟩)
      | (refine wl_load rfl 73 _ rfl w.heap.size 0 rfl [.int .i64 e.kind, .int .u32 e.realm, .int .u32 e.epoch, .slice A n c, .slice B m d] _ Try.underlying73 rfl env_size (hb1.step hS2 id).cells ?_)
      | (go_at_call 37; refine few_env.mono ?_; rintro r w3 ⟨rfl, hS3⟩; rw [Hf.out]))
    go_ret
    exact ⟨rfl, ((hS1.tr hS2).tr hS3).below⟩
  · have hn : n ≤ 40 := by omega
    have hm : m ≤ 1000 := by omega
    have hf : (decide (n ≤ 40) && decide (m ≤ 1000)) = true := by simp [hn, hm]
    have Hf := Lib.hid hf
    clear hf hfew
    obtain ⟨out, ho⟩ : ∃ out : List UInt8, (if mayM e = true then putB e else []) = out := ⟨_, rfl⟩
    obtain ⟨E, hE⟩ : ∃ E : Int, (if mayM e = true then 0 else 90) = E := ⟨_, rfl⟩
    have Ho := Lib.hid ho
    have HE := Lib.hid hE
    have hto := str_toList out
    have hoo : (out == out) = true := by simp
    clear ho hE
    go_enter Try.func10, Try.ntmps10
    go_wp2_with (first
      | (refine wl_box rfl 73 (.tmp 0) rfl (.agg #[.int .i64 e.kind, .int .u32 e.realm, .int .u32 e.epoch, .slice A n c, .slice B m d]) rfl ?_; intro w1 hb1 hS1 hz1; replace hb1 : Blk w1 w.heap.size 73 #[.int .i64 e.kind, .int .u32 e.realm, .int .u32 e.epoch, .slice A n c, .slice B m d] := hb1; clear hz1)
      | (go_at_call 36; refine (envel_awake _).mono ?_; rintro r w2 ⟨rfl, hS2⟩; have hb2 := hb1.step hS2 id; have he2 := (he.keep hS1).keep hS2; clear hb1)
      | (refine wl_load rfl 73 _ rfl w.heap.size 0 rfl [.int .i64 e.kind, .int .u32 e.realm, .int .u32 e.epoch, .slice A n c, .slice B m d] _ Try.underlying73 rfl env_size hb2.cells ?_)
      | (go_at_call 37; refine few_env.mono ?_; rintro r w3 ⟨rfl, hS3⟩; rw [Hf.out]; have hb3 := hb2.step hS3 id; have he3 := he2.keep hS3; clear hb2 he2)
      | (refine wl_load rfl 73 _ rfl w.heap.size 0 rfl [.int .i64 e.kind, .int .u32 e.realm, .int .u32 e.epoch, .slice A n c, .slice B m d] _ Try.underlying73 rfl env_size hb3.cells ?_)
      | (go_at_call 38; refine (put_code he3 (by omega) (by omega)).mono ?_; rintro r w4 ⟨A4, n4, c4, rfl, hs4, hS4, _⟩; rw [Ho.out] at hs4; rw [HE.out]; have hb4 := hb3.step hS4 id; have he4 := he3.keep hS4; clear hb3 he3)
      | (refine wl_load rfl 73 _ rfl w.heap.size 0 rfl [.int .i64 e.kind, .int .u32 e.realm, .int .u32 e.epoch, .slice A n c, .slice B m d] _ Try.underlying73 rfl env_size hb4.cells ?_)
      | (go_at_call 39; refine (put_ref he4 (by omega) (by omega)).mono ?_; rintro r w5 ⟨A5, n5, c5, rfl, hs5, hS5, _⟩; rw [Ho.out] at hs5; rw [HE.out]; have hb5 := hb4.step hS5 id; have he5 := he4.keep hS5; clear hb4 he4))
    have hcv4 : ∀ w', Step (fun _ => False) w5 w' → (convert 22 9 (.slice A4 n4 c4)).run Try.prog w' = .ok (.string (str out)) w' := fun w' h => run_bytes_string0 Try.underlying22 Try.underlying5 Try.underlying9 ((hs4.keep hS5).keep h)
    have hcv5 : ∀ w', Step (fun _ => False) w5 w' → (convert 22 9 (.slice A5 n5 c5)).run Try.prog w' = .ok (.string (str out)) w' := fun w' h => run_bytes_string0 Try.underlying22 Try.underlying5 Try.underlying9 (hs5.keep h)
    have hD : Step (fun _ => False) w5 w5.drew := (Step.refl _ _).drew
    have d0 : w5.drew.cell? ⟨w.heap.size, 0, none⟩ = some (.int .i64 e.kind) := hb5.cell 0
    have d1 : w5.drew.cell? ⟨w.heap.size, 1, none⟩ = some (.int .u32 e.realm) := hb5.cell 1
    have d2 : w5.drew.cell? ⟨w.heap.size, 2, none⟩ = some (.int .u32 e.epoch) := hb5.cell 2
    have d3 : w5.drew.cell? ⟨w.heap.size, 3, none⟩ = some (.slice A n c) := hb5.cell 3
    have d4 : w5.drew.cell? ⟨w.heap.size, 4, none⟩ = some (.slice B m d) := hb5.cell 4
    have heD := he5.keep hD
    by_cases hmay : mayM e = true
    · obtain rfl : 0 = E := by rw [← HE.out, if_pos hmay]
      have hk0 : 0 ≤ e.kind := by
        have := hmay
        simp only [mayM, Bool.and_eq_true, decide_eq_true_eq] at this
        omega
      have hta := str_toList (adB e)
      clear hmay
      go_region_held (fun w' => w'.cell? ⟨w.heap.size, 0, none⟩ = some (.int .i64 e.kind) ∧ w'.cell? ⟨w.heap.size, 1, none⟩ = some (.int .u32 e.realm) ∧ w'.cell? ⟨w.heap.size, 2, none⟩ = some (.int .u32 e.epoch) ∧ w'.cell? ⟨w.heap.size, 3, none⟩ = some (.slice A n c) ∧ w'.cell? ⟨w.heap.size, 4, none⟩ = some (.slice B m d) ∧ Step (fun _ => False) w5 w') (first | exact ⟨p0, p1, p2, p3, p4, hS58⟩ | exact ⟨f0, f1, f2, f3, f4, hS57⟩ | exact ⟨d0, d1, d2, d3, d4, hD⟩) ((first
        | (go_at_call 40; refine (ad_code heD hk0 (by omega)).mono ?_; rintro r w7 ⟨A7, n7, c7, rfl, hown7, hS7, _⟩; have hb7 := hb5.drew.step hS7 id; have f0 : w7.cell? ⟨w.heap.size, 0, none⟩ = some (.int .i64 e.kind) := hb7.cell 0; have f1 : w7.cell? ⟨w.heap.size, 1, none⟩ = some (.int .u32 e.realm) := hb7.cell 1; have f2 : w7.cell? ⟨w.heap.size, 2, none⟩ = some (.int .u32 e.epoch) := hb7.cell 2; have f3 : w7.cell? ⟨w.heap.size, 3, none⟩ = some (.slice A n c) := hb7.cell 3; have f4 : w7.cell? ⟨w.heap.size, 4, none⟩ = some (.slice B m d) := hb7.cell 4; have he7 := heD.keep hS7; have hS57 := hD.tr hS7; have hcv7 := run_bytes_string0 (P := Try.prog) (src := 22) (dst := 9) Try.underlying22 Try.underlying5 Try.underlying9 hown7.sl; clear heD)
        | (go_at_call 41; refine (ad_ref he7 hk0 (by omega)).mono ?_; rintro r w8 ⟨A8, n8, c8, rfl, hown8, hS8, _⟩; have hb8 := hb7.step hS8 id; have p0 : w8.cell? ⟨w.heap.size, 0, none⟩ = some (.int .i64 e.kind) := hb8.cell 0; have p1 : w8.cell? ⟨w.heap.size, 1, none⟩ = some (.int .u32 e.realm) := hb8.cell 1; have p2 : w8.cell? ⟨w.heap.size, 2, none⟩ = some (.int .u32 e.epoch) := hb8.cell 2; have p3 : w8.cell? ⟨w.heap.size, 3, none⟩ = some (.slice A n c) := hb8.cell 3; have p4 : w8.cell? ⟨w.heap.size, 4, none⟩ = some (.slice B m d) := hb8.cell 4; have hS58 := hS57.tr hS8; have hcv78 := run_bytes_string0 (P := Try.prog) (src := 22) (dst := 9) Try.underlying22 Try.underlying5 Try.underlying9 (hown7.sl.keep hS8); have hcv8 := run_bytes_string0 (P := Try.prog) (src := 22) (dst := 9) Try.underlying22 Try.underlying5 Try.underlying9 hown8.sl; clear he7)))
      all_goals
        go_wp2
        go_ret
        exact ⟨rfl, (((((hS1.tr hS2).tr hS3).tr hS4).tr hS5).tr hS58).below⟩
    · obtain rfl : 90 = E := by rw [← HE.out, if_neg hmay]
      have hq4 : ∀ k, (convert 22 9 (.slice A4 n4 c4)).run Try.prog (w5.drewN k) = .ok (.string (str out)) (w5.drewN k) := fun k => hcv4 _ ((Step.refl _ _).drewN k)
      have hq5 : ∀ k, (convert 22 9 (.slice A5 n5 c5)).run Try.prog (w5.drewN k) = .ok (.string (str out)) (w5.drewN k) := fun k => hcv5 _ ((Step.refl _ _).drewN k)
      clear hmay hcv4 hcv5 d0 d1 d2 d3 d4
      go_quiet (fail)
      go_wp2
      go_ret
      exact ⟨rfl, (((((hS1.tr hS2).tr hS3).tr hS4).tr hS5).drewN _).below⟩
end Go.Proofs.Ytemhfociaikijaa
