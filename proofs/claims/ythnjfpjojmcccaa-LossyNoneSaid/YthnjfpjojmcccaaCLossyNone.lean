/- The law LossyNone: a line that nobody made keeps nothing. -/
import Derived.Test.YthnjfpjojmcccaaCLossyAwake
namespace Go.Proofs.Ythnjfpjojmcccaa
open Go.RowKit Go.Shelf
set_option linter.unusedVariables false
set_option linter.unusedSimpArgs false

set_option maxRecDepth 100000 in
theorem send_nil {w : World} {B : Option Addr} {m d : Nat} : Calls Try.prog 26 #[.pointer none, .slice B m d] w fun e w' => e = .returned (.tuple #[]) ∧ w' = w := by
  refine callsIn_wide.1 (callsIn_of_wp_marks (F := Fence.wide) (n := 3) Try.func26 rfl trivial ?_ rfl)
  simp only [Try.ntmps26, List.size_toArray, List.length_cons, List.length_nil, Nat.reduceAdd, Nat.reduceSub, Array.replicate_succ, Array.replicate_zero, List.push_toArray, List.append_toArray, List.nil_append, List.cons_append]
  refine wpIn_wide.2 ?_
  go_wp2
  go_step3
  go_wp2
  try rw [Exit.noGoto_ret]
  refine ret_plain (results_none rfl _ _ _) rfl ⟨rfl, rfl⟩
set_option maxRecDepth 100000 in
theorem send_none {S : Nat → Prop} {w0 w : World} {L F : List Ent} {g : Nat} {B : Option Addr} {m d : Nat} (h : St S w0 w L) [sl : SlotB L g 86 (c_lossy_Link (.slice none 0 0) (.int .i64 0) (.slice none 0 0) (.bool false)) F] : Calls Try.prog 26 #[.pointer (some ⟨g, 0, none⟩), .slice B m d] w fun e w' => e = .returned (.tuple #[]) ∧ w' = w := by
  refine callsIn_wide.1 (callsIn_of_wp_marks (F := Fence.wide) (n := 3) Try.func26 rfl trivial ?_ rfl)
  simp only [Try.ntmps26, List.size_toArray, List.length_cons, List.length_nil, Nat.reduceAdd, Nat.reduceSub, Array.replicate_succ, Array.replicate_zero, List.push_toArray, List.append_toArray, List.nil_append, List.cons_append]
  refine wpIn_wide.2 ?_
  go_wp2_with (first | (refine wl_reads rfl (ex_loadv h _ _ rfl _ _ rfl) ?_))
  go_step3
  go_wp2_with (first | (refine wl_reads rfl (ex_loadv h _ _ rfl _ _ rfl) ?_))
  try rw [Exit.noGoto_ret]
  refine ret_plain (results_none rfl _ _ _) rfl ⟨rfl, rfl⟩
theorem waiting_nil {w : World} : Calls Try.prog 30 #[.pointer none] w fun e w' => e = .returned (.int .i64 0) ∧ w' = w := by
  go_enter Try.func30, Try.ntmps30
  go_wp2
  go_ret
  exact ⟨rfl, rfl⟩
theorem waiting_none {S : Nat → Prop} {w0 w : World} {L F : List Ent} {g : Nat} (h : St S w0 w L) [sl : SlotB L g 86 (c_lossy_Link (.slice none 0 0) (.int .i64 0) (.slice none 0 0) (.bool false)) F] : Calls Try.prog 30 #[.pointer (some ⟨g, 0, none⟩)] w fun e w' => e = .returned (.int .i64 0) ∧ w' = w := by
  go_enter Try.func30, Try.ntmps30
  go_wp2_with (first | (refine wl_reads rfl (ex_loadv h _ _ rfl _ _ rfl) ?_))
  go_ret
  exact ⟨rfl, rfl⟩
theorem receive_nil {w : World} : Calls Try.prog 28 #[.pointer none] w fun e w' => e = .returned (.tuple #[.slice none 0 0, .bool false]) ∧ w' = w := by
  go_enter Try.func28, Try.ntmps28
  go_wp2_with (first | (go_at_call 30; refine waiting_nil.mono ?_; rintro e w ⟨rfl, rfl⟩))
  go_ret2
  exact ⟨rfl, rfl⟩
theorem receive_none {S : Nat → Prop} {w0 w : World} {L F : List Ent} {g : Nat} (h : St S w0 w L) [sl : SlotB L g 86 (c_lossy_Link (.slice none 0 0) (.int .i64 0) (.slice none 0 0) (.bool false)) F] : Calls Try.prog 28 #[.pointer (some ⟨g, 0, none⟩)] w fun e w' => e = .returned (.tuple #[.slice none 0 0, .bool false]) ∧ w' = w := by
  go_enter Try.func28, Try.ntmps28
  go_wp2_with (first | (go_at_call 30; refine (waiting_none (g := g) h).mono ?_; rintro e w ⟨rfl, rfl⟩))
  go_ret2
  exact ⟨rfl, rfl⟩
set_option maxRecDepth 100000 in
set_option maxHeartbeats 2000000 in
theorem walk_LossyNone {w0 : World} {B : Option Addr} {n c : Nat} {b : List UInt8} (hb : Sl w0 B n c 1 (u8s b)) :
    Calls Try.prog 8 #[.slice B n c] w0 fun e w' => e = .returned (.bool true) ∧ Below w0.heap.size w0 w' := by
  have h := St.read0 hb (by omega)
  have t1 := True.intro
  have t2 := True.intro
  have t3 := True.intro
  have t4 := True.intro
  have t5 := True.intro
  have t6 := True.intro
  go_enter Try.func8, Try.ntmps8
  go_wp2_with (first
    | (go_at_call 24; refine (lossy_awake h).mono ?_; clear h; rintro e w ⟨rfl, h⟩)
    | (refine wl_at 12 rfl ?_; refine wl_runs rfl (ex_box h 86 _ rfl (c_lossy_Link (.slice none 0 0) (.int .i64 0) (.slice none 0 0) (.bool false)) rfl) ?_; clear h; rintro _ w ⟨g, rfl, h⟩)
    | (clear t1; go_at_call 26; refine send_nil.mono ?_; rintro e w ⟨rfl, rfl⟩)
    | (clear t2; go_at_call 26; refine (send_none (g := g) h).mono ?_; rintro e w ⟨rfl, rfl⟩)
    | (clear t3; go_at_call 28; refine receive_nil.mono ?_; rintro e w ⟨rfl, rfl⟩)
    | (clear t4; go_at_call 28; refine (receive_none (g := g) h).mono ?_; rintro e w ⟨rfl, rfl⟩)
    | (clear t5; go_at_call 30; refine waiting_nil.mono ?_; rintro e w ⟨rfl, rfl⟩)
    | (clear t6; go_at_call 30; refine (waiting_none (g := g) h).mono ?_; rintro e w ⟨rfl, rfl⟩)
    | (refine wl_reads rfl (ex_lit0 _ rfl) ?_))
  go_ret
  exact ⟨rfl, h.step.below⟩
end Go.Proofs.Ythnjfpjojmcccaa
